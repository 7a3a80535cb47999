/- The works of plain codes. -/
import Derived.Test.YtneganpbamemmaaGreatWorkB
set_option linter.unusedVariables false
set_option linter.unusedSimpArgs false
set_option linter.unusedSectionVars false
namespace Go.Proofs.YtneganpbamemmaaGreat
open Go Go.RowKit Sq
section
variable {m : Mac} {w : World} (hb : Base m w) (c : Cp) (sl : Nat → Int) (b : Bd)
include hb
set_option maxRecDepth 8000 in
set_option maxHeartbeats 4000000 in
theorem counts_13 (ho : c.Ok) : Calls Tryz.prog 125 #[.pointer (some ⟨m.c, 0, none⟩), .int .i64 13] (mk w m c sl b) fun e W => e = .returned (.tuple #[]) ∧ Lft w m (c.counts 13) sl b W := by
  obtain ⟨code0, code1⟩ := ho.code
  obtain ⟨ix0, ix1⟩ := ho.ix
  obtain ⟨lo0, lo1⟩ := ho.lo
  obtain ⟨hi0, hi1⟩ := ho.hi
  have hg := ho.g
  obtain ⟨cy0, cy1⟩ := cy_bd c.code
  obtain ⟨by0, by1⟩ := hg.byte (cy c.code) c.ix
  obtain ⟨rf0, rf1⟩ := ho.g.f
  obtain ⟨hv0, hv1⟩ := aInc_bd (c.g.byte (cy c.code) c.ix) c.g.f
  have HP := Lib.hid (show c.counts 13 = _ by simp [Cp.counts]; rfl)
  go_enter Tryz.func125, Tryz.ntmps125
  go_wp2_with (go_at_call 121; (try simp only [mk_drew, mk_drewN]); refine Calls.mono (cset_any (by first | assumption | exact Base.drew (by assumption) | exact Base.drewN (by assumption) _ | exact Base.alloc (by assumption) _) _ _ _ _) ?_; rintro e W ⟨rfl, rfl⟩)
  go_region_held3 (fun w' => w'.cell? ⟨m.c, 32, none⟩ = some (.int .u8 c.code) ∧ w'.cell? ⟨m.c, 33, none⟩ = some (.int .i64 c.ix) ∧ w'.cell? ⟨m.c, 1, none⟩ = some (.int .u8 c.g.f)) (first | exact ⟨cell_32 (by first | assumption | exact Base.drew (by assumption) | exact Base.drewN (by assumption) _ | exact Base.alloc (by assumption) _), cell_33 (by first | assumption | exact Base.drew (by assumption) | exact Base.drewN (by assumption) _ | exact Base.alloc (by assumption) _), cell_1 (by first | assumption | exact Base.drew (by assumption) | exact Base.drewN (by assumption) _ | exact Base.alloc (by assumption) _)⟩ | exact ⟨(by rw [World.cell?_drew]; exact cell_32 (by first | assumption | exact Base.drew (by assumption) | exact Base.drewN (by assumption) _ | exact Base.alloc (by assumption) _)), (by rw [World.cell?_drew]; exact cell_33 (by first | assumption | exact Base.drew (by assumption) | exact Base.drewN (by assumption) _ | exact Base.alloc (by assumption) _)), (by rw [World.cell?_drew]; exact cell_1 (by first | assumption | exact Base.drew (by assumption) | exact Base.drewN (by assumption) _ | exact Base.alloc (by assumption) _))⟩) (first | (go_at_call 87; (try simp only [mk_drew, mk_drewN]); refine Calls.mono (y_any _ _ (by first | assumption | omega) (by first | assumption | omega)) ?_; rintro e W ⟨rfl, rfl⟩) | (go_at_call 129; (try simp only [mk_drew, mk_drewN]); refine Calls.mono (byte_any (by first | assumption | exact Base.drew (by assumption) | exact Base.drewN (by assumption) _ | exact Base.alloc (by assumption) _) _ _ _ (by assumption) _ _ (by first | assumption | omega) (by first | assumption | omega) (by first | assumption | omega) (by first | assumption | omega)) ?_; rintro e W ⟨rfl, rfl⟩) | (go_at_call 171; (try simp only [mk_drew, mk_drewN]); refine Calls.mono (inc_any _ _ _ (by first | assumption | omega) (by first | assumption | omega)) ?_; rintro e W ⟨rfl, hx⟩; obtain ⟨w1, hx1, hb1, rfl⟩ := lift (by first | assumption | exact Base.drew (by assumption) | exact Base.drewN (by assumption) _ | exact Base.alloc (by assumption) _) hx; clear hx))
  all_goals go_wp2_with (go_at_call 121; (try simp only [mk_drew, mk_drewN]); refine Calls.mono (cset_any (by first | assumption | exact Base.drew (by assumption) | exact Base.drewN (by assumption) _ | exact Base.alloc (by assumption) _) _ _ _ _) ?_; rintro e W ⟨rfl, rfl⟩)
  go_region_held3 (fun w' => w'.cell? ⟨m.c, 32, none⟩ = some (.int .u8 c.code) ∧ w'.cell? ⟨m.c, 33, none⟩ = some (.int .i64 c.ix)) (first | exact ⟨cell_32 (by first | assumption | exact Base.drew (by assumption) | exact Base.drewN (by assumption) _ | exact Base.alloc (by assumption) _), cell_33 (by first | assumption | exact Base.drew (by assumption) | exact Base.drewN (by assumption) _ | exact Base.alloc (by assumption) _)⟩ | exact ⟨(by rw [World.cell?_drew]; exact cell_32 (by first | assumption | exact Base.drew (by assumption) | exact Base.drewN (by assumption) _ | exact Base.alloc (by assumption) _)), (by rw [World.cell?_drew]; exact cell_33 (by first | assumption | exact Base.drew (by assumption) | exact Base.drewN (by assumption) _ | exact Base.alloc (by assumption) _))⟩) (first | (go_at_call 87; (try simp only [mk_drew, mk_drewN]); refine Calls.mono (y_any _ _ (by first | assumption | omega) (by first | assumption | omega)) ?_; rintro e W ⟨rfl, rfl⟩) | (go_at_call 130; (try simp only [mk_drew, mk_drewN]); refine Calls.mono (putByte_any (by first | assumption | exact Base.drew (by assumption) | exact Base.drewN (by assumption) _ | exact Base.alloc (by assumption) _) _ _ _ (by assumption) _ _ _ (by first | assumption | omega) (by first | assumption | omega) (by first | assumption | omega) (by first | assumption | omega) (by first | assumption | omega) (by first | assumption | omega)) ?_; rintro e W ⟨rfl, rfl⟩))
  all_goals go_wp2_with (go_at_call 121; (try simp only [mk_drew, mk_drewN]); refine Calls.mono (cset_any (by first | assumption | exact Base.drew (by assumption) | exact Base.drewN (by assumption) _ | exact Base.alloc (by assumption) _) _ _ _ _) ?_; rintro e W ⟨rfl, rfl⟩)
  all_goals
    (first | go_end0 | refine bodyPost_ret (results_none rfl _ _ _) rfl ?_)
    refine ⟨rfl, ?_⟩
    rw [HP.out]
    exact Lft.mk' (by first | assumption | exact Base.drew (by assumption) | exact Base.drewN (by assumption) _ | exact Base.alloc (by assumption) _) (by repeat (first | exact Ext.refl _ | assumption | refine Ext.drew' ?_ | refine Ext.drewN' ?_ _ | refine Ext.alloc' ?_ _ | refine Ext.trans ?_ (by assumption)))
set_option maxRecDepth 8000 in
set_option maxHeartbeats 4000000 in
theorem counts_14 (ho : c.Ok) : Calls Tryz.prog 125 #[.pointer (some ⟨m.c, 0, none⟩), .int .i64 14] (mk w m c sl b) fun e W => e = .returned (.tuple #[]) ∧ Lft w m (c.counts 14) sl b W := by
  obtain ⟨code0, code1⟩ := ho.code
  obtain ⟨ix0, ix1⟩ := ho.ix
  obtain ⟨lo0, lo1⟩ := ho.lo
  obtain ⟨hi0, hi1⟩ := ho.hi
  have hg := ho.g
  obtain ⟨cy0, cy1⟩ := cy_bd c.code
  obtain ⟨by0, by1⟩ := hg.byte (cy c.code) c.ix
  obtain ⟨rf0, rf1⟩ := ho.g.f
  obtain ⟨hv0, hv1⟩ := aDec_bd (c.g.byte (cy c.code) c.ix) c.g.f
  have HP := Lib.hid (show c.counts 14 = _ by simp [Cp.counts]; rfl)
  go_enter Tryz.func125, Tryz.ntmps125
  go_wp2_with (go_at_call 121; (try simp only [mk_drew, mk_drewN]); refine Calls.mono (cset_any (by first | assumption | exact Base.drew (by assumption) | exact Base.drewN (by assumption) _ | exact Base.alloc (by assumption) _) _ _ _ _) ?_; rintro e W ⟨rfl, rfl⟩)
  go_region_held3 (fun w' => w'.cell? ⟨m.c, 32, none⟩ = some (.int .u8 c.code) ∧ w'.cell? ⟨m.c, 33, none⟩ = some (.int .i64 c.ix) ∧ w'.cell? ⟨m.c, 1, none⟩ = some (.int .u8 c.g.f)) (first | exact ⟨cell_32 (by first | assumption | exact Base.drew (by assumption) | exact Base.drewN (by assumption) _ | exact Base.alloc (by assumption) _), cell_33 (by first | assumption | exact Base.drew (by assumption) | exact Base.drewN (by assumption) _ | exact Base.alloc (by assumption) _), cell_1 (by first | assumption | exact Base.drew (by assumption) | exact Base.drewN (by assumption) _ | exact Base.alloc (by assumption) _)⟩ | exact ⟨(by rw [World.cell?_drew]; exact cell_32 (by first | assumption | exact Base.drew (by assumption) | exact Base.drewN (by assumption) _ | exact Base.alloc (by assumption) _)), (by rw [World.cell?_drew]; exact cell_33 (by first | assumption | exact Base.drew (by assumption) | exact Base.drewN (by assumption) _ | exact Base.alloc (by assumption) _)), (by rw [World.cell?_drew]; exact cell_1 (by first | assumption | exact Base.drew (by assumption) | exact Base.drewN (by assumption) _ | exact Base.alloc (by assumption) _))⟩) (first | (go_at_call 87; (try simp only [mk_drew, mk_drewN]); refine Calls.mono (y_any _ _ (by first | assumption | omega) (by first | assumption | omega)) ?_; rintro e W ⟨rfl, rfl⟩) | (go_at_call 129; (try simp only [mk_drew, mk_drewN]); refine Calls.mono (byte_any (by first | assumption | exact Base.drew (by assumption) | exact Base.drewN (by assumption) _ | exact Base.alloc (by assumption) _) _ _ _ (by assumption) _ _ (by first | assumption | omega) (by first | assumption | omega) (by first | assumption | omega) (by first | assumption | omega)) ?_; rintro e W ⟨rfl, rfl⟩) | (go_at_call 172; (try simp only [mk_drew, mk_drewN]); refine Calls.mono (dec_any _ _ _ (by first | assumption | omega) (by first | assumption | omega)) ?_; rintro e W ⟨rfl, hx⟩; obtain ⟨w1, hx1, hb1, rfl⟩ := lift (by first | assumption | exact Base.drew (by assumption) | exact Base.drewN (by assumption) _ | exact Base.alloc (by assumption) _) hx; clear hx))
  all_goals go_wp2_with (go_at_call 121; (try simp only [mk_drew, mk_drewN]); refine Calls.mono (cset_any (by first | assumption | exact Base.drew (by assumption) | exact Base.drewN (by assumption) _ | exact Base.alloc (by assumption) _) _ _ _ _) ?_; rintro e W ⟨rfl, rfl⟩)
  go_region_held3 (fun w' => w'.cell? ⟨m.c, 32, none⟩ = some (.int .u8 c.code) ∧ w'.cell? ⟨m.c, 33, none⟩ = some (.int .i64 c.ix)) (first | exact ⟨cell_32 (by first | assumption | exact Base.drew (by assumption) | exact Base.drewN (by assumption) _ | exact Base.alloc (by assumption) _), cell_33 (by first | assumption | exact Base.drew (by assumption) | exact Base.drewN (by assumption) _ | exact Base.alloc (by assumption) _)⟩ | exact ⟨(by rw [World.cell?_drew]; exact cell_32 (by first | assumption | exact Base.drew (by assumption) | exact Base.drewN (by assumption) _ | exact Base.alloc (by assumption) _)), (by rw [World.cell?_drew]; exact cell_33 (by first | assumption | exact Base.drew (by assumption) | exact Base.drewN (by assumption) _ | exact Base.alloc (by assumption) _))⟩) (first | (go_at_call 87; (try simp only [mk_drew, mk_drewN]); refine Calls.mono (y_any _ _ (by first | assumption | omega) (by first | assumption | omega)) ?_; rintro e W ⟨rfl, rfl⟩) | (go_at_call 130; (try simp only [mk_drew, mk_drewN]); refine Calls.mono (putByte_any (by first | assumption | exact Base.drew (by assumption) | exact Base.drewN (by assumption) _ | exact Base.alloc (by assumption) _) _ _ _ (by assumption) _ _ _ (by first | assumption | omega) (by first | assumption | omega) (by first | assumption | omega) (by first | assumption | omega) (by first | assumption | omega) (by first | assumption | omega)) ?_; rintro e W ⟨rfl, rfl⟩))
  all_goals go_wp2_with (go_at_call 121; (try simp only [mk_drew, mk_drewN]); refine Calls.mono (cset_any (by first | assumption | exact Base.drew (by assumption) | exact Base.drewN (by assumption) _ | exact Base.alloc (by assumption) _) _ _ _ _) ?_; rintro e W ⟨rfl, rfl⟩)
  all_goals
    (first | go_end0 | refine bodyPost_ret (results_none rfl _ _ _) rfl ?_)
    refine ⟨rfl, ?_⟩
    rw [HP.out]
    exact Lft.mk' (by first | assumption | exact Base.drew (by assumption) | exact Base.drewN (by assumption) _ | exact Base.alloc (by assumption) _) (by repeat (first | exact Ext.refl _ | assumption | refine Ext.drew' ?_ | refine Ext.drewN' ?_ _ | refine Ext.alloc' ?_ _ | refine Ext.trans ?_ (by assumption)))
set_option maxRecDepth 8000 in
set_option maxHeartbeats 4000000 in
theorem counts_15 (ho : c.Ok) : Calls Tryz.prog 125 #[.pointer (some ⟨m.c, 0, none⟩), .int .i64 15] (mk w m c sl b) fun e W => e = .returned (.tuple #[]) ∧ Lft w m (c.counts 15) sl b W := by
  obtain ⟨code0, code1⟩ := ho.code
  obtain ⟨ix0, ix1⟩ := ho.ix
  obtain ⟨lo0, lo1⟩ := ho.lo
  obtain ⟨hi0, hi1⟩ := ho.hi
  have hg := ho.g
  obtain ⟨rf0, rf1⟩ := ho.g.f
  have HP := Lib.hid (show c.counts 15 = _ by simp [Cp.counts]; rfl)
  go_enter Tryz.func125, Tryz.ntmps125
  go_wp2_with (go_at_call 121; (try simp only [mk_drew, mk_drewN]); refine Calls.mono (cset_any (by first | assumption | exact Base.drew (by assumption) | exact Base.drewN (by assumption) _ | exact Base.alloc (by assumption) _) _ _ _ _) ?_; rintro e W ⟨rfl, rfl⟩)
  go_region_with (go_at_call 171; (try simp only [mk_drew, mk_drewN]); refine Calls.mono (inc_any _ _ _ (by first | assumption | omega) (by first | assumption | omega)) ?_; rintro e W ⟨rfl, hx⟩; obtain ⟨w1, hx1, hb1, rfl⟩ := lift (by first | assumption | exact Base.drew (by assumption) | exact Base.drewN (by assumption) _ | exact Base.alloc (by assumption) _) hx; clear hx)
  all_goals go_wp2_with (go_at_call 121; (try simp only [mk_drew, mk_drewN]); refine Calls.mono (cset_any (by first | assumption | exact Base.drew (by assumption) | exact Base.drewN (by assumption) _ | exact Base.alloc (by assumption) _) _ _ _ _) ?_; rintro e W ⟨rfl, rfl⟩)
  all_goals
    (first | go_end0 | refine bodyPost_ret (results_none rfl _ _ _) rfl ?_)
    refine ⟨rfl, ?_⟩
    rw [HP.out]
    exact Lft.mk' (by first | assumption | exact Base.drew (by assumption) | exact Base.drewN (by assumption) _ | exact Base.alloc (by assumption) _) (by repeat (first | exact Ext.refl _ | assumption | refine Ext.drew' ?_ | refine Ext.drewN' ?_ _ | refine Ext.alloc' ?_ _ | refine Ext.trans ?_ (by assumption)))
set_option maxRecDepth 8000 in
set_option maxHeartbeats 4000000 in
theorem counts_16 (ho : c.Ok) : Calls Tryz.prog 125 #[.pointer (some ⟨m.c, 0, none⟩), .int .i64 16] (mk w m c sl b) fun e W => e = .returned (.tuple #[]) ∧ Lft w m (c.counts 16) sl b W := by
  obtain ⟨code0, code1⟩ := ho.code
  obtain ⟨ix0, ix1⟩ := ho.ix
  obtain ⟨lo0, lo1⟩ := ho.lo
  obtain ⟨hi0, hi1⟩ := ho.hi
  have hg := ho.g
  obtain ⟨rf0, rf1⟩ := ho.g.f
  have HP := Lib.hid (show c.counts 16 = _ by simp [Cp.counts]; rfl)
  go_enter Tryz.func125, Tryz.ntmps125
  go_wp2_with (go_at_call 121; (try simp only [mk_drew, mk_drewN]); refine Calls.mono (cset_any (by first | assumption | exact Base.drew (by assumption) | exact Base.drewN (by assumption) _ | exact Base.alloc (by assumption) _) _ _ _ _) ?_; rintro e W ⟨rfl, rfl⟩)
  go_region_with (go_at_call 172; (try simp only [mk_drew, mk_drewN]); refine Calls.mono (dec_any _ _ _ (by first | assumption | omega) (by first | assumption | omega)) ?_; rintro e W ⟨rfl, hx⟩; obtain ⟨w1, hx1, hb1, rfl⟩ := lift (by first | assumption | exact Base.drew (by assumption) | exact Base.drewN (by assumption) _ | exact Base.alloc (by assumption) _) hx; clear hx)
  all_goals go_wp2_with (go_at_call 121; (try simp only [mk_drew, mk_drewN]); refine Calls.mono (cset_any (by first | assumption | exact Base.drew (by assumption) | exact Base.drewN (by assumption) _ | exact Base.alloc (by assumption) _) _ _ _ _) ?_; rintro e W ⟨rfl, rfl⟩)
  all_goals
    (first | go_end0 | refine bodyPost_ret (results_none rfl _ _ _) rfl ?_)
    refine ⟨rfl, ?_⟩
    rw [HP.out]
    exact Lft.mk' (by first | assumption | exact Base.drew (by assumption) | exact Base.drewN (by assumption) _ | exact Base.alloc (by assumption) _) (by repeat (first | exact Ext.refl _ | assumption | refine Ext.drew' ?_ | refine Ext.drewN' ?_ _ | refine Ext.alloc' ?_ _ | refine Ext.trans ?_ (by assumption)))
set_option maxRecDepth 8000 in
set_option maxHeartbeats 4000000 in
theorem counts_17 (ho : c.Ok) : Calls Tryz.prog 125 #[.pointer (some ⟨m.c, 0, none⟩), .int .i64 17] (mk w m c sl b) fun e W => e = .returned (.tuple #[]) ∧ Lft w m (c.counts 17) sl b W := by
  obtain ⟨code0, code1⟩ := ho.code
  obtain ⟨ix0, ix1⟩ := ho.ix
  obtain ⟨lo0, lo1⟩ := ho.lo
  obtain ⟨hi0, hi1⟩ := ho.hi
  have hg := ho.g
  obtain ⟨cy0, cy1⟩ := cy_bd c.code
  obtain ⟨pl0, pl1⟩ := ho.plain
  have HP := Lib.hid (show c.counts 17 = _ by simp [Cp.counts]; rfl)
  go_enter Tryz.func125, Tryz.ntmps125
  go_wp2
  go_region_held3 (fun w' => w'.cell? ⟨m.c, 32, none⟩ = some (.int .u8 c.code) ∧ w'.cell? ⟨m.c, 36, none⟩ = some (.int .u8 c.lo)) (first | exact ⟨cell_32 (by first | assumption | exact Base.drew (by assumption) | exact Base.drewN (by assumption) _ | exact Base.alloc (by assumption) _), cell_36 (by first | assumption | exact Base.drew (by assumption) | exact Base.drewN (by assumption) _ | exact Base.alloc (by assumption) _)⟩ | exact ⟨(by rw [World.cell?_drew]; exact cell_32 (by first | assumption | exact Base.drew (by assumption) | exact Base.drewN (by assumption) _ | exact Base.alloc (by assumption) _)), (by rw [World.cell?_drew]; exact cell_36 (by first | assumption | exact Base.drew (by assumption) | exact Base.drewN (by assumption) _ | exact Base.alloc (by assumption) _))⟩) (first | (go_at_call 87; (try simp only [mk_drew, mk_drewN]); refine Calls.mono (y_any _ _ (by first | assumption | omega) (by first | assumption | omega)) ?_; rintro e W ⟨rfl, rfl⟩) | (go_at_call 173; (try simp only [mk_drew, mk_drewN]); refine Calls.mono (plain_any (by first | assumption | exact Base.drew (by assumption) | exact Base.drewN (by assumption) _ | exact Base.alloc (by assumption) _) _ _ _ (by assumption)) ?_; rintro e W ⟨rfl, rfl⟩) | (go_at_call 130; (try simp only [mk_drew, mk_drewN]); refine Calls.mono (putByte_any (by first | assumption | exact Base.drew (by assumption) | exact Base.drewN (by assumption) _ | exact Base.alloc (by assumption) _) _ _ _ (by assumption) _ _ _ (by first | assumption | omega) (by first | assumption | omega) (by first | assumption | omega) (by first | assumption | omega) (by first | assumption | omega) (by first | assumption | omega)) ?_; rintro e W ⟨rfl, rfl⟩))
  all_goals go_wp2
  all_goals
    (first | go_end0 | refine bodyPost_ret (results_none rfl _ _ _) rfl ?_)
    refine ⟨rfl, ?_⟩
    rw [HP.out]
    exact Lft.mk' (by first | assumption | exact Base.drew (by assumption) | exact Base.drewN (by assumption) _ | exact Base.alloc (by assumption) _) (by repeat (first | exact Ext.refl _ | assumption | refine Ext.drew' ?_ | refine Ext.drewN' ?_ _ | refine Ext.alloc' ?_ _ | refine Ext.trans ?_ (by assumption)))
set_option maxRecDepth 8000 in
set_option maxHeartbeats 4000000 in
theorem counts_19 (ho : c.Ok) : Calls Tryz.prog 125 #[.pointer (some ⟨m.c, 0, none⟩), .int .i64 19] (mk w m c sl b) fun e W => e = .returned (.tuple #[]) ∧ Lft w m (c.counts 19) sl b W := by
  obtain ⟨code0, code1⟩ := ho.code
  obtain ⟨ix0, ix1⟩ := ho.ix
  obtain ⟨lo0, lo1⟩ := ho.lo
  obtain ⟨hi0, hi1⟩ := ho.hi
  have hg := ho.g
  have HP := Lib.hid (show c.counts 19 = _ by simp [Cp.counts]; rfl)
  go_enter Tryz.func125, Tryz.ntmps125
  go_wp2_with (first | (go_at_call 174; (try simp only [mk_drew, mk_drewN]); refine Calls.mono (cacc_any (by first | assumption | exact Base.drew (by assumption) | exact Base.drewN (by assumption) _ | exact Base.alloc (by assumption) _) _ _ _ (by assumption)) ?_; rintro e W ⟨rfl, w1, hx1, hb1, rfl⟩) | (go_at_call 121; (try simp only [mk_drew, mk_drewN]); refine Calls.mono (cset_any (by first | assumption | exact Base.drew (by assumption) | exact Base.drewN (by assumption) _ | exact Base.alloc (by assumption) _) _ _ _ _) ?_; rintro e W ⟨rfl, rfl⟩))
  all_goals
    (first | go_end0 | refine bodyPost_ret (results_none rfl _ _ _) rfl ?_)
    refine ⟨rfl, ?_⟩
    rw [HP.out]
    exact Lft.mk' (by first | assumption | exact Base.drew (by assumption) | exact Base.drewN (by assumption) _ | exact Base.alloc (by assumption) _) (by repeat (first | exact Ext.refl _ | assumption | refine Ext.drew' ?_ | refine Ext.drewN' ?_ _ | refine Ext.alloc' ?_ _ | refine Ext.trans ?_ (by assumption)))
set_option maxRecDepth 8000 in
set_option maxHeartbeats 4000000 in
theorem counts_20 (ho : c.Ok) : Calls Tryz.prog 125 #[.pointer (some ⟨m.c, 0, none⟩), .int .i64 20] (mk w m c sl b) fun e W => e = .returned (.tuple #[]) ∧ Lft w m (c.counts 20) sl b W := by
  obtain ⟨code0, code1⟩ := ho.code
  obtain ⟨ix0, ix1⟩ := ho.ix
  obtain ⟨lo0, lo1⟩ := ho.lo
  obtain ⟨hi0, hi1⟩ := ho.hi
  have hg := ho.g
  have HP := Lib.hid (show c.counts 20 = _ by simp [Cp.counts]; rfl)
  go_enter Tryz.func125, Tryz.ntmps125
  go_wp2
  all_goals
    (first | go_end0 | refine bodyPost_ret (results_none rfl _ _ _) rfl ?_)
    refine ⟨rfl, ?_⟩
    rw [HP.out]
    exact Lft.mk' (by first | assumption | exact Base.drew (by assumption) | exact Base.drewN (by assumption) _ | exact Base.alloc (by assumption) _) (by repeat (first | exact Ext.refl _ | assumption | refine Ext.drew' ?_ | refine Ext.drewN' ?_ _ | refine Ext.alloc' ?_ _ | refine Ext.trans ?_ (by assumption)))
set_option maxRecDepth 8000 in
set_option maxHeartbeats 4000000 in
theorem counts_21 (ho : c.Ok) : Calls Tryz.prog 125 #[.pointer (some ⟨m.c, 0, none⟩), .int .i64 21] (mk w m c sl b) fun e W => e = .returned (.tuple #[]) ∧ Lft w m (c.counts 21) sl b W := by
  obtain ⟨code0, code1⟩ := ho.code
  obtain ⟨ix0, ix1⟩ := ho.ix
  obtain ⟨lo0, lo1⟩ := ho.lo
  obtain ⟨hi0, hi1⟩ := ho.hi
  have hg := ho.g
  obtain ⟨cy0, cy1⟩ := cy_bd c.code
  obtain ⟨cz0, cz1⟩ := cz_bd c.code
  obtain ⟨bz0, bz1⟩ := hg.byte (cz c.code) c.ix
  have HP := Lib.hid (show c.counts 21 = _ by simp [Cp.counts]; rfl)
  go_enter Tryz.func125, Tryz.ntmps125
  go_wp2
  go_region_held3 (fun w' => w'.cell? ⟨m.c, 32, none⟩ = some (.int .u8 c.code) ∧ w'.cell? ⟨m.c, 33, none⟩ = some (.int .i64 c.ix)) (first | exact ⟨cell_32 (by first | assumption | exact Base.drew (by assumption) | exact Base.drewN (by assumption) _ | exact Base.alloc (by assumption) _), cell_33 (by first | assumption | exact Base.drew (by assumption) | exact Base.drewN (by assumption) _ | exact Base.alloc (by assumption) _)⟩ | exact ⟨(by rw [World.cell?_drew]; exact cell_32 (by first | assumption | exact Base.drew (by assumption) | exact Base.drewN (by assumption) _ | exact Base.alloc (by assumption) _)), (by rw [World.cell?_drew]; exact cell_33 (by first | assumption | exact Base.drew (by assumption) | exact Base.drewN (by assumption) _ | exact Base.alloc (by assumption) _))⟩) (first | (go_at_call 87; (try simp only [mk_drew, mk_drewN]); refine Calls.mono (y_any _ _ (by first | assumption | omega) (by first | assumption | omega)) ?_; rintro e W ⟨rfl, rfl⟩) | (go_at_call 88; (try simp only [mk_drew, mk_drewN]); refine Calls.mono (z_any _ _ (by first | assumption | omega) (by first | assumption | omega)) ?_; rintro e W ⟨rfl, rfl⟩) | (go_at_call 129; (try simp only [mk_drew, mk_drewN]); refine Calls.mono (byte_any (by first | assumption | exact Base.drew (by assumption) | exact Base.drewN (by assumption) _ | exact Base.alloc (by assumption) _) _ _ _ (by assumption) _ _ (by first | assumption | omega) (by first | assumption | omega) (by first | assumption | omega) (by first | assumption | omega)) ?_; rintro e W ⟨rfl, rfl⟩) | (go_at_call 130; (try simp only [mk_drew, mk_drewN]); refine Calls.mono (putByte_any (by first | assumption | exact Base.drew (by assumption) | exact Base.drewN (by assumption) _ | exact Base.alloc (by assumption) _) _ _ _ (by assumption) _ _ _ (by first | assumption | omega) (by first | assumption | omega) (by first | assumption | omega) (by first | assumption | omega) (by first | assumption | omega) (by first | assumption | omega)) ?_; rintro e W ⟨rfl, rfl⟩))
  all_goals go_wp2
  all_goals
    (first | go_end0 | refine bodyPost_ret (results_none rfl _ _ _) rfl ?_)
    refine ⟨rfl, ?_⟩
    rw [HP.out]
    exact Lft.mk' (by first | assumption | exact Base.drew (by assumption) | exact Base.drewN (by assumption) _ | exact Base.alloc (by assumption) _) (by repeat (first | exact Ext.refl _ | assumption | refine Ext.drew' ?_ | refine Ext.drewN' ?_ _ | refine Ext.alloc' ?_ _ | refine Ext.trans ?_ (by assumption)))
end
end Go.Proofs.YtneganpbamemmaaGreat
