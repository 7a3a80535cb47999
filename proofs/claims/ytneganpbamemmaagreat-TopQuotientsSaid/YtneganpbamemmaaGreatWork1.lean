/- The works of plain codes. -/
import Derived.Test.YtneganpbamemmaaGreatWorkB
set_option linter.unusedVariables false
set_option linter.unusedSimpArgs false
set_option linter.unusedSectionVars false
namespace Go.Proofs.YtneganpbamemmaaGreat
open Go Go.RowKit Sq
section
variable {m : Mac} {w : World} (hb : Base m w) (c : Cp) (sl : Nat → Int) (b : Bd)
include hb
set_option maxRecDepth 8000 in
set_option maxHeartbeats 4000000 in
theorem first_0 (ho : c.Ok) : Calls Tryz.prog 83 #[.pointer (some ⟨m.c, 0, none⟩), .int .i64 0] (mk w m c sl b) fun e W => e = .returned (.tuple #[]) ∧ Lft w m (c.first 0) sl b W := by
  obtain ⟨code0, code1⟩ := ho.code
  obtain ⟨ix0, ix1⟩ := ho.ix
  obtain ⟨lo0, lo1⟩ := ho.lo
  obtain ⟨hi0, hi1⟩ := ho.hi
  have hg := ho.g
  have HP := Lib.hid (show c.first 0 = _ by simp [Cp.first]; rfl)
  go_enter Tryz.func83, Tryz.ntmps83
  go_wp2_with (go_at_call 115; (try simp only [mk_drew, mk_drewN]); refine Calls.mono (exAf_any (by first | assumption | exact Base.drew (by assumption) | exact Base.drewN (by assumption) _ | exact Base.alloc (by assumption) _) _ _ _) ?_; rintro e W ⟨rfl, w1, hx1, hb1, rfl⟩)
  all_goals
    (first | go_end0 | refine bodyPost_ret (results_none rfl _ _ _) rfl ?_)
    refine ⟨rfl, ?_⟩
    rw [HP.out]
    exact Lft.mk' (by first | assumption | exact Base.drew (by assumption) | exact Base.drewN (by assumption) _ | exact Base.alloc (by assumption) _) (by repeat (first | exact Ext.refl _ | assumption | refine Ext.drew' ?_ | refine Ext.drewN' ?_ _ | refine Ext.alloc' ?_ _ | refine Ext.trans ?_ (by assumption)))
set_option maxRecDepth 8000 in
set_option maxHeartbeats 4000000 in
theorem first_1 (ho : c.Ok) : Calls Tryz.prog 83 #[.pointer (some ⟨m.c, 0, none⟩), .int .i64 1] (mk w m c sl b) fun e W => e = .returned (.tuple #[]) ∧ Lft w m (c.first 1) sl b W := by
  obtain ⟨code0, code1⟩ := ho.code
  obtain ⟨ix0, ix1⟩ := ho.ix
  obtain ⟨lo0, lo1⟩ := ho.lo
  obtain ⟨hi0, hi1⟩ := ho.hi
  have hg := ho.g
  obtain ⟨rb0, rb1⟩ := ho.g.b
  have HP := Lib.hid (show c.first 1 = _ by simp [Cp.first]; rfl)
  go_enter Tryz.func83, Tryz.ntmps83
  go_wp2
  all_goals
    (first | go_end0 | refine bodyPost_ret (results_none rfl _ _ _) rfl ?_)
    refine ⟨rfl, ?_⟩
    rw [HP.out]
    exact Lft.mk' (by first | assumption | exact Base.drew (by assumption) | exact Base.drewN (by assumption) _ | exact Base.alloc (by assumption) _) (by repeat (first | exact Ext.refl _ | assumption | refine Ext.drew' ?_ | refine Ext.drewN' ?_ _ | refine Ext.alloc' ?_ _ | refine Ext.trans ?_ (by assumption)))
set_option maxRecDepth 8000 in
set_option maxHeartbeats 4000000 in
theorem first_2 (ho : c.Ok) : Calls Tryz.prog 83 #[.pointer (some ⟨m.c, 0, none⟩), .int .i64 2] (mk w m c sl b) fun e W => e = .returned (.tuple #[]) ∧ Lft w m (c.first 2) sl b W := by
  obtain ⟨code0, code1⟩ := ho.code
  obtain ⟨ix0, ix1⟩ := ho.ix
  obtain ⟨lo0, lo1⟩ := ho.lo
  obtain ⟨hi0, hi1⟩ := ho.hi
  have hg := ho.g
  obtain ⟨rpc0, rpc1⟩ := ho.g.pc
  have HP := Lib.hid (show c.first 2 = _ by simp [Cp.first]; rfl)
  go_enter Tryz.func83, Tryz.ntmps83
  go_wp2
  go_region_with (go_at_call 116; (try simp only [mk_drew, mk_drewN]); refine Calls.mono (plus_any _ _ _ (by first | assumption | omega) (by first | assumption | omega) (by first | assumption | omega) (by first | assumption | omega)) ?_; rintro e W ⟨rfl, rfl⟩)
  all_goals go_wp2
  all_goals
    (first | go_end0 | refine bodyPost_ret (results_none rfl _ _ _) rfl ?_)
    refine ⟨rfl, ?_⟩
    rw [HP.out]
    exact Lft.mk' (by first | assumption | exact Base.drew (by assumption) | exact Base.drewN (by assumption) _ | exact Base.alloc (by assumption) _) (by repeat (first | exact Ext.refl _ | assumption | refine Ext.drew' ?_ | refine Ext.drewN' ?_ _ | refine Ext.alloc' ?_ _ | refine Ext.trans ?_ (by assumption)))
set_option maxRecDepth 8000 in
set_option maxHeartbeats 4000000 in
theorem first_3 (ho : c.Ok) : Calls Tryz.prog 83 #[.pointer (some ⟨m.c, 0, none⟩), .int .i64 3] (mk w m c sl b) fun e W => e = .returned (.tuple #[]) ∧ Lft w m (c.first 3) sl b W := by
  obtain ⟨code0, code1⟩ := ho.code
  obtain ⟨ix0, ix1⟩ := ho.ix
  obtain ⟨lo0, lo1⟩ := ho.lo
  obtain ⟨hi0, hi1⟩ := ho.hi
  have hg := ho.g
  obtain ⟨cp0, cp1⟩ := cp_bd c.code
  obtain ⟨wd0, wd1⟩ := ho.word
  have HP := Lib.hid (show c.first 3 = _ by simp [Cp.first]; rfl)
  go_enter Tryz.func83, Tryz.ntmps83
  go_wp2
  go_region_held3 (fun w' => w'.cell? ⟨m.c, 32, none⟩ = some (.int .u8 c.code) ∧ w'.cell? ⟨m.c, 33, none⟩ = some (.int .i64 c.ix)) (first | exact ⟨cell_32 (by first | assumption | exact Base.drew (by assumption) | exact Base.drewN (by assumption) _ | exact Base.alloc (by assumption) _), cell_33 (by first | assumption | exact Base.drew (by assumption) | exact Base.drewN (by assumption) _ | exact Base.alloc (by assumption) _)⟩ | exact ⟨(by rw [World.cell?_drew]; exact cell_32 (by first | assumption | exact Base.drew (by assumption) | exact Base.drewN (by assumption) _ | exact Base.alloc (by assumption) _)), (by rw [World.cell?_drew]; exact cell_33 (by first | assumption | exact Base.drew (by assumption) | exact Base.drewN (by assumption) _ | exact Base.alloc (by assumption) _))⟩) (first | (go_at_call 118; (try simp only [mk_drew, mk_drewN]); refine Calls.mono (p_any _ _ (by first | assumption | omega) (by first | assumption | omega)) ?_; rintro e W ⟨rfl, rfl⟩) | (go_at_call 119; (try simp only [mk_drew, mk_drewN]); refine Calls.mono (cword_any (by first | assumption | exact Base.drew (by assumption) | exact Base.drewN (by assumption) _ | exact Base.alloc (by assumption) _) _ _ _ (by assumption)) ?_; rintro e W ⟨rfl, n1, rfl⟩) | (go_at_call 117; (try simp only [mk_drew, mk_drewN]); refine Calls.mono (putPair_any (by first | assumption | exact Base.drew (by assumption) | exact Base.drewN (by assumption) _ | exact Base.alloc (by assumption) _) _ _ _ _ _ _ (by first | assumption | omega) (by first | assumption | omega) (by first | assumption | omega) (by first | assumption | omega) (by first | assumption | omega) (by first | assumption | omega)) ?_; rintro e W ⟨rfl, rfl⟩))
  all_goals go_wp2
  all_goals
    (first | go_end0 | refine bodyPost_ret (results_none rfl _ _ _) rfl ?_)
    refine ⟨rfl, ?_⟩
    rw [HP.out]
    exact Lft.mk' (by first | assumption | exact Base.drew (by assumption) | exact Base.drewN (by assumption) _ | exact Base.alloc (by assumption) _) (by repeat (first | exact Ext.refl _ | assumption | refine Ext.drew' ?_ | refine Ext.drewN' ?_ _ | refine Ext.alloc' ?_ _ | refine Ext.trans ?_ (by assumption)))
set_option maxRecDepth 8000 in
set_option maxHeartbeats 4000000 in
theorem first_4 (ho : c.Ok) : Calls Tryz.prog 83 #[.pointer (some ⟨m.c, 0, none⟩), .int .i64 4] (mk w m c sl b) fun e W => e = .returned (.tuple #[]) ∧ Lft w m (c.first 4) sl b W := by
  obtain ⟨code0, code1⟩ := ho.code
  obtain ⟨ix0, ix1⟩ := ho.ix
  obtain ⟨lo0, lo1⟩ := ho.lo
  obtain ⟨hi0, hi1⟩ := ho.hi
  have hg := ho.g
  obtain ⟨cp0, cp1⟩ := cp_bd c.code
  obtain ⟨h20, h21⟩ := hg.pair 2 c.ix
  obtain ⟨hp0, hp1⟩ := hg.pair (cp c.code) c.ix
  obtain ⟨rf0, rf1⟩ := ho.g.f
  have hs := wAdd_bd (c.g.pair 2 c.ix) (c.g.pair (cp c.code) c.ix) c.g.f
  have HP := Lib.hid (show c.first 4 = _ by simp [Cp.first]; rfl)
  go_enter Tryz.func83, Tryz.ntmps83
  go_wp2_with (first | (go_at_call 82; (try simp only [mk_drew, mk_drewN]); refine Calls.mono (pair_any (by first | assumption | exact Base.drew (by assumption) | exact Base.drewN (by assumption) _ | exact Base.alloc (by assumption) _) _ _ _ (by assumption) _ _ (by first | assumption | omega) (by first | assumption | omega) (by first | assumption | omega) (by first | assumption | omega)) ?_; rintro e W ⟨rfl, n1, rfl⟩) | (go_at_call 117; (try simp only [mk_drew, mk_drewN]); refine Calls.mono (putPair_any (by first | assumption | exact Base.drew (by assumption) | exact Base.drewN (by assumption) _ | exact Base.alloc (by assumption) _) _ _ _ _ _ _ (by first | assumption | omega) (by first | assumption | omega) (by first | assumption | omega) (by first | assumption | omega) (by first | assumption | omega) (by first | assumption | omega)) ?_; rintro e W ⟨rfl, rfl⟩) | (go_at_call 121; (try simp only [mk_drew, mk_drewN]); refine Calls.mono (cset_any (by first | assumption | exact Base.drew (by assumption) | exact Base.drewN (by assumption) _ | exact Base.alloc (by assumption) _) _ _ _ _) ?_; rintro e W ⟨rfl, rfl⟩))
  go_region_held3 (fun w' => w'.cell? ⟨m.c, 32, none⟩ = some (.int .u8 c.code) ∧ w'.cell? ⟨m.c, 33, none⟩ = some (.int .i64 c.ix) ∧ w'.cell? ⟨m.c, 1, none⟩ = some (.int .u8 c.g.f)) (first | exact ⟨cell_32 (by first | assumption | exact Base.drew (by assumption) | exact Base.drewN (by assumption) _ | exact Base.alloc (by assumption) _), cell_33 (by first | assumption | exact Base.drew (by assumption) | exact Base.drewN (by assumption) _ | exact Base.alloc (by assumption) _), cell_1 (by first | assumption | exact Base.drew (by assumption) | exact Base.drewN (by assumption) _ | exact Base.alloc (by assumption) _)⟩ | exact ⟨(by rw [World.cell?_drew]; exact cell_32 (by first | assumption | exact Base.drew (by assumption) | exact Base.drewN (by assumption) _ | exact Base.alloc (by assumption) _)), (by rw [World.cell?_drew]; exact cell_33 (by first | assumption | exact Base.drew (by assumption) | exact Base.drewN (by assumption) _ | exact Base.alloc (by assumption) _)), (by rw [World.cell?_drew]; exact cell_1 (by first | assumption | exact Base.drew (by assumption) | exact Base.drewN (by assumption) _ | exact Base.alloc (by assumption) _))⟩) (first | (go_at_call 118; (try simp only [mk_drew, mk_drewN]); refine Calls.mono (p_any _ _ (by first | assumption | omega) (by first | assumption | omega)) ?_; rintro e W ⟨rfl, rfl⟩) | (go_at_call 82; (try simp only [mk_drew, mk_drewN]); refine Calls.mono (pair_any (by first | assumption | exact Base.drew (by assumption) | exact Base.drewN (by assumption) _ | exact Base.alloc (by assumption) _) _ _ _ (by assumption) _ _ (by first | assumption | omega) (by first | assumption | omega) (by first | assumption | omega) (by first | assumption | omega)) ?_; rintro e W ⟨rfl, n1, rfl⟩) | (go_at_call 120; (try simp only [mk_drew, mk_drewN]); refine Calls.mono (wadd_any _ _ _ _ (by first | assumption | omega) (by first | assumption | omega) (by first | assumption | omega) (by first | assumption | omega) (by first | assumption | omega) (by first | assumption | omega)) ?_; rintro e W ⟨rfl, hx⟩; obtain ⟨w1, hx1, hb1, rfl⟩ := lift (by first | assumption | exact Base.drew (by assumption) | exact Base.drewN (by assumption) _ | exact Base.alloc (by assumption) _) hx; clear hx))
  all_goals go_wp2_with (first | (go_at_call 82; (try simp only [mk_drew, mk_drewN]); refine Calls.mono (pair_any (by first | assumption | exact Base.drew (by assumption) | exact Base.drewN (by assumption) _ | exact Base.alloc (by assumption) _) _ _ _ (by assumption) _ _ (by first | assumption | omega) (by first | assumption | omega) (by first | assumption | omega) (by first | assumption | omega)) ?_; rintro e W ⟨rfl, n1, rfl⟩) | (go_at_call 117; (try simp only [mk_drew, mk_drewN]); refine Calls.mono (putPair_any (by first | assumption | exact Base.drew (by assumption) | exact Base.drewN (by assumption) _ | exact Base.alloc (by assumption) _) _ _ _ _ _ _ (by first | assumption | omega) (by first | assumption | omega) (by first | assumption | omega) (by first | assumption | omega) (by first | assumption | omega) (by first | assumption | omega)) ?_; rintro e W ⟨rfl, rfl⟩) | (go_at_call 121; (try simp only [mk_drew, mk_drewN]); refine Calls.mono (cset_any (by first | assumption | exact Base.drew (by assumption) | exact Base.drewN (by assumption) _ | exact Base.alloc (by assumption) _) _ _ _ _) ?_; rintro e W ⟨rfl, rfl⟩))
  all_goals
    (first | go_end0 | refine bodyPost_ret (results_none rfl _ _ _) rfl ?_)
    refine ⟨rfl, ?_⟩
    rw [HP.out]
    exact Lft.mk' (by first | assumption | exact Base.drew (by assumption) | exact Base.drewN (by assumption) _ | exact Base.alloc (by assumption) _) (by repeat (first | exact Ext.refl _ | assumption | refine Ext.drew' ?_ | refine Ext.drewN' ?_ _ | refine Ext.alloc' ?_ _ | refine Ext.trans ?_ (by assumption)))
set_option maxRecDepth 8000 in
set_option maxHeartbeats 4000000 in
theorem first_5 (ho : c.Ok) : Calls Tryz.prog 83 #[.pointer (some ⟨m.c, 0, none⟩), .int .i64 5] (mk w m c sl b) fun e W => e = .returned (.tuple #[]) ∧ Lft w m (c.first 5) sl b W := by
  obtain ⟨code0, code1⟩ := ho.code
  obtain ⟨ix0, ix1⟩ := ho.ix
  obtain ⟨lo0, lo1⟩ := ho.lo
  obtain ⟨hi0, hi1⟩ := ho.hi
  have hg := ho.g
  obtain ⟨ra0, ra1⟩ := ho.g.a
  obtain ⟨rwz0, rwz1⟩ := ho.g.wz
  have hl := wlo_bd ho.g.wz
  have HP := Lib.hid (show c.first 5 = _ by simp [Cp.first]; rfl)
  go_enter Tryz.func83, Tryz.ntmps83
  go_wp2
  go_region_with (first | (go_at_call 122; (try simp only [mk_drew, mk_drewN]); refine Calls.mono (lo_any _ _ (by first | assumption | omega) (by first | assumption | omega)) ?_; rintro e W ⟨rfl, rfl⟩) | (go_at_call 72; (try simp only [mk_drew, mk_drewN]); refine Calls.mono (of_any _ _ _ (by first | assumption | omega) (by first | assumption | omega) (by first | assumption | omega) (by first | assumption | omega)) ?_; rintro e W ⟨rfl, rfl⟩))
  all_goals go_wp2
  all_goals
    (first | go_end0 | refine bodyPost_ret (results_none rfl _ _ _) rfl ?_)
    refine ⟨rfl, ?_⟩
    rw [HP.out]
    exact Lft.mk' (by first | assumption | exact Base.drew (by assumption) | exact Base.drewN (by assumption) _ | exact Base.alloc (by assumption) _) (by repeat (first | exact Ext.refl _ | assumption | refine Ext.drew' ?_ | refine Ext.drewN' ?_ _ | refine Ext.alloc' ?_ _ | refine Ext.trans ?_ (by assumption)))
set_option maxRecDepth 8000 in
set_option maxHeartbeats 4000000 in
theorem first_6 (ho : c.Ok) : Calls Tryz.prog 83 #[.pointer (some ⟨m.c, 0, none⟩), .int .i64 6] (mk w m c sl b) fun e W => e = .returned (.tuple #[]) ∧ Lft w m (c.first 6) sl b W := by
  obtain ⟨code0, code1⟩ := ho.code
  obtain ⟨ix0, ix1⟩ := ho.ix
  obtain ⟨lo0, lo1⟩ := ho.lo
  obtain ⟨hi0, hi1⟩ := ho.hi
  have hg := ho.g
  obtain ⟨rwz0, rwz1⟩ := ho.g.wz
  have HP := Lib.hid (show c.first 6 = _ by simp [Cp.first]; rfl)
  go_enter Tryz.func83, Tryz.ntmps83
  go_wp2
  all_goals
    (first | go_end0 | refine bodyPost_ret (results_none rfl _ _ _) rfl ?_)
    refine ⟨rfl, ?_⟩
    rw [HP.out]
    exact Lft.mk' (by first | assumption | exact Base.drew (by assumption) | exact Base.drewN (by assumption) _ | exact Base.alloc (by assumption) _) (by repeat (first | exact Ext.refl _ | assumption | refine Ext.drew' ?_ | refine Ext.drewN' ?_ _ | refine Ext.alloc' ?_ _ | refine Ext.trans ?_ (by assumption)))
set_option maxRecDepth 8000 in
set_option maxHeartbeats 4000000 in
theorem first_7 (ho : c.Ok) : Calls Tryz.prog 83 #[.pointer (some ⟨m.c, 0, none⟩), .int .i64 7] (mk w m c sl b) fun e W => e = .returned (.tuple #[]) ∧ Lft w m (c.first 7) sl b W := by
  obtain ⟨code0, code1⟩ := ho.code
  obtain ⟨ix0, ix1⟩ := ho.ix
  obtain ⟨lo0, lo1⟩ := ho.lo
  obtain ⟨hi0, hi1⟩ := ho.hi
  have hg := ho.g
  obtain ⟨cp0, cp1⟩ := cp_bd c.code
  obtain ⟨hq0, hq1⟩ := hg.pair (cp c.code) 0
  have HP := Lib.hid (show c.first 7 = _ by simp [Cp.first]; rfl)
  go_enter Tryz.func83, Tryz.ntmps83
  go_wp2_with (first | (go_at_call 118; (try simp only [mk_drew, mk_drewN]); refine Calls.mono (p_any _ _ (by first | assumption | omega) (by first | assumption | omega)) ?_; rintro e W ⟨rfl, rfl⟩) | (go_at_call 82; (try simp only [mk_drew, mk_drewN]); refine Calls.mono (pair_any (by first | assumption | exact Base.drew (by assumption) | exact Base.drewN (by assumption) _ | exact Base.alloc (by assumption) _) _ _ _ (by assumption) _ _ (by first | assumption | omega) (by first | assumption | omega) (by first | assumption | omega) (by first | assumption | omega)) ?_; rintro e W ⟨rfl, n1, rfl⟩))
  all_goals
    (first | go_end0 | refine bodyPost_ret (results_none rfl _ _ _) rfl ?_)
    refine ⟨rfl, ?_⟩
    rw [HP.out]
    exact Lft.mk' (by first | assumption | exact Base.drew (by assumption) | exact Base.drewN (by assumption) _ | exact Base.alloc (by assumption) _) (by repeat (first | exact Ext.refl _ | assumption | refine Ext.drew' ?_ | refine Ext.drewN' ?_ _ | refine Ext.alloc' ?_ _ | refine Ext.trans ?_ (by assumption)))
set_option maxRecDepth 8000 in
set_option maxHeartbeats 4000000 in
theorem first_8 (ho : c.Ok) : Calls Tryz.prog 83 #[.pointer (some ⟨m.c, 0, none⟩), .int .i64 8] (mk w m c sl b) fun e W => e = .returned (.tuple #[]) ∧ Lft w m (c.first 8) sl b W := by
  obtain ⟨code0, code1⟩ := ho.code
  obtain ⟨ix0, ix1⟩ := ho.ix
  obtain ⟨lo0, lo1⟩ := ho.lo
  obtain ⟨hi0, hi1⟩ := ho.hi
  have hg := ho.g
  have HP := Lib.hid (show c.first 8 = _ by simp [Cp.first]; rfl)
  go_enter Tryz.func83, Tryz.ntmps83
  go_wp2_with (go_at_call 119; (try simp only [mk_drew, mk_drewN]); refine Calls.mono (cword_any (by first | assumption | exact Base.drew (by assumption) | exact Base.drewN (by assumption) _ | exact Base.alloc (by assumption) _) _ _ _ (by assumption)) ?_; rintro e W ⟨rfl, n1, rfl⟩)
  all_goals
    (first | go_end0 | refine bodyPost_ret (results_none rfl _ _ _) rfl ?_)
    refine ⟨rfl, ?_⟩
    rw [HP.out]
    exact Lft.mk' (by first | assumption | exact Base.drew (by assumption) | exact Base.drewN (by assumption) _ | exact Base.alloc (by assumption) _) (by repeat (first | exact Ext.refl _ | assumption | refine Ext.drew' ?_ | refine Ext.drewN' ?_ _ | refine Ext.alloc' ?_ _ | refine Ext.trans ?_ (by assumption)))
set_option maxRecDepth 8000 in
set_option maxHeartbeats 4000000 in
theorem first_9 (ho : c.Ok) : Calls Tryz.prog 83 #[.pointer (some ⟨m.c, 0, none⟩), .int .i64 9] (mk w m c sl b) fun e W => e = .returned (.tuple #[]) ∧ Lft w m (c.first 9) sl b W := by
  obtain ⟨code0, code1⟩ := ho.code
  obtain ⟨ix0, ix1⟩ := ho.ix
  obtain ⟨lo0, lo1⟩ := ho.lo
  obtain ⟨hi0, hi1⟩ := ho.hi
  have hg := ho.g
  have HP := Lib.hid (show c.first 9 = _ by simp [Cp.first]; rfl)
  go_enter Tryz.func83, Tryz.ntmps83
  go_wp2
  all_goals
    (first | go_end0 | refine bodyPost_ret (results_none rfl _ _ _) rfl ?_)
    refine ⟨rfl, ?_⟩
    rw [HP.out]
    exact Lft.mk' (by first | assumption | exact Base.drew (by assumption) | exact Base.drewN (by assumption) _ | exact Base.alloc (by assumption) _) (by repeat (first | exact Ext.refl _ | assumption | refine Ext.drew' ?_ | refine Ext.drewN' ?_ _ | refine Ext.alloc' ?_ _ | refine Ext.trans ?_ (by assumption)))
set_option maxRecDepth 8000 in
set_option maxHeartbeats 4000000 in
theorem first_10 (ho : c.Ok) : Calls Tryz.prog 83 #[.pointer (some ⟨m.c, 0, none⟩), .int .i64 10] (mk w m c sl b) fun e W => e = .returned (.tuple #[]) ∧ Lft w m (c.first 10) sl b W := by
  obtain ⟨code0, code1⟩ := ho.code
  obtain ⟨ix0, ix1⟩ := ho.ix
  obtain ⟨lo0, lo1⟩ := ho.lo
  obtain ⟨hi0, hi1⟩ := ho.hi
  have hg := ho.g
  obtain ⟨wd0, wd1⟩ := ho.word
  have HP := Lib.hid (show c.first 10 = _ by simp [Cp.first]; rfl)
  go_enter Tryz.func83, Tryz.ntmps83
  go_wp2
  go_region_held3 (fun w' => w'.cell? ⟨m.c, 33, none⟩ = some (.int .i64 c.ix)) (first | exact cell_33 (by first | assumption | exact Base.drew (by assumption) | exact Base.drewN (by assumption) _ | exact Base.alloc (by assumption) _) | exact (by rw [World.cell?_drew]; exact cell_33 (by first | assumption | exact Base.drew (by assumption) | exact Base.drewN (by assumption) _ | exact Base.alloc (by assumption) _))) (first | (go_at_call 119; (try simp only [mk_drew, mk_drewN]); refine Calls.mono (cword_any (by first | assumption | exact Base.drew (by assumption) | exact Base.drewN (by assumption) _ | exact Base.alloc (by assumption) _) _ _ _ (by assumption)) ?_; rintro e W ⟨rfl, n1, rfl⟩) | (go_at_call 117; (try simp only [mk_drew, mk_drewN]); refine Calls.mono (putPair_any (by first | assumption | exact Base.drew (by assumption) | exact Base.drewN (by assumption) _ | exact Base.alloc (by assumption) _) _ _ _ _ _ _ (by first | assumption | omega) (by first | assumption | omega) (by first | assumption | omega) (by first | assumption | omega) (by first | assumption | omega) (by first | assumption | omega)) ?_; rintro e W ⟨rfl, rfl⟩))
  all_goals go_wp2
  all_goals
    (first | go_end0 | refine bodyPost_ret (results_none rfl _ _ _) rfl ?_)
    refine ⟨rfl, ?_⟩
    rw [HP.out]
    exact Lft.mk' (by first | assumption | exact Base.drew (by assumption) | exact Base.drewN (by assumption) _ | exact Base.alloc (by assumption) _) (by repeat (first | exact Ext.refl _ | assumption | refine Ext.drew' ?_ | refine Ext.drewN' ?_ _ | refine Ext.alloc' ?_ _ | refine Ext.trans ?_ (by assumption)))
set_option maxRecDepth 8000 in
set_option maxHeartbeats 4000000 in
theorem first_11 (ho : c.Ok) : Calls Tryz.prog 83 #[.pointer (some ⟨m.c, 0, none⟩), .int .i64 11] (mk w m c sl b) fun e W => e = .returned (.tuple #[]) ∧ Lft w m (c.first 11) sl b W := by
  obtain ⟨code0, code1⟩ := ho.code
  obtain ⟨ix0, ix1⟩ := ho.ix
  obtain ⟨lo0, lo1⟩ := ho.lo
  obtain ⟨hi0, hi1⟩ := ho.hi
  have hg := ho.g
  obtain ⟨cp0, cp1⟩ := cp_bd c.code
  obtain ⟨hp0, hp1⟩ := hg.pair (cp c.code) c.ix
  obtain ⟨hw0, hw1⟩ := wrap16_bd (c.g.pair (cp c.code) c.ix + 1)
  have HP := Lib.hid (show c.first 11 = _ by simp [Cp.first]; rfl)
  go_enter Tryz.func83, Tryz.ntmps83
  go_wp2
  go_region_held3 (fun w' => w'.cell? ⟨m.c, 32, none⟩ = some (.int .u8 c.code) ∧ w'.cell? ⟨m.c, 33, none⟩ = some (.int .i64 c.ix)) (first | exact ⟨cell_32 (by first | assumption | exact Base.drew (by assumption) | exact Base.drewN (by assumption) _ | exact Base.alloc (by assumption) _), cell_33 (by first | assumption | exact Base.drew (by assumption) | exact Base.drewN (by assumption) _ | exact Base.alloc (by assumption) _)⟩ | exact ⟨(by rw [World.cell?_drew]; exact cell_32 (by first | assumption | exact Base.drew (by assumption) | exact Base.drewN (by assumption) _ | exact Base.alloc (by assumption) _)), (by rw [World.cell?_drew]; exact cell_33 (by first | assumption | exact Base.drew (by assumption) | exact Base.drewN (by assumption) _ | exact Base.alloc (by assumption) _))⟩) (first | (go_at_call 118; (try simp only [mk_drew, mk_drewN]); refine Calls.mono (p_any _ _ (by first | assumption | omega) (by first | assumption | omega)) ?_; rintro e W ⟨rfl, rfl⟩) | (go_at_call 82; (try simp only [mk_drew, mk_drewN]); refine Calls.mono (pair_any (by first | assumption | exact Base.drew (by assumption) | exact Base.drewN (by assumption) _ | exact Base.alloc (by assumption) _) _ _ _ (by assumption) _ _ (by first | assumption | omega) (by first | assumption | omega) (by first | assumption | omega) (by first | assumption | omega)) ?_; rintro e W ⟨rfl, n1, rfl⟩) | (go_at_call 117; (try simp only [mk_drew, mk_drewN]); refine Calls.mono (putPair_any (by first | assumption | exact Base.drew (by assumption) | exact Base.drewN (by assumption) _ | exact Base.alloc (by assumption) _) _ _ _ _ _ _ (by first | assumption | omega) (by first | assumption | omega) (by first | assumption | omega) (by first | assumption | omega) (by first | assumption | omega) (by first | assumption | omega)) ?_; rintro e W ⟨rfl, rfl⟩))
  all_goals go_wp2
  all_goals
    (first | go_end0 | refine bodyPost_ret (results_none rfl _ _ _) rfl ?_)
    refine ⟨rfl, ?_⟩
    rw [HP.out]
    exact Lft.mk' (by first | assumption | exact Base.drew (by assumption) | exact Base.drewN (by assumption) _ | exact Base.alloc (by assumption) _) (by repeat (first | exact Ext.refl _ | assumption | refine Ext.drew' ?_ | refine Ext.drewN' ?_ _ | refine Ext.alloc' ?_ _ | refine Ext.trans ?_ (by assumption)))
set_option maxRecDepth 8000 in
set_option maxHeartbeats 4000000 in
theorem first_12 (ho : c.Ok) : Calls Tryz.prog 83 #[.pointer (some ⟨m.c, 0, none⟩), .int .i64 12] (mk w m c sl b) fun e W => e = .returned (.tuple #[]) ∧ Lft w m (c.first 12) sl b W := by
  obtain ⟨code0, code1⟩ := ho.code
  obtain ⟨ix0, ix1⟩ := ho.ix
  obtain ⟨lo0, lo1⟩ := ho.lo
  obtain ⟨hi0, hi1⟩ := ho.hi
  have hg := ho.g
  obtain ⟨cp0, cp1⟩ := cp_bd c.code
  obtain ⟨hp0, hp1⟩ := hg.pair (cp c.code) c.ix
  obtain ⟨hw0, hw1⟩ := wrap16_bd (c.g.pair (cp c.code) c.ix - 1)
  have HP := Lib.hid (show c.first 12 = _ by simp [Cp.first]; rfl)
  go_enter Tryz.func83, Tryz.ntmps83
  go_wp2
  go_region_held3 (fun w' => w'.cell? ⟨m.c, 32, none⟩ = some (.int .u8 c.code) ∧ w'.cell? ⟨m.c, 33, none⟩ = some (.int .i64 c.ix)) (first | exact ⟨cell_32 (by first | assumption | exact Base.drew (by assumption) | exact Base.drewN (by assumption) _ | exact Base.alloc (by assumption) _), cell_33 (by first | assumption | exact Base.drew (by assumption) | exact Base.drewN (by assumption) _ | exact Base.alloc (by assumption) _)⟩ | exact ⟨(by rw [World.cell?_drew]; exact cell_32 (by first | assumption | exact Base.drew (by assumption) | exact Base.drewN (by assumption) _ | exact Base.alloc (by assumption) _)), (by rw [World.cell?_drew]; exact cell_33 (by first | assumption | exact Base.drew (by assumption) | exact Base.drewN (by assumption) _ | exact Base.alloc (by assumption) _))⟩) (first | (go_at_call 118; (try simp only [mk_drew, mk_drewN]); refine Calls.mono (p_any _ _ (by first | assumption | omega) (by first | assumption | omega)) ?_; rintro e W ⟨rfl, rfl⟩) | (go_at_call 82; (try simp only [mk_drew, mk_drewN]); refine Calls.mono (pair_any (by first | assumption | exact Base.drew (by assumption) | exact Base.drewN (by assumption) _ | exact Base.alloc (by assumption) _) _ _ _ (by assumption) _ _ (by first | assumption | omega) (by first | assumption | omega) (by first | assumption | omega) (by first | assumption | omega)) ?_; rintro e W ⟨rfl, n1, rfl⟩) | (go_at_call 117; (try simp only [mk_drew, mk_drewN]); refine Calls.mono (putPair_any (by first | assumption | exact Base.drew (by assumption) | exact Base.drewN (by assumption) _ | exact Base.alloc (by assumption) _) _ _ _ _ _ _ (by first | assumption | omega) (by first | assumption | omega) (by first | assumption | omega) (by first | assumption | omega) (by first | assumption | omega) (by first | assumption | omega)) ?_; rintro e W ⟨rfl, rfl⟩))
  all_goals go_wp2
  all_goals
    (first | go_end0 | refine bodyPost_ret (results_none rfl _ _ _) rfl ?_)
    refine ⟨rfl, ?_⟩
    rw [HP.out]
    exact Lft.mk' (by first | assumption | exact Base.drew (by assumption) | exact Base.drewN (by assumption) _ | exact Base.alloc (by assumption) _) (by repeat (first | exact Ext.refl _ | assumption | refine Ext.drew' ?_ | refine Ext.drewN' ?_ _ | refine Ext.alloc' ?_ _ | refine Ext.trans ?_ (by assumption)))
set_option maxRecDepth 8000 in
set_option maxHeartbeats 4000000 in
theorem first_18 (ho : c.Ok) : Calls Tryz.prog 83 #[.pointer (some ⟨m.c, 0, none⟩), .int .i64 18] (mk w m c sl b) fun e W => e = .returned (.tuple #[]) ∧ Lft w m (c.first 18) sl b W := by
  obtain ⟨code0, code1⟩ := ho.code
  obtain ⟨ix0, ix1⟩ := ho.ix
  obtain ⟨lo0, lo1⟩ := ho.lo
  obtain ⟨hi0, hi1⟩ := ho.hi
  have hg := ho.g
  obtain ⟨h20, h21⟩ := hg.pair 2 c.ix
  have HP := Lib.hid (show c.first 18 = _ by simp [Cp.first]; rfl)
  go_enter Tryz.func83, Tryz.ntmps83
  go_wp2
  go_region_with (first | (go_at_call 82; (try simp only [mk_drew, mk_drewN]); refine Calls.mono (pair_any (by first | assumption | exact Base.drew (by assumption) | exact Base.drewN (by assumption) _ | exact Base.alloc (by assumption) _) _ _ _ (by assumption) _ _ (by first | assumption | omega) (by first | assumption | omega) (by first | assumption | omega) (by first | assumption | omega)) ?_; rintro e W ⟨rfl, n1, rfl⟩) | (go_at_call 116; (try simp only [mk_drew, mk_drewN]); refine Calls.mono (plus_any _ _ _ (by first | assumption | omega) (by first | assumption | omega) (by first | assumption | omega) (by first | assumption | omega)) ?_; rintro e W ⟨rfl, rfl⟩))
  all_goals go_wp2
  all_goals
    (first | go_end0 | refine bodyPost_ret (results_none rfl _ _ _) rfl ?_)
    refine ⟨rfl, ?_⟩
    rw [HP.out]
    exact Lft.mk' (by first | assumption | exact Base.drew (by assumption) | exact Base.drewN (by assumption) _ | exact Base.alloc (by assumption) _) (by repeat (first | exact Ext.refl _ | assumption | refine Ext.drew' ?_ | refine Ext.drewN' ?_ _ | refine Ext.alloc' ?_ _ | refine Ext.trans ?_ (by assumption)))
set_option maxRecDepth 8000 in
set_option maxHeartbeats 4000000 in
theorem first_24 (ho : c.Ok) : Calls Tryz.prog 83 #[.pointer (some ⟨m.c, 0, none⟩), .int .i64 24] (mk w m c sl b) fun e W => e = .returned (.tuple #[]) ∧ Lft w m (c.first 24) sl b W := by
  obtain ⟨code0, code1⟩ := ho.code
  obtain ⟨ix0, ix1⟩ := ho.ix
  obtain ⟨lo0, lo1⟩ := ho.lo
  obtain ⟨hi0, hi1⟩ := ho.hi
  have hg := ho.g
  have HP := Lib.hid (show c.first 24 = _ by simp [Cp.first]; rfl)
  go_enter Tryz.func83, Tryz.ntmps83
  go_wp2_with (go_at_call 119; (try simp only [mk_drew, mk_drewN]); refine Calls.mono (cword_any (by first | assumption | exact Base.drew (by assumption) | exact Base.drewN (by assumption) _ | exact Base.alloc (by assumption) _) _ _ _ (by assumption)) ?_; rintro e W ⟨rfl, n1, rfl⟩)
  all_goals
    (first | go_end0 | refine bodyPost_ret (results_none rfl _ _ _) rfl ?_)
    refine ⟨rfl, ?_⟩
    rw [HP.out]
    exact Lft.mk' (by first | assumption | exact Base.drew (by assumption) | exact Base.drewN (by assumption) _ | exact Base.alloc (by assumption) _) (by repeat (first | exact Ext.refl _ | assumption | refine Ext.drew' ?_ | refine Ext.drewN' ?_ _ | refine Ext.alloc' ?_ _ | refine Ext.trans ?_ (by assumption)))
set_option maxRecDepth 8000 in
set_option maxHeartbeats 4000000 in
theorem first_25 (ho : c.Ok) : Calls Tryz.prog 83 #[.pointer (some ⟨m.c, 0, none⟩), .int .i64 25] (mk w m c sl b) fun e W => e = .returned (.tuple #[]) ∧ Lft w m (c.first 25) sl b W := by
  obtain ⟨code0, code1⟩ := ho.code
  obtain ⟨ix0, ix1⟩ := ho.ix
  obtain ⟨lo0, lo1⟩ := ho.lo
  obtain ⟨hi0, hi1⟩ := ho.hi
  have hg := ho.g
  have HP := Lib.hid (show c.first 25 = _ by simp [Cp.first]; rfl)
  go_enter Tryz.func83, Tryz.ntmps83
  go_wp2_with (go_at_call 123; (try simp only [mk_drew, mk_drewN]); refine Calls.mono (popped_any (by first | assumption | exact Base.drew (by assumption) | exact Base.drewN (by assumption) _ | exact Base.alloc (by assumption) _) _ _ _ (by assumption)) ?_; rintro e W ⟨rfl, w1, hx1, hb1, rfl⟩)
  all_goals
    (first | go_end0 | refine bodyPost_ret (results_none rfl _ _ _) rfl ?_)
    refine ⟨rfl, ?_⟩
    rw [HP.out]
    exact Lft.mk' (by first | assumption | exact Base.drew (by assumption) | exact Base.drewN (by assumption) _ | exact Base.alloc (by assumption) _) (by repeat (first | exact Ext.refl _ | assumption | refine Ext.drew' ?_ | refine Ext.drewN' ?_ _ | refine Ext.alloc' ?_ _ | refine Ext.trans ?_ (by assumption)))
set_option maxRecDepth 8000 in
set_option maxHeartbeats 4000000 in
theorem first_26 (ho : c.Ok) : Calls Tryz.prog 83 #[.pointer (some ⟨m.c, 0, none⟩), .int .i64 26] (mk w m c sl b) fun e W => e = .returned (.tuple #[]) ∧ Lft w m (c.first 26) sl b W := by
  obtain ⟨code0, code1⟩ := ho.code
  obtain ⟨ix0, ix1⟩ := ho.ix
  obtain ⟨lo0, lo1⟩ := ho.lo
  obtain ⟨hi0, hi1⟩ := ho.hi
  have hg := ho.g
  have HP := Lib.hid (show c.first 26 = _ by simp [Cp.first]; rfl)
  go_enter Tryz.func83, Tryz.ntmps83
  go_wp2_with (go_at_call 124; (try simp only [mk_drew, mk_drewN]); refine Calls.mono (exx_any (by first | assumption | exact Base.drew (by assumption) | exact Base.drewN (by assumption) _ | exact Base.alloc (by assumption) _) _ _ _) ?_; rintro e W ⟨rfl, w1, hx1, hb1, rfl⟩)
  all_goals
    (first | go_end0 | refine bodyPost_ret (results_none rfl _ _ _) rfl ?_)
    refine ⟨rfl, ?_⟩
    rw [HP.out]
    exact Lft.mk' (by first | assumption | exact Base.drew (by assumption) | exact Base.drewN (by assumption) _ | exact Base.alloc (by assumption) _) (by repeat (first | exact Ext.refl _ | assumption | refine Ext.drew' ?_ | refine Ext.drewN' ?_ _ | refine Ext.alloc' ?_ _ | refine Ext.trans ?_ (by assumption)))
set_option maxRecDepth 8000 in
set_option maxHeartbeats 4000000 in
theorem first_27 (ho : c.Ok) : Calls Tryz.prog 83 #[.pointer (some ⟨m.c, 0, none⟩), .int .i64 27] (mk w m c sl b) fun e W => e = .returned (.tuple #[]) ∧ Lft w m (c.first 27) sl b W := by
  obtain ⟨code0, code1⟩ := ho.code
  obtain ⟨ix0, ix1⟩ := ho.ix
  obtain ⟨lo0, lo1⟩ := ho.lo
  obtain ⟨hi0, hi1⟩ := ho.hi
  have hg := ho.g
  have HP := Lib.hid (show c.first 27 = _ by simp [Cp.first]; rfl)
  go_enter Tryz.func83, Tryz.ntmps83
  go_wp2_with (go_at_call 82; (try simp only [mk_drew, mk_drewN]); refine Calls.mono (pair_any (by first | assumption | exact Base.drew (by assumption) | exact Base.drewN (by assumption) _ | exact Base.alloc (by assumption) _) _ _ _ (by assumption) _ _ (by first | assumption | omega) (by first | assumption | omega) (by first | assumption | omega) (by first | assumption | omega)) ?_; rintro e W ⟨rfl, n1, rfl⟩)
  all_goals
    (first | go_end0 | refine bodyPost_ret (results_none rfl _ _ _) rfl ?_)
    refine ⟨rfl, ?_⟩
    rw [HP.out]
    exact Lft.mk' (by first | assumption | exact Base.drew (by assumption) | exact Base.drewN (by assumption) _ | exact Base.alloc (by assumption) _) (by repeat (first | exact Ext.refl _ | assumption | refine Ext.drew' ?_ | refine Ext.drewN' ?_ _ | refine Ext.alloc' ?_ _ | refine Ext.trans ?_ (by assumption)))
set_option maxRecDepth 8000 in
set_option maxHeartbeats 4000000 in
theorem first_28 (ho : c.Ok) : Calls Tryz.prog 83 #[.pointer (some ⟨m.c, 0, none⟩), .int .i64 28] (mk w m c sl b) fun e W => e = .returned (.tuple #[]) ∧ Lft w m (c.first 28) sl b W := by
  obtain ⟨code0, code1⟩ := ho.code
  obtain ⟨ix0, ix1⟩ := ho.ix
  obtain ⟨lo0, lo1⟩ := ho.lo
  obtain ⟨hi0, hi1⟩ := ho.hi
  have hg := ho.g
  have HP := Lib.hid (show c.first 28 = _ by simp [Cp.first]; rfl)
  go_enter Tryz.func83, Tryz.ntmps83
  go_wp2_with (go_at_call 82; (try simp only [mk_drew, mk_drewN]); refine Calls.mono (pair_any (by first | assumption | exact Base.drew (by assumption) | exact Base.drewN (by assumption) _ | exact Base.alloc (by assumption) _) _ _ _ (by assumption) _ _ (by first | assumption | omega) (by first | assumption | omega) (by first | assumption | omega) (by first | assumption | omega)) ?_; rintro e W ⟨rfl, n1, rfl⟩)
  all_goals
    (first | go_end0 | refine bodyPost_ret (results_none rfl _ _ _) rfl ?_)
    refine ⟨rfl, ?_⟩
    rw [HP.out]
    exact Lft.mk' (by first | assumption | exact Base.drew (by assumption) | exact Base.drewN (by assumption) _ | exact Base.alloc (by assumption) _) (by repeat (first | exact Ext.refl _ | assumption | refine Ext.drew' ?_ | refine Ext.drewN' ?_ _ | refine Ext.alloc' ?_ _ | refine Ext.trans ?_ (by assumption)))
set_option maxRecDepth 8000 in
set_option maxHeartbeats 4000000 in
theorem first_29 (ho : c.Ok) : Calls Tryz.prog 83 #[.pointer (some ⟨m.c, 0, none⟩), .int .i64 29] (mk w m c sl b) fun e W => e = .returned (.tuple #[]) ∧ Lft w m (c.first 29) sl b W := by
  obtain ⟨code0, code1⟩ := ho.code
  obtain ⟨ix0, ix1⟩ := ho.ix
  obtain ⟨lo0, lo1⟩ := ho.lo
  obtain ⟨hi0, hi1⟩ := ho.hi
  have hg := ho.g
  have HP := Lib.hid (show c.first 29 = _ by simp [Cp.first]; rfl)
  go_enter Tryz.func83, Tryz.ntmps83
  go_wp2
  all_goals
    (first | go_end0 | refine bodyPost_ret (results_none rfl _ _ _) rfl ?_)
    refine ⟨rfl, ?_⟩
    rw [HP.out]
    exact Lft.mk' (by first | assumption | exact Base.drew (by assumption) | exact Base.drewN (by assumption) _ | exact Base.alloc (by assumption) _) (by repeat (first | exact Ext.refl _ | assumption | refine Ext.drew' ?_ | refine Ext.drewN' ?_ _ | refine Ext.alloc' ?_ _ | refine Ext.trans ?_ (by assumption)))
set_option maxRecDepth 8000 in
set_option maxHeartbeats 4000000 in
theorem first_30 (ho : c.Ok) : Calls Tryz.prog 83 #[.pointer (some ⟨m.c, 0, none⟩), .int .i64 30] (mk w m c sl b) fun e W => e = .returned (.tuple #[]) ∧ Lft w m (c.first 30) sl b W := by
  obtain ⟨code0, code1⟩ := ho.code
  obtain ⟨ix0, ix1⟩ := ho.ix
  obtain ⟨lo0, lo1⟩ := ho.lo
  obtain ⟨hi0, hi1⟩ := ho.hi
  have hg := ho.g
  obtain ⟨ra0, ra1⟩ := ho.g.a
  have HP := Lib.hid (show c.first 30 = _ by simp [Cp.first]; rfl)
  go_enter Tryz.func83, Tryz.ntmps83
  go_wp2
  go_region_with (go_at_call 72; (try simp only [mk_drew, mk_drewN]); refine Calls.mono (of_any _ _ _ (by first | assumption | omega) (by first | assumption | omega) (by first | assumption | omega) (by first | assumption | omega)) ?_; rintro e W ⟨rfl, rfl⟩)
  all_goals go_wp2
  all_goals
    (first | go_end0 | refine bodyPost_ret (results_none rfl _ _ _) rfl ?_)
    refine ⟨rfl, ?_⟩
    rw [HP.out]
    exact Lft.mk' (by first | assumption | exact Base.drew (by assumption) | exact Base.drewN (by assumption) _ | exact Base.alloc (by assumption) _) (by repeat (first | exact Ext.refl _ | assumption | refine Ext.drew' ?_ | refine Ext.drewN' ?_ _ | refine Ext.alloc' ?_ _ | refine Ext.trans ?_ (by assumption)))
set_option maxRecDepth 8000 in
set_option maxHeartbeats 4000000 in
theorem first_31 (ho : c.Ok) : Calls Tryz.prog 83 #[.pointer (some ⟨m.c, 0, none⟩), .int .i64 31] (mk w m c sl b) fun e W => e = .returned (.tuple #[]) ∧ Lft w m (c.first 31) sl b W := by
  obtain ⟨code0, code1⟩ := ho.code
  obtain ⟨ix0, ix1⟩ := ho.ix
  obtain ⟨lo0, lo1⟩ := ho.lo
  obtain ⟨hi0, hi1⟩ := ho.hi
  have hg := ho.g
  obtain ⟨wd0, wd1⟩ := ho.word
  have hk : ({ c with g := c.g.putPair 2 c.ix c.word } : Cp).Ok := { ho with g := (hg.putPair 2 c.ix c.word ho.word : (c.g.putPair 2 c.ix c.word).Ok) }
  have HP := Lib.hid (show c.first 31 = _ by simp [Cp.first]; rfl)
  go_enter Tryz.func83, Tryz.ntmps83
  go_wp2_with (go_at_call 119; (try simp only [mk_drew, mk_drewN]); refine Calls.mono (cword_any (by first | assumption | exact Base.drew (by assumption) | exact Base.drewN (by assumption) _ | exact Base.alloc (by assumption) _) _ _ _ (by assumption)) ?_; rintro e W ⟨rfl, n1, rfl⟩)
  go_region_held3 (fun w' => w'.cell? ⟨m.c, 33, none⟩ = some (.int .i64 c.ix)) (first | exact cell_33 (by first | assumption | exact Base.drew (by assumption) | exact Base.drewN (by assumption) _ | exact Base.alloc (by assumption) _) | exact (by rw [World.cell?_drew]; exact cell_33 (by first | assumption | exact Base.drew (by assumption) | exact Base.drewN (by assumption) _ | exact Base.alloc (by assumption) _))) (first | (go_at_call 119; (try simp only [mk_drew, mk_drewN]); refine Calls.mono (cword_any (by first | assumption | exact Base.drew (by assumption) | exact Base.drewN (by assumption) _ | exact Base.alloc (by assumption) _) _ _ _ (by assumption)) ?_; rintro e W ⟨rfl, n1, rfl⟩) | (go_at_call 117; (try simp only [mk_drew, mk_drewN]); refine Calls.mono (putPair_any (by first | assumption | exact Base.drew (by assumption) | exact Base.drewN (by assumption) _ | exact Base.alloc (by assumption) _) _ _ _ _ _ _ (by first | assumption | omega) (by first | assumption | omega) (by first | assumption | omega) (by first | assumption | omega) (by first | assumption | omega) (by first | assumption | omega)) ?_; rintro e W ⟨rfl, rfl⟩))
  all_goals go_wp2_with (go_at_call 119; (try simp only [mk_drew, mk_drewN]); refine Calls.mono (cword_any (by first | assumption | exact Base.drew (by assumption) | exact Base.drewN (by assumption) _ | exact Base.alloc (by assumption) _) _ _ _ (by assumption)) ?_; rintro e W ⟨rfl, n1, rfl⟩)
  all_goals
    (first | go_end0 | refine bodyPost_ret (results_none rfl _ _ _) rfl ?_)
    refine ⟨rfl, ?_⟩
    rw [HP.out]
    exact Lft.mk' (by first | assumption | exact Base.drew (by assumption) | exact Base.drewN (by assumption) _ | exact Base.alloc (by assumption) _) (by repeat (first | exact Ext.refl _ | assumption | refine Ext.drew' ?_ | refine Ext.drewN' ?_ _ | refine Ext.alloc' ?_ _ | refine Ext.trans ?_ (by assumption)))
end
end Go.Proofs.YtneganpbamemmaaGreat
