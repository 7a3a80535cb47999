/- The works of plain codes. -/
import Derived.Test.YtneganpbamemmaaGreatWorkB
set_option linter.unusedVariables false
set_option linter.unusedSimpArgs false
set_option linter.unusedSectionVars false
namespace Go.Proofs.YtneganpbamemmaaGreat
open Go Go.RowKit Sq
section
variable {m : Mac} {w : World} (hb : Base m w) (c : Cp) (sl : Nat → Int) (b : Bd)
include hb
set_option maxRecDepth 8000 in
set_option maxHeartbeats 4000000 in
theorem more_41 (ho : c.Ok) : Calls Tryz.prog 85 #[.pointer (some ⟨m.c, 0, none⟩), .int .i64 41] (mk w m c sl b) fun e W => e = .returned (.tuple #[]) ∧ Lft w m (c.more 41) sl b W := by
  obtain ⟨code0, code1⟩ := ho.code
  obtain ⟨ix0, ix1⟩ := ho.ix
  obtain ⟨lo0, lo1⟩ := ho.lo
  obtain ⟨hi0, hi1⟩ := ho.hi
  have hg := ho.g
  obtain ⟨cp0, cp1⟩ := cp_bd c.code
  obtain ⟨hq0, hq1⟩ := hg.pair (cp c.code) 0
  obtain ⟨h00, h01⟩ := hg.pair 2 0
  obtain ⟨rf0, rf1⟩ := ho.g.f
  obtain ⟨hv0, hv1⟩ := wSbc_bd (c.g.pair 2 0) (c.g.pair (cp c.code) 0) c.g.f
  have HP := Lib.hid (show c.more 41 = _ by simp [Cp.more]; rfl)
  go_enter Tryz.func85, Tryz.ntmps85
  go_wp2_with (first | (go_at_call 82; (try simp only [mk_drew, mk_drewN]); refine Calls.mono (pair_any (by first | assumption | exact Base.drew (by assumption) | exact Base.drewN (by assumption) _ | exact Base.alloc (by assumption) _) _ _ _ (by assumption) _ _ (by first | assumption | omega) (by first | assumption | omega) (by first | assumption | omega) (by first | assumption | omega)) ?_; rintro e W ⟨rfl, n1, rfl⟩) | (go_at_call 117; (try simp only [mk_drew, mk_drewN]); refine Calls.mono (putPair_any (by first | assumption | exact Base.drew (by assumption) | exact Base.drewN (by assumption) _ | exact Base.alloc (by assumption) _) _ _ _ _ _ _ (by first | assumption | omega) (by first | assumption | omega) (by first | assumption | omega) (by first | assumption | omega) (by first | assumption | omega) (by first | assumption | omega)) ?_; rintro e W ⟨rfl, rfl⟩) | (go_at_call 121; (try simp only [mk_drew, mk_drewN]); refine Calls.mono (cset_any (by first | assumption | exact Base.drew (by assumption) | exact Base.drewN (by assumption) _ | exact Base.alloc (by assumption) _) _ _ _ _) ?_; rintro e W ⟨rfl, rfl⟩))
  go_region_held3 (fun w' => w'.cell? ⟨m.c, 32, none⟩ = some (.int .u8 c.code) ∧ w'.cell? ⟨m.c, 1, none⟩ = some (.int .u8 c.g.f)) (first | exact ⟨cell_32 (by first | assumption | exact Base.drew (by assumption) | exact Base.drewN (by assumption) _ | exact Base.alloc (by assumption) _), cell_1 (by first | assumption | exact Base.drew (by assumption) | exact Base.drewN (by assumption) _ | exact Base.alloc (by assumption) _)⟩ | exact ⟨(by rw [World.cell?_drew]; exact cell_32 (by first | assumption | exact Base.drew (by assumption) | exact Base.drewN (by assumption) _ | exact Base.alloc (by assumption) _)), (by rw [World.cell?_drew]; exact cell_1 (by first | assumption | exact Base.drew (by assumption) | exact Base.drewN (by assumption) _ | exact Base.alloc (by assumption) _))⟩) (first | (go_at_call 118; (try simp only [mk_drew, mk_drewN]); refine Calls.mono (p_any _ _ (by first | assumption | omega) (by first | assumption | omega)) ?_; rintro e W ⟨rfl, rfl⟩) | (go_at_call 82; (try simp only [mk_drew, mk_drewN]); refine Calls.mono (pair_any (by first | assumption | exact Base.drew (by assumption) | exact Base.drewN (by assumption) _ | exact Base.alloc (by assumption) _) _ _ _ (by assumption) _ _ (by first | assumption | omega) (by first | assumption | omega) (by first | assumption | omega) (by first | assumption | omega)) ?_; rintro e W ⟨rfl, n1, rfl⟩) | (go_at_call 132; (try simp only [mk_drew, mk_drewN]); refine Calls.mono (sbc_any _ _ _ _ (by first | assumption | omega) (by first | assumption | omega) (by first | assumption | omega) (by first | assumption | omega) (by first | assumption | omega) (by first | assumption | omega)) ?_; rintro e W ⟨rfl, hx⟩; obtain ⟨w1, hx1, hb1, rfl⟩ := lift (by first | assumption | exact Base.drew (by assumption) | exact Base.drewN (by assumption) _ | exact Base.alloc (by assumption) _) hx; clear hx))
  all_goals go_wp2_with (first | (go_at_call 82; (try simp only [mk_drew, mk_drewN]); refine Calls.mono (pair_any (by first | assumption | exact Base.drew (by assumption) | exact Base.drewN (by assumption) _ | exact Base.alloc (by assumption) _) _ _ _ (by assumption) _ _ (by first | assumption | omega) (by first | assumption | omega) (by first | assumption | omega) (by first | assumption | omega)) ?_; rintro e W ⟨rfl, n1, rfl⟩) | (go_at_call 117; (try simp only [mk_drew, mk_drewN]); refine Calls.mono (putPair_any (by first | assumption | exact Base.drew (by assumption) | exact Base.drewN (by assumption) _ | exact Base.alloc (by assumption) _) _ _ _ _ _ _ (by first | assumption | omega) (by first | assumption | omega) (by first | assumption | omega) (by first | assumption | omega) (by first | assumption | omega) (by first | assumption | omega)) ?_; rintro e W ⟨rfl, rfl⟩) | (go_at_call 121; (try simp only [mk_drew, mk_drewN]); refine Calls.mono (cset_any (by first | assumption | exact Base.drew (by assumption) | exact Base.drewN (by assumption) _ | exact Base.alloc (by assumption) _) _ _ _ _) ?_; rintro e W ⟨rfl, rfl⟩))
  all_goals
    (first | go_end0 | refine bodyPost_ret (results_none rfl _ _ _) rfl ?_)
    refine ⟨rfl, ?_⟩
    rw [HP.out]
    exact Lft.mk' (by first | assumption | exact Base.drew (by assumption) | exact Base.drewN (by assumption) _ | exact Base.alloc (by assumption) _) (by repeat (first | exact Ext.refl _ | assumption | refine Ext.drew' ?_ | refine Ext.drewN' ?_ _ | refine Ext.alloc' ?_ _ | refine Ext.trans ?_ (by assumption)))
set_option maxRecDepth 8000 in
set_option maxHeartbeats 4000000 in
theorem more_42 (ho : c.Ok) : Calls Tryz.prog 85 #[.pointer (some ⟨m.c, 0, none⟩), .int .i64 42] (mk w m c sl b) fun e W => e = .returned (.tuple #[]) ∧ Lft w m (c.more 42) sl b W := by
  obtain ⟨code0, code1⟩ := ho.code
  obtain ⟨ix0, ix1⟩ := ho.ix
  obtain ⟨lo0, lo1⟩ := ho.lo
  obtain ⟨hi0, hi1⟩ := ho.hi
  have hg := ho.g
  obtain ⟨cp0, cp1⟩ := cp_bd c.code
  obtain ⟨hq0, hq1⟩ := hg.pair (cp c.code) 0
  obtain ⟨h00, h01⟩ := hg.pair 2 0
  obtain ⟨rf0, rf1⟩ := ho.g.f
  obtain ⟨hv0, hv1⟩ := wAdc_bd (c.g.pair 2 0) (c.g.pair (cp c.code) 0) c.g.f
  have HP := Lib.hid (show c.more 42 = _ by simp [Cp.more]; rfl)
  go_enter Tryz.func85, Tryz.ntmps85
  go_wp2_with (first | (go_at_call 82; (try simp only [mk_drew, mk_drewN]); refine Calls.mono (pair_any (by first | assumption | exact Base.drew (by assumption) | exact Base.drewN (by assumption) _ | exact Base.alloc (by assumption) _) _ _ _ (by assumption) _ _ (by first | assumption | omega) (by first | assumption | omega) (by first | assumption | omega) (by first | assumption | omega)) ?_; rintro e W ⟨rfl, n1, rfl⟩) | (go_at_call 117; (try simp only [mk_drew, mk_drewN]); refine Calls.mono (putPair_any (by first | assumption | exact Base.drew (by assumption) | exact Base.drewN (by assumption) _ | exact Base.alloc (by assumption) _) _ _ _ _ _ _ (by first | assumption | omega) (by first | assumption | omega) (by first | assumption | omega) (by first | assumption | omega) (by first | assumption | omega) (by first | assumption | omega)) ?_; rintro e W ⟨rfl, rfl⟩) | (go_at_call 121; (try simp only [mk_drew, mk_drewN]); refine Calls.mono (cset_any (by first | assumption | exact Base.drew (by assumption) | exact Base.drewN (by assumption) _ | exact Base.alloc (by assumption) _) _ _ _ _) ?_; rintro e W ⟨rfl, rfl⟩))
  go_region_held3 (fun w' => w'.cell? ⟨m.c, 32, none⟩ = some (.int .u8 c.code) ∧ w'.cell? ⟨m.c, 1, none⟩ = some (.int .u8 c.g.f)) (first | exact ⟨cell_32 (by first | assumption | exact Base.drew (by assumption) | exact Base.drewN (by assumption) _ | exact Base.alloc (by assumption) _), cell_1 (by first | assumption | exact Base.drew (by assumption) | exact Base.drewN (by assumption) _ | exact Base.alloc (by assumption) _)⟩ | exact ⟨(by rw [World.cell?_drew]; exact cell_32 (by first | assumption | exact Base.drew (by assumption) | exact Base.drewN (by assumption) _ | exact Base.alloc (by assumption) _)), (by rw [World.cell?_drew]; exact cell_1 (by first | assumption | exact Base.drew (by assumption) | exact Base.drewN (by assumption) _ | exact Base.alloc (by assumption) _))⟩) (first | (go_at_call 118; (try simp only [mk_drew, mk_drewN]); refine Calls.mono (p_any _ _ (by first | assumption | omega) (by first | assumption | omega)) ?_; rintro e W ⟨rfl, rfl⟩) | (go_at_call 82; (try simp only [mk_drew, mk_drewN]); refine Calls.mono (pair_any (by first | assumption | exact Base.drew (by assumption) | exact Base.drewN (by assumption) _ | exact Base.alloc (by assumption) _) _ _ _ (by assumption) _ _ (by first | assumption | omega) (by first | assumption | omega) (by first | assumption | omega) (by first | assumption | omega)) ?_; rintro e W ⟨rfl, n1, rfl⟩) | (go_at_call 133; (try simp only [mk_drew, mk_drewN]); refine Calls.mono (plus_any3 _ _ _ _ (by first | assumption | omega) (by first | assumption | omega) (by first | assumption | omega) (by first | assumption | omega) (by first | assumption | omega) (by first | assumption | omega)) ?_; rintro e W ⟨rfl, hx⟩; obtain ⟨w1, hx1, hb1, rfl⟩ := lift (by first | assumption | exact Base.drew (by assumption) | exact Base.drewN (by assumption) _ | exact Base.alloc (by assumption) _) hx; clear hx))
  all_goals go_wp2_with (first | (go_at_call 82; (try simp only [mk_drew, mk_drewN]); refine Calls.mono (pair_any (by first | assumption | exact Base.drew (by assumption) | exact Base.drewN (by assumption) _ | exact Base.alloc (by assumption) _) _ _ _ (by assumption) _ _ (by first | assumption | omega) (by first | assumption | omega) (by first | assumption | omega) (by first | assumption | omega)) ?_; rintro e W ⟨rfl, n1, rfl⟩) | (go_at_call 117; (try simp only [mk_drew, mk_drewN]); refine Calls.mono (putPair_any (by first | assumption | exact Base.drew (by assumption) | exact Base.drewN (by assumption) _ | exact Base.alloc (by assumption) _) _ _ _ _ _ _ (by first | assumption | omega) (by first | assumption | omega) (by first | assumption | omega) (by first | assumption | omega) (by first | assumption | omega) (by first | assumption | omega)) ?_; rintro e W ⟨rfl, rfl⟩) | (go_at_call 121; (try simp only [mk_drew, mk_drewN]); refine Calls.mono (cset_any (by first | assumption | exact Base.drew (by assumption) | exact Base.drewN (by assumption) _ | exact Base.alloc (by assumption) _) _ _ _ _) ?_; rintro e W ⟨rfl, rfl⟩))
  all_goals
    (first | go_end0 | refine bodyPost_ret (results_none rfl _ _ _) rfl ?_)
    refine ⟨rfl, ?_⟩
    rw [HP.out]
    exact Lft.mk' (by first | assumption | exact Base.drew (by assumption) | exact Base.drewN (by assumption) _ | exact Base.alloc (by assumption) _) (by repeat (first | exact Ext.refl _ | assumption | refine Ext.drew' ?_ | refine Ext.drewN' ?_ _ | refine Ext.alloc' ?_ _ | refine Ext.trans ?_ (by assumption)))
set_option maxRecDepth 8000 in
set_option maxHeartbeats 4000000 in
theorem more_43 (ho : c.Ok) : Calls Tryz.prog 85 #[.pointer (some ⟨m.c, 0, none⟩), .int .i64 43] (mk w m c sl b) fun e W => e = .returned (.tuple #[]) ∧ Lft w m (c.more 43) sl b W := by
  obtain ⟨code0, code1⟩ := ho.code
  obtain ⟨ix0, ix1⟩ := ho.ix
  obtain ⟨lo0, lo1⟩ := ho.lo
  obtain ⟨hi0, hi1⟩ := ho.hi
  have hg := ho.g
  obtain ⟨h00, h01⟩ := hg.pair 2 0
  obtain ⟨ra0, ra1⟩ := ho.g.a
  have HP := Lib.hid (show c.more 43 = _ by simp [Cp.more]; rfl)
  go_enter Tryz.func85, Tryz.ntmps85
  go_wp2_with (first | (go_at_call 82; (try simp only [mk_drew, mk_drewN]); refine Calls.mono (pair_any (by first | assumption | exact Base.drew (by assumption) | exact Base.drewN (by assumption) _ | exact Base.alloc (by assumption) _) _ _ _ (by assumption) _ _ (by first | assumption | omega) (by first | assumption | omega) (by first | assumption | omega) (by first | assumption | omega)) ?_; rintro e W ⟨rfl, n1, rfl⟩) | (go_at_call 134; (try simp only [mk_drew, mk_drewN]); refine Calls.mono (neg_any _ _ (by first | assumption | omega) (by first | assumption | omega)) ?_; rintro e W ⟨rfl, hx⟩; obtain ⟨w1, hx1, hb1, rfl⟩ := lift (by first | assumption | exact Base.drew (by assumption) | exact Base.drewN (by assumption) _ | exact Base.alloc (by assumption) _) hx; clear hx) | (go_at_call 121; (try simp only [mk_drew, mk_drewN]); refine Calls.mono (cset_any (by first | assumption | exact Base.drew (by assumption) | exact Base.drewN (by assumption) _ | exact Base.alloc (by assumption) _) _ _ _ _) ?_; rintro e W ⟨rfl, rfl⟩))
  all_goals
    (first | go_end0 | refine bodyPost_ret (results_none rfl _ _ _) rfl ?_)
    refine ⟨rfl, ?_⟩
    rw [HP.out]
    exact Lft.mk' (by first | assumption | exact Base.drew (by assumption) | exact Base.drewN (by assumption) _ | exact Base.alloc (by assumption) _) (by repeat (first | exact Ext.refl _ | assumption | refine Ext.drew' ?_ | refine Ext.drewN' ?_ _ | refine Ext.alloc' ?_ _ | refine Ext.trans ?_ (by assumption)))
set_option maxRecDepth 8000 in
set_option maxHeartbeats 4000000 in
theorem more_48 (ho : c.Ok) : Calls Tryz.prog 85 #[.pointer (some ⟨m.c, 0, none⟩), .int .i64 48] (mk w m c sl b) fun e W => e = .returned (.tuple #[]) ∧ Lft w m (c.more 48) sl b W := by
  obtain ⟨code0, code1⟩ := ho.code
  obtain ⟨ix0, ix1⟩ := ho.ix
  obtain ⟨lo0, lo1⟩ := ho.lo
  obtain ⟨hi0, hi1⟩ := ho.hi
  have hg := ho.g
  obtain ⟨h00, h01⟩ := hg.pair 2 0
  have hk : ({ c with g := { c.g with a := c.g.i } } : Cp).Ok := { ho with g := ({ hg with a := hg.i } : ({ c.g with a := c.g.i } : Rg).Ok) }
  have HP := Lib.hid (show c.more 48 = _ by simp [Cp.more]; rfl)
  go_enter Tryz.func85, Tryz.ntmps85
  go_wp2_with (first | (go_at_call 82; (try simp only [mk_drew, mk_drewN]); refine Calls.mono (pair_any (by first | assumption | exact Base.drew (by assumption) | exact Base.drewN (by assumption) _ | exact Base.alloc (by assumption) _) _ _ _ (by assumption) _ _ (by first | assumption | omega) (by first | assumption | omega) (by first | assumption | omega) (by first | assumption | omega)) ?_; rintro e W ⟨rfl, n1, rfl⟩) | (go_at_call 135; (try simp only [mk_drew, mk_drewN]); refine Calls.mono (loaded_any (by first | assumption | exact Base.drew (by assumption) | exact Base.drewN (by assumption) _ | exact Base.alloc (by assumption) _) _ _ _ (by assumption)) ?_; rintro e W ⟨rfl, n1, rfl⟩) | (go_at_call 121; (try simp only [mk_drew, mk_drewN]); refine Calls.mono (cset_any (by first | assumption | exact Base.drew (by assumption) | exact Base.drewN (by assumption) _ | exact Base.alloc (by assumption) _) _ _ _ _) ?_; rintro e W ⟨rfl, rfl⟩))
  all_goals
    (first | go_end0 | refine bodyPost_ret (results_none rfl _ _ _) rfl ?_)
    refine ⟨rfl, ?_⟩
    rw [HP.out]
    exact Lft.mk' (by first | assumption | exact Base.drew (by assumption) | exact Base.drewN (by assumption) _ | exact Base.alloc (by assumption) _) (by repeat (first | exact Ext.refl _ | assumption | refine Ext.drew' ?_ | refine Ext.drewN' ?_ _ | refine Ext.alloc' ?_ _ | refine Ext.trans ?_ (by assumption)))
set_option maxRecDepth 8000 in
set_option maxHeartbeats 4000000 in
theorem more_49 (ho : c.Ok) : Calls Tryz.prog 85 #[.pointer (some ⟨m.c, 0, none⟩), .int .i64 49] (mk w m c sl b) fun e W => e = .returned (.tuple #[]) ∧ Lft w m (c.more 49) sl b W := by
  obtain ⟨code0, code1⟩ := ho.code
  obtain ⟨ix0, ix1⟩ := ho.ix
  obtain ⟨lo0, lo1⟩ := ho.lo
  obtain ⟨hi0, hi1⟩ := ho.hi
  have hg := ho.g
  obtain ⟨h00, h01⟩ := hg.pair 2 0
  have hk : ({ c with g := { c.g with a := c.g.r } } : Cp).Ok := { ho with g := ({ hg with a := hg.r } : ({ c.g with a := c.g.r } : Rg).Ok) }
  have HP := Lib.hid (show c.more 49 = _ by simp [Cp.more]; rfl)
  go_enter Tryz.func85, Tryz.ntmps85
  go_wp2_with (first | (go_at_call 82; (try simp only [mk_drew, mk_drewN]); refine Calls.mono (pair_any (by first | assumption | exact Base.drew (by assumption) | exact Base.drewN (by assumption) _ | exact Base.alloc (by assumption) _) _ _ _ (by assumption) _ _ (by first | assumption | omega) (by first | assumption | omega) (by first | assumption | omega) (by first | assumption | omega)) ?_; rintro e W ⟨rfl, n1, rfl⟩) | (go_at_call 135; (try simp only [mk_drew, mk_drewN]); refine Calls.mono (loaded_any (by first | assumption | exact Base.drew (by assumption) | exact Base.drewN (by assumption) _ | exact Base.alloc (by assumption) _) _ _ _ (by assumption)) ?_; rintro e W ⟨rfl, n1, rfl⟩) | (go_at_call 121; (try simp only [mk_drew, mk_drewN]); refine Calls.mono (cset_any (by first | assumption | exact Base.drew (by assumption) | exact Base.drewN (by assumption) _ | exact Base.alloc (by assumption) _) _ _ _ _) ?_; rintro e W ⟨rfl, rfl⟩))
  all_goals
    (first | go_end0 | refine bodyPost_ret (results_none rfl _ _ _) rfl ?_)
    refine ⟨rfl, ?_⟩
    rw [HP.out]
    exact Lft.mk' (by first | assumption | exact Base.drew (by assumption) | exact Base.drewN (by assumption) _ | exact Base.alloc (by assumption) _) (by repeat (first | exact Ext.refl _ | assumption | refine Ext.drew' ?_ | refine Ext.drewN' ?_ _ | refine Ext.alloc' ?_ _ | refine Ext.trans ?_ (by assumption)))
end
end Go.Proofs.YtneganpbamemmaaGreat
