/- The works of plain codes. -/
import Derived.Test.YtneganpbamemmaaGreatWorkB
set_option linter.unusedVariables false
set_option linter.unusedSimpArgs false
set_option linter.unusedSectionVars false
namespace Go.Proofs.YtneganpbamemmaaGreat
open Go Go.RowKit Sq
section
variable {m : Mac} {w : World} (hb : Base m w) (c : Cp) (sl : Nat → Int) (b : Bd)
include hb
set_option maxRecDepth 8000 in
set_option maxHeartbeats 4000000 in
theorem other_32 (ho : c.Ok) : Calls Tryz.prog 84 #[.pointer (some ⟨m.c, 0, none⟩), .int .i64 32] (mk w m c sl b) fun e W => e = .returned (.tuple #[]) ∧ Lft w m (c.other 32) sl b W := by
  obtain ⟨code0, code1⟩ := ho.code
  obtain ⟨ix0, ix1⟩ := ho.ix
  obtain ⟨lo0, lo1⟩ := ho.lo
  obtain ⟨hi0, hi1⟩ := ho.hi
  have hg := ho.g
  have HP := Lib.hid (show c.other 32 = _ by simp [Cp.other]; rfl)
  go_enter Tryz.func84, Tryz.ntmps84
  go_wp2_with (go_at_call 126; (try simp only [mk_drew, mk_drewN]); refine Calls.mono (exDe_any (by first | assumption | exact Base.drew (by assumption) | exact Base.drewN (by assumption) _ | exact Base.alloc (by assumption) _) _ _ _) ?_; rintro e W ⟨rfl, w1, hx1, hb1, rfl⟩)
  all_goals
    (first | go_end0 | refine bodyPost_ret (results_none rfl _ _ _) rfl ?_)
    refine ⟨rfl, ?_⟩
    rw [HP.out]
    exact Lft.mk' (by first | assumption | exact Base.drew (by assumption) | exact Base.drewN (by assumption) _ | exact Base.alloc (by assumption) _) (by repeat (first | exact Ext.refl _ | assumption | refine Ext.drew' ?_ | refine Ext.drewN' ?_ _ | refine Ext.alloc' ?_ _ | refine Ext.trans ?_ (by assumption)))
set_option maxRecDepth 8000 in
set_option maxHeartbeats 4000000 in
theorem other_33 (ho : c.Ok) : Calls Tryz.prog 84 #[.pointer (some ⟨m.c, 0, none⟩), .int .i64 33] (mk w m c sl b) fun e W => e = .returned (.tuple #[]) ∧ Lft w m (c.other 33) sl b W := by
  obtain ⟨code0, code1⟩ := ho.code
  obtain ⟨ix0, ix1⟩ := ho.ix
  obtain ⟨lo0, lo1⟩ := ho.lo
  obtain ⟨hi0, hi1⟩ := ho.hi
  have hg := ho.g
  have HP := Lib.hid (show c.other 33 = _ by simp [Cp.other]; rfl)
  go_enter Tryz.func84, Tryz.ntmps84
  go_wp2
  all_goals
    (first | go_end0 | refine bodyPost_ret (results_none rfl _ _ _) rfl ?_)
    refine ⟨rfl, ?_⟩
    rw [HP.out]
    exact Lft.mk' (by first | assumption | exact Base.drew (by assumption) | exact Base.drewN (by assumption) _ | exact Base.alloc (by assumption) _) (by repeat (first | exact Ext.refl _ | assumption | refine Ext.drew' ?_ | refine Ext.drewN' ?_ _ | refine Ext.alloc' ?_ _ | refine Ext.trans ?_ (by assumption)))
set_option maxRecDepth 8000 in
set_option maxHeartbeats 4000000 in
theorem other_34 (ho : c.Ok) : Calls Tryz.prog 84 #[.pointer (some ⟨m.c, 0, none⟩), .int .i64 34] (mk w m c sl b) fun e W => e = .returned (.tuple #[]) ∧ Lft w m (c.other 34) sl b W := by
  obtain ⟨code0, code1⟩ := ho.code
  obtain ⟨ix0, ix1⟩ := ho.ix
  obtain ⟨lo0, lo1⟩ := ho.lo
  obtain ⟨hi0, hi1⟩ := ho.hi
  have hg := ho.g
  have HP := Lib.hid (show c.other 34 = _ by simp [Cp.other]; rfl)
  go_enter Tryz.func84, Tryz.ntmps84
  go_wp2
  all_goals
    (first | go_end0 | refine bodyPost_ret (results_none rfl _ _ _) rfl ?_)
    refine ⟨rfl, ?_⟩
    rw [HP.out]
    exact Lft.mk' (by first | assumption | exact Base.drew (by assumption) | exact Base.drewN (by assumption) _ | exact Base.alloc (by assumption) _) (by repeat (first | exact Ext.refl _ | assumption | refine Ext.drew' ?_ | refine Ext.drewN' ?_ _ | refine Ext.alloc' ?_ _ | refine Ext.trans ?_ (by assumption)))
set_option maxRecDepth 8000 in
set_option maxHeartbeats 4000000 in
theorem other_35 (ho : c.Ok) : Calls Tryz.prog 84 #[.pointer (some ⟨m.c, 0, none⟩), .int .i64 35] (mk w m c sl b) fun e W => e = .returned (.tuple #[]) ∧ Lft w m (c.other 35) sl b W := by
  obtain ⟨code0, code1⟩ := ho.code
  obtain ⟨ix0, ix1⟩ := ho.ix
  obtain ⟨lo0, lo1⟩ := ho.lo
  obtain ⟨hi0, hi1⟩ := ho.hi
  have hg := ho.g
  have hz := wrap16_id (bits_bd BinOp.and c.code 56)
  have HP := Lib.hid (show c.other 35 = _ by simp [Cp.other]; rfl)
  go_enter Tryz.func84, Tryz.ntmps84
  go_wp2
  all_goals
    (first | go_end0 | refine bodyPost_ret (results_none rfl _ _ _) rfl ?_)
    refine ⟨rfl, ?_⟩
    rw [HP.out]
    exact Lft.mk' (by first | assumption | exact Base.drew (by assumption) | exact Base.drewN (by assumption) _ | exact Base.alloc (by assumption) _) (by repeat (first | exact Ext.refl _ | assumption | refine Ext.drew' ?_ | refine Ext.drewN' ?_ _ | refine Ext.alloc' ?_ _ | refine Ext.trans ?_ (by assumption)))
set_option maxRecDepth 8000 in
set_option maxHeartbeats 4000000 in
theorem other_36 (ho : c.Ok) : Calls Tryz.prog 84 #[.pointer (some ⟨m.c, 0, none⟩), .int .i64 36] (mk w m c sl b) fun e W => e = .returned (.tuple #[]) ∧ Lft w m (c.other 36) sl b W := by
  obtain ⟨code0, code1⟩ := ho.code
  obtain ⟨ix0, ix1⟩ := ho.ix
  obtain ⟨lo0, lo1⟩ := ho.lo
  obtain ⟨hi0, hi1⟩ := ho.hi
  have hg := ho.g
  obtain ⟨rwz0, rwz1⟩ := ho.g.wz
  obtain ⟨hh0, hh1⟩ := whi_bd ho.g.wz
  have HP := Lib.hid (show c.other 36 = _ by simp [Cp.other]; rfl)
  go_enter Tryz.func84, Tryz.ntmps84
  go_wp2
  go_region_with (first | (go_at_call 128; (try simp only [mk_drew, mk_drewN]); refine Calls.mono (hi_any _ _ (by first | assumption | omega) (by first | assumption | omega)) ?_; rintro e W ⟨rfl, rfl⟩) | (go_at_call 127; (try simp only [mk_drew, mk_drewN]); refine Calls.mono (cbits_any (by first | assumption | exact Base.drew (by assumption) | exact Base.drewN (by assumption) _ | exact Base.alloc (by assumption) _) _ _ _ (by assumption) _ _ (by first | assumption | omega) (by first | assumption | omega) (by first | assumption | omega) (by first | assumption | omega)) ?_; rintro e W ⟨rfl, w1, hx1, hb1, rfl⟩))
  all_goals go_wp2
  all_goals
    (first | go_end0 | refine bodyPost_ret (results_none rfl _ _ _) rfl ?_)
    refine ⟨rfl, ?_⟩
    rw [HP.out]
    exact Lft.mk' (by first | assumption | exact Base.drew (by assumption) | exact Base.drewN (by assumption) _ | exact Base.alloc (by assumption) _) (by repeat (first | exact Ext.refl _ | assumption | refine Ext.drew' ?_ | refine Ext.drewN' ?_ _ | refine Ext.alloc' ?_ _ | refine Ext.trans ?_ (by assumption)))
set_option maxRecDepth 8000 in
set_option maxHeartbeats 4000000 in
theorem other_37 (ho : c.Ok) : Calls Tryz.prog 84 #[.pointer (some ⟨m.c, 0, none⟩), .int .i64 37] (mk w m c sl b) fun e W => e = .returned (.tuple #[]) ∧ Lft w m (c.other 37) sl b W := by
  obtain ⟨code0, code1⟩ := ho.code
  obtain ⟨ix0, ix1⟩ := ho.ix
  obtain ⟨lo0, lo1⟩ := ho.lo
  obtain ⟨hi0, hi1⟩ := ho.hi
  have hg := ho.g
  obtain ⟨cz0, cz1⟩ := cz_bd c.code
  obtain ⟨bz0, bz1⟩ := hg.byte (cz c.code) 0
  obtain ⟨hv0, hv1⟩ := bitsV_bd ho (hg.byte (cz c.code) 0)
  have hk := bitsC_ok ho (c.g.byte (cz c.code) 0) (c.g.byte (cz c.code) 0)
  have HP := Lib.hid (show c.other 37 = _ by simp [Cp.other]; rfl)
  go_enter Tryz.func84, Tryz.ntmps84
  go_wp2_with (first | (go_at_call 88; (try simp only [mk_drew, mk_drewN]); refine Calls.mono (z_any _ _ (by first | assumption | omega) (by first | assumption | omega)) ?_; rintro e W ⟨rfl, rfl⟩) | (go_at_call 129; (try simp only [mk_drew, mk_drewN]); refine Calls.mono (byte_any (by first | assumption | exact Base.drew (by assumption) | exact Base.drewN (by assumption) _ | exact Base.alloc (by assumption) _) _ _ _ (by assumption) _ _ (by first | assumption | omega) (by first | assumption | omega) (by first | assumption | omega) (by first | assumption | omega)) ?_; rintro e W ⟨rfl, rfl⟩) | (go_at_call 127; (try simp only [mk_drew, mk_drewN]); refine Calls.mono (cbits_any (by first | assumption | exact Base.drew (by assumption) | exact Base.drewN (by assumption) _ | exact Base.alloc (by assumption) _) _ _ _ (by assumption) _ _ (by first | assumption | omega) (by first | assumption | omega) (by first | assumption | omega) (by first | assumption | omega)) ?_; rintro e W ⟨rfl, w1, hx1, hb1, rfl⟩) | (go_at_call 130; (try simp only [mk_drew, mk_drewN]); refine Calls.mono (putByte_any (by first | assumption | exact Base.drew (by assumption) | exact Base.drewN (by assumption) _ | exact Base.alloc (by assumption) _) _ _ _ (by assumption) _ _ _ (by first | assumption | omega) (by first | assumption | omega) (by first | assumption | omega) (by first | assumption | omega) (by first | assumption | omega) (by first | assumption | omega)) ?_; rintro e W ⟨rfl, rfl⟩))
  all_goals
    (first | go_end0 | refine bodyPost_ret (results_none rfl _ _ _) rfl ?_)
    refine ⟨rfl, ?_⟩
    rw [HP.out]
    exact Lft.mk' (by first | assumption | exact Base.drew (by assumption) | exact Base.drewN (by assumption) _ | exact Base.alloc (by assumption) _) (by repeat (first | exact Ext.refl _ | assumption | refine Ext.drew' ?_ | refine Ext.drewN' ?_ _ | refine Ext.alloc' ?_ _ | refine Ext.trans ?_ (by assumption)))
set_option maxRecDepth 8000 in
set_option maxHeartbeats 4000000 in
theorem other_38 (ho : c.Ok) : Calls Tryz.prog 84 #[.pointer (some ⟨m.c, 0, none⟩), .int .i64 38] (mk w m c sl b) fun e W => e = .returned (.tuple #[]) ∧ Lft w m (c.other 38) sl b W := by
  obtain ⟨code0, code1⟩ := ho.code
  obtain ⟨ix0, ix1⟩ := ho.ix
  obtain ⟨lo0, lo1⟩ := ho.lo
  obtain ⟨hi0, hi1⟩ := ho.hi
  have hg := ho.g
  obtain ⟨cz0, cz1⟩ := cz_bd c.code
  have HP := Lib.hid (show c.other 38 = _ by simp [Cp.other]; rfl)
  go_enter Tryz.func84, Tryz.ntmps84
  go_wp2
  go_region_held3 (fun w' => w'.cell? ⟨m.c, 32, none⟩ = some (.int .u8 c.code) ∧ w'.cell? ⟨m.c, 36, none⟩ = some (.int .u8 c.lo)) (first | exact ⟨cell_32 (by first | assumption | exact Base.drew (by assumption) | exact Base.drewN (by assumption) _ | exact Base.alloc (by assumption) _), cell_36 (by first | assumption | exact Base.drew (by assumption) | exact Base.drewN (by assumption) _ | exact Base.alloc (by assumption) _)⟩ | exact ⟨(by rw [World.cell?_drew]; exact cell_32 (by first | assumption | exact Base.drew (by assumption) | exact Base.drewN (by assumption) _ | exact Base.alloc (by assumption) _)), (by rw [World.cell?_drew]; exact cell_36 (by first | assumption | exact Base.drew (by assumption) | exact Base.drewN (by assumption) _ | exact Base.alloc (by assumption) _))⟩) (first | (go_at_call 88; (try simp only [mk_drew, mk_drewN]); refine Calls.mono (z_any _ _ (by first | assumption | omega) (by first | assumption | omega)) ?_; rintro e W ⟨rfl, rfl⟩) | (go_at_call 130; (try simp only [mk_drew, mk_drewN]); refine Calls.mono (putByte_any (by first | assumption | exact Base.drew (by assumption) | exact Base.drewN (by assumption) _ | exact Base.alloc (by assumption) _) _ _ _ (by assumption) _ _ _ (by first | assumption | omega) (by first | assumption | omega) (by first | assumption | omega) (by first | assumption | omega) (by first | assumption | omega) (by first | assumption | omega)) ?_; rintro e W ⟨rfl, rfl⟩))
  all_goals go_wp2
  all_goals
    (first | go_end0 | refine bodyPost_ret (results_none rfl _ _ _) rfl ?_)
    refine ⟨rfl, ?_⟩
    rw [HP.out]
    exact Lft.mk' (by first | assumption | exact Base.drew (by assumption) | exact Base.drewN (by assumption) _ | exact Base.alloc (by assumption) _) (by repeat (first | exact Ext.refl _ | assumption | refine Ext.drew' ?_ | refine Ext.drewN' ?_ _ | refine Ext.alloc' ?_ _ | refine Ext.trans ?_ (by assumption)))
end
end Go.Proofs.YtneganpbamemmaaGreat
