/- The processor: a code has come; its steps. -/
import Derived.Test.YtneganpbamemmaaGreatPlainB
import Derived.Test.YtneganpbamemmaaGreatMicro3
import Derived.Test.YtneganpbamemmaaGreatWorks
set_option linter.unusedVariables false
set_option linter.unusedSimpArgs false
set_option linter.unusedSectionVars false
namespace Go.Proofs.YtneganpbamemmaaGreat
open Go Go.RowKit Sq
section
variable {m : Mac} {w : World} (hb : Base m w) (c : Cp) (sl : Nat → Int) (b : Bd)
include hb
theorem mprog0_0 (hts : m.ts = 115) (v : Int) (h0 : 0 ≤ v) (h1 : v < 256) (hx : cx v = 0) : Calls Tryz.prog 81 #[.slice (some ⟨m.s, 0, none⟩) 0 16, .int .i64 0, .int .i64 0, .int .u8 v] (mk w m c sl b) fun e W => e = .returned (.slice (some ⟨m.s, 0, none⟩) (mProg 0 0 v).length 16) ∧ Lft w m c (app sl 0 (mProg 0 0 v)) b W := by
  rw [show mProg 0 0 v = mFirst 0 v from by simp [mProg, hx]]
  have H := Lib.hid hts
  have HX := Lib.hid hx
  clear hts hx
  have hx0 : (cx v == 0) = true := by simp [HX.out]
  have hx1 : (cx v == 1) = false := by simp [HX.out]
  have hx2 : (cx v == 2) = false := by simp [HX.out]
  go_enter Tryz.func81, Tryz.ntmps81
  go_wp2_with (first | (go_at_call 106; refine (mx_any _ _ h0 h1).mono ?_; rintro e W ⟨rfl, rfl⟩) | (go_at_call 107; refine Calls.mono (mFirst_any (by assumption) H.out _ _ _ _ _ (by omega) (by omega) _ h0 h1 (by omega)) ?_; rintro e W ⟨rfl, w1, hx1, hb1, rfl⟩))
  go_ret
  exact ⟨rfl, Lft.mk' (by first | assumption | exact Base.drew (by assumption) | exact Base.drewN (by assumption) _ | exact Base.alloc (by assumption) _) (by repeat (first | exact Ext.refl _ | assumption | refine Ext.drew' ?_ | refine Ext.drewN' ?_ _ | refine Ext.alloc' ?_ _ | refine Ext.trans ?_ (by assumption)))⟩
theorem mprog0_1 (hts : m.ts = 115) (v : Int) (h0 : 0 ≤ v) (h1 : v < 256) (hx : cx v = 1) : Calls Tryz.prog 81 #[.slice (some ⟨m.s, 0, none⟩) 0 16, .int .i64 0, .int .i64 0, .int .u8 v] (mk w m c sl b) fun e W => e = .returned (.slice (some ⟨m.s, 0, none⟩) (mProg 0 0 v).length 16) ∧ Lft w m c (app sl 0 (mProg 0 0 v)) b W := by
  rw [show mProg 0 0 v = mLoads 0 v from by simp [mProg, hx]]
  have H := Lib.hid hts
  have HX := Lib.hid hx
  clear hts hx
  have hx0 : (cx v == 0) = false := by simp [HX.out]
  have hx1 : (cx v == 1) = true := by simp [HX.out]
  have hx2 : (cx v == 2) = false := by simp [HX.out]
  go_enter Tryz.func81, Tryz.ntmps81
  go_wp2_with (first | (go_at_call 106; refine (mx_any _ _ h0 h1).mono ?_; rintro e W ⟨rfl, rfl⟩) | (go_at_call 108; refine Calls.mono (mLoads_any (by assumption) H.out _ _ _ _ _ (by omega) (by omega) _ h0 h1 (by omega)) ?_; rintro e W ⟨rfl, w1, hx1, hb1, rfl⟩))
  go_ret
  exact ⟨rfl, Lft.mk' (by first | assumption | exact Base.drew (by assumption) | exact Base.drewN (by assumption) _ | exact Base.alloc (by assumption) _) (by repeat (first | exact Ext.refl _ | assumption | refine Ext.drew' ?_ | refine Ext.drewN' ?_ _ | refine Ext.alloc' ?_ _ | refine Ext.trans ?_ (by assumption)))⟩
theorem mprog0_2 (hts : m.ts = 115) (v : Int) (h0 : 0 ≤ v) (h1 : v < 256) (hx : cx v = 2) : Calls Tryz.prog 81 #[.slice (some ⟨m.s, 0, none⟩) 0 16, .int .i64 0, .int .i64 0, .int .u8 v] (mk w m c sl b) fun e W => e = .returned (.slice (some ⟨m.s, 0, none⟩) (mProg 0 0 v).length 16) ∧ Lft w m c (app sl 0 (mProg 0 0 v)) b W := by
  rw [show mProg 0 0 v = mSums 0 v from by simp [mProg, hx]]
  have H := Lib.hid hts
  have HX := Lib.hid hx
  clear hts hx
  have hx0 : (cx v == 0) = false := by simp [HX.out]
  have hx1 : (cx v == 1) = false := by simp [HX.out]
  have hx2 : (cx v == 2) = true := by simp [HX.out]
  go_enter Tryz.func81, Tryz.ntmps81
  go_wp2_with (first | (go_at_call 106; refine (mx_any _ _ h0 h1).mono ?_; rintro e W ⟨rfl, rfl⟩) | (go_at_call 109; refine Calls.mono (mSums_any (by assumption) H.out _ _ _ _ _ (by omega) (by omega) _ h0 h1 (by omega)) ?_; rintro e W ⟨rfl, w1, hx1, hb1, rfl⟩))
  go_ret
  exact ⟨rfl, Lft.mk' (by first | assumption | exact Base.drew (by assumption) | exact Base.drewN (by assumption) _ | exact Base.alloc (by assumption) _) (by repeat (first | exact Ext.refl _ | assumption | refine Ext.drew' ?_ | refine Ext.drewN' ?_ _ | refine Ext.alloc' ?_ _ | refine Ext.trans ?_ (by assumption)))⟩
theorem mprog0_3 (hts : m.ts = 115) (v : Int) (h0 : 0 ≤ v) (h1 : v < 256) (hx : cx v = 3) : Calls Tryz.prog 81 #[.slice (some ⟨m.s, 0, none⟩) 0 16, .int .i64 0, .int .i64 0, .int .u8 v] (mk w m c sl b) fun e W => e = .returned (.slice (some ⟨m.s, 0, none⟩) (mProg 0 0 v).length 16) ∧ Lft w m c (app sl 0 (mProg 0 0 v)) b W := by
  rw [show mProg 0 0 v = mLast v from by simp [mProg, hx]]
  have H := Lib.hid hts
  have HX := Lib.hid hx
  clear hts hx
  have hx0 : (cx v == 0) = false := by simp [HX.out]
  have hx1 : (cx v == 1) = false := by simp [HX.out]
  have hx2 : (cx v == 2) = false := by simp [HX.out]
  go_enter Tryz.func81, Tryz.ntmps81
  go_wp2_with (first | (go_at_call 106; refine (mx_any _ _ h0 h1).mono ?_; rintro e W ⟨rfl, rfl⟩) | (go_at_call 110; refine Calls.mono (mLast_any (by assumption) H.out _ _ _ _ _ h0 h1 (by omega)) ?_; rintro e W ⟨rfl, w1, hx1, hb1, rfl⟩))
  go_ret
  exact ⟨rfl, Lft.mk' (by first | assumption | exact Base.drew (by assumption) | exact Base.drewN (by assumption) _ | exact Base.alloc (by assumption) _) (by repeat (first | exact Ext.refl _ | assumption | refine Ext.drew' ?_ | refine Ext.drewN' ?_ _ | refine Ext.alloc' ?_ _ | refine Ext.trans ?_ (by assumption)))⟩
theorem mprog_1 (hts : m.ts = 115) (v : Int) (h0 : 0 ≤ v) (h1 : v < 256) : Calls Tryz.prog 81 #[.slice (some ⟨m.s, 0, none⟩) 0 16, .int .i64 1, .int .i64 0, .int .u8 v] (mk w m c sl b) fun e W => e = .returned (.slice (some ⟨m.s, 0, none⟩) (mProg 1 0 v).length 16) ∧ Lft w m c (app sl 0 (mProg 1 0 v)) b W := by
  rw [show mProg 1 0 v = mBits v from rfl]
  have H := Lib.hid hts
  clear hts
  go_enter Tryz.func81, Tryz.ntmps81
  go_wp2_with (go_at_call 111; refine Calls.mono (mBits_any (by assumption) H.out _ _ _ _ _ h0 h1 (by omega)) ?_; rintro e W ⟨rfl, w1, hx1, hb1, rfl⟩)
  go_ret
  exact ⟨rfl, Lft.mk' (by first | assumption | exact Base.drew (by assumption) | exact Base.drewN (by assumption) _ | exact Base.alloc (by assumption) _) (by repeat (first | exact Ext.refl _ | assumption | refine Ext.drew' ?_ | refine Ext.drewN' ?_ _ | refine Ext.alloc' ?_ _ | refine Ext.trans ?_ (by assumption)))⟩
theorem mprog_2 (hts : m.ts = 115) (v : Int) (h0 : 0 ≤ v) (h1 : v < 256) : Calls Tryz.prog 81 #[.slice (some ⟨m.s, 0, none⟩) 0 16, .int .i64 2, .int .i64 0, .int .u8 v] (mk w m c sl b) fun e W => e = .returned (.slice (some ⟨m.s, 0, none⟩) (mProg 2 0 v).length 16) ∧ Lft w m c (app sl 0 (mProg 2 0 v)) b W := by
  rw [show mProg 2 0 v = mSecond v from rfl]
  have H := Lib.hid hts
  clear hts
  go_enter Tryz.func81, Tryz.ntmps81
  go_wp2_with (go_at_call 112; refine Calls.mono (mSecond_any (by assumption) H.out _ _ _ _ _ h0 h1 (by omega)) ?_; rintro e W ⟨rfl, w1, hx1, hb1, rfl⟩)
  go_ret
  exact ⟨rfl, Lft.mk' (by first | assumption | exact Base.drew (by assumption) | exact Base.drewN (by assumption) _ | exact Base.alloc (by assumption) _) (by repeat (first | exact Ext.refl _ | assumption | refine Ext.drew' ?_ | refine Ext.drewN' ?_ _ | refine Ext.alloc' ?_ _ | refine Ext.trans ?_ (by assumption)))⟩
theorem mprog_any (hts : m.ts = 115) (set v : Int) (hs : 0 ≤ set ∧ set ≤ 2) (h0 : 0 ≤ v) (h1 : v < 256) : Calls Tryz.prog 81 #[.slice (some ⟨m.s, 0, none⟩) 0 16, .int .i64 set, .int .i64 0, .int .u8 v] (mk w m c sl b) fun e W => e = .returned (.slice (some ⟨m.s, 0, none⟩) (mProg set 0 v).length 16) ∧ Lft w m c (app sl 0 (mProg set 0 v)) b W := by
  rcases (by omega : set = 0 ∨ set = 1 ∨ set = 2) with rfl | rfl | rfl
  · have hx := cx_bd ⟨h0, h1⟩
    rcases (by omega : cx v = 0 ∨ cx v = 1 ∨ cx v = 2 ∨ cx v = 3) with hx | hx | hx | hx
    · exact mprog0_0 hb c sl b hts v h0 h1 hx
    · exact mprog0_1 hb c sl b hts v h0 h1 hx
    · exact mprog0_2 hb c sl b hts v h0 h1 hx
    · exact mprog0_3 hb c sl b hts v h0 h1 hx
  · exact mprog_1 hb c sl b hts v h0 h1
  · exact mprog_2 hb c sl b hts v h0 h1
theorem program_any (ho : c.Ok) (hts : m.ts = 115) (set v : Int) (hs : 0 ≤ set ∧ set ≤ 2) (h0 : 0 ≤ v) (h1 : v < 256) : Calls Tryz.prog 73 #[.pointer (some ⟨m.c, 0, none⟩), .int .i64 set, .int .i64 0, .int .u8 v] (mk w m c sl b) fun e W => e = .returned (.tuple #[]) ∧ Lft w m (c.prog set 0 v) (app sl 0 (mProg set 0 v)) b W := by
  have hg := ho.g
  have hn : (set == 3) = false := by simp; omega
  have H := Lib.hid (fun (w' : World) (hb' : Base m w') (c' : Cp) => mprog_any hb' c' sl b hts set v hs h0 h1)
  clear hts
  go_enter Tryz.func73, Tryz.ntmps73
  go_wp2_with (first | (go_at_call 82; (try simp only [mk_drew, mk_drewN]); refine Calls.mono (pair_any (by first | assumption | exact Base.drew (by assumption) | exact Base.drewN (by assumption) _ | exact Base.alloc (by assumption) _) _ _ _ (by assumption) _ _ (by first | assumption | omega) (by first | assumption | omega) (by first | assumption | omega) (by first | assumption | omega)) ?_; rintro e W ⟨rfl, n1, rfl⟩) | (go_at_call 81; (try simp only [mk_drew, mk_drewN]); refine Calls.mono (H.out _ (by first | assumption | exact Base.drew (by assumption) | exact Base.drewN (by assumption) _ | exact Base.alloc (by assumption) _) _) ?_; rintro e W ⟨rfl, w1, hx1, hb1, rfl⟩))
  all_goals
    (first | go_end0 | refine bodyPost_ret (results_none rfl _ _ _) rfl ?_)
    exact ⟨rfl, Lft.mk' (by first | assumption | exact Base.drew (by assumption) | exact Base.drewN (by assumption) _ | exact Base.alloc (by assumption) _) (by repeat (first | exact Ext.refl _ | assumption | refine Ext.drew' ?_ | refine Ext.drewN' ?_ _ | refine Ext.alloc' ?_ _ | refine Ext.trans ?_ (by assumption)))⟩
theorem latch_any (v : Int) (hw : 0 ≤ c.what) : Calls Tryz.prog 61 #[.pointer (some ⟨m.c, 0, none⟩), .int .u8 v] (mk w m c sl b) fun e W => e = .returned (.tuple #[]) ∧ Lft w m (c.latch v) sl b W := by
  by_cases h : c.what = 1
  · have h1 : (c.what == 1) = true := by simpa using h
    rw [show c.latch v = { c with hi := v } from if_pos h]
    clear h
    go_enter Tryz.func61, Tryz.ntmps61
    go_wp2
    (first | go_end0 | refine bodyPost_ret (results_none rfl _ _ _) rfl ?_)
    exact ⟨rfl, Lft.mk' (by first | assumption | exact Base.drew (by assumption) | exact Base.drewN (by assumption) _ | exact Base.alloc (by assumption) _) (by repeat (first | exact Ext.refl _ | assumption | refine Ext.drew' ?_ | refine Ext.drewN' ?_ _ | refine Ext.alloc' ?_ _ | refine Ext.trans ?_ (by assumption)))⟩
  · have h1 : (c.what == 1) = false := by simpa using h
    rw [show c.latch v = { c with lo := v } from if_neg h]
    clear h
    go_enter Tryz.func61, Tryz.ntmps61
    go_wp2
    (first | go_end0 | refine bodyPost_ret (results_none rfl _ _ _) rfl ?_)
    exact ⟨rfl, Lft.mk' (by first | assumption | exact Base.drew (by assumption) | exact Base.drewN (by assumption) _ | exact Base.alloc (by assumption) _) (by repeat (first | exact Ext.refl _ | assumption | refine Ext.drew' ?_ | refine Ext.drewN' ?_ _ | refine Ext.alloc' ?_ _ | refine Ext.trans ?_ (by assumption)))⟩
end
end Go.Proofs.YtneganpbamemmaaGreat
