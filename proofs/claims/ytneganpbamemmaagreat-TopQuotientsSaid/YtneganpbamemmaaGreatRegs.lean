/- The functions of package regs on the processor's registers: what each returns, and what becomes of them. -/
import Derived.Test.YtneganpbamemmaaGreatLeaf
set_option linter.unusedVariables false
set_option linter.unusedSimpArgs false
set_option linter.unusedSectionVars false
namespace Go.Proofs.YtneganpbamemmaaGreat
open Go Go.RowKit Sq

section
variable {m : Mac} {w : World} (hb : Base m w) (c : Cp) (sl : Nat → Int) (b : Bd)
include hb

set_option maxHeartbeats 1000000 in
theorem byte_any (hg : c.g.Ok) (k ix : Int) (h0 : 0 ≤ k) (h1 : k < 8) (h2 : 0 ≤ ix) (h3 : ix ≤ 2) : Calls Tryz.prog 129 #[.pointer (some ⟨m.c, 0, none⟩), .int .i64 k, .int .i64 ix] (mk w m c sl b) fun e W => e = .returned (.int .u8 (c.g.byte k ix)) ∧ mk w m c sl b = W := by
  obtain ⟨x0, x1⟩ := hg.ix
  obtain ⟨y0, y1⟩ := hg.iy
  rcases (by omega : k = 0 ∨ k = 1 ∨ k = 2 ∨ k = 3 ∨ k = 4 ∨ k = 5 ∨ k = 6 ∨ k = 7) with rfl | rfl | rfl | rfl | rfl | rfl | rfl | rfl <;> rcases (by omega : ix = 0 ∨ ix = 1 ∨ ix = 2) with rfl | rfl | rfl
  all_goals
    go_enter Tryz.func129, Tryz.ntmps129
    go_wp2_with (first | (go_at_call 128; refine (hi_any _ _ (by assumption) (by assumption)).mono ?_; rintro e w' ⟨rfl, rfl⟩) | (go_at_call 122; refine (lo_any _ _ (by assumption) (by assumption)).mono ?_; rintro e w' ⟨rfl, rfl⟩) | (go_at_call 181; go_in) | (go_at_call 114; go_in))
    go_ret
    exact ⟨rfl, rfl⟩

set_option maxHeartbeats 1000000 in
theorem putByte_any (hg : c.g.Ok) (k ix v : Int) (h0 : 0 ≤ k) (h1 : k < 8) (h2 : 0 ≤ ix) (h3 : ix ≤ 2) (h4 : 0 ≤ v) (h5 : v < 256) : Calls Tryz.prog 130 #[.pointer (some ⟨m.c, 0, none⟩), .int .i64 k, .int .i64 ix, .int .u8 v] (mk w m c sl b) fun e W => e = .returned (.tuple #[]) ∧ mk w m { c with g := c.g.putByte k ix v } sl b = W := by
  obtain ⟨x0, x1⟩ := hg.ix
  obtain ⟨y0, y1⟩ := hg.iy
  have e1 : 0 ≤ whi c.g.ix ∧ whi c.g.ix < 256 := by unfold whi; omega
  have e2 : 0 ≤ whi c.g.iy ∧ whi c.g.iy < 256 := by unfold whi; omega
  have e3 : 0 ≤ wlo c.g.ix ∧ wlo c.g.ix < 256 := by unfold wlo; omega
  have e4 : 0 ≤ wlo c.g.iy ∧ wlo c.g.iy < 256 := by unfold wlo; omega
  obtain ⟨e10, e11⟩ := e1
  obtain ⟨e20, e21⟩ := e2
  obtain ⟨e30, e31⟩ := e3
  obtain ⟨e40, e41⟩ := e4
  rcases (by omega : k = 0 ∨ k = 1 ∨ k = 2 ∨ k = 3 ∨ k = 4 ∨ k = 5 ∨ k = 6 ∨ k = 7) with rfl | rfl | rfl | rfl | rfl | rfl | rfl | rfl <;> rcases (by omega : ix = 0 ∨ ix = 1 ∨ ix = 2) with rfl | rfl | rfl
  all_goals
    go_enter Tryz.func130, Tryz.ntmps130
    go_wp2_with (first | (go_at_call 128; refine (hi_any _ _ (by assumption) (by assumption)).mono ?_; rintro e w' ⟨rfl, rfl⟩) | (go_at_call 122; refine (lo_any _ _ (by assumption) (by assumption)).mono ?_; rintro e w' ⟨rfl, rfl⟩) | (go_at_call 72; refine (of_any _ _ _ (by assumption) (by assumption) (by assumption) (by assumption)).mono ?_; rintro e w' ⟨rfl, rfl⟩) | (go_at_call 181; go_in) | (go_at_call 114; go_in))
    (first | go_end0 | refine bodyPost_ret (results_none rfl _ _ _) rfl ?_)
    exact ⟨rfl, rfl⟩

set_option maxHeartbeats 1000000 in
theorem pair_any (hg : c.g.Ok) (k ix : Int) (h0 : 0 ≤ k) (h1 : k < 4) (h2 : 0 ≤ ix) (h3 : ix ≤ 2) : Calls Tryz.prog 82 #[.pointer (some ⟨m.c, 0, none⟩), .int .i64 k, .int .i64 ix] (mk w m c sl b) fun e W => e = .returned (.int .u16 (c.g.pair k ix)) ∧ Qt w m c sl b W := by
  obtain ⟨b0, b1⟩ := hg.b
  obtain ⟨c0, c1⟩ := hg.c
  obtain ⟨d0, d1⟩ := hg.d
  obtain ⟨e0, e1⟩ := hg.e
  obtain ⟨hh0, hh1⟩ := hg.h
  obtain ⟨l0, l1⟩ := hg.l
  rcases (by omega : k = 0 ∨ k = 1 ∨ k = 2 ∨ k = 3) with rfl | rfl | rfl | rfl <;> rcases (by omega : ix = 0 ∨ ix = 1 ∨ ix = 2) with rfl | rfl | rfl
  all_goals
    go_enter Tryz.func82, Tryz.ntmps82
    go_wp2_with (go_at_call 114; go_in)
    try (go_quiet ((go_at_call 72; exact quiet_p (of_any _ _ _ (by assumption) (by assumption) (by assumption) (by assumption)))))
    try go_wp2
    go_ret
    first | exact ⟨rfl, Qt.zero⟩ | exact ⟨rfl, Qt.region _⟩

end
end Go.Proofs.YtneganpbamemmaaGreat
