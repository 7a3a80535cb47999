/- More functions of package regs. -/
import Derived.Test.YtneganpbamemmaaGreatLeaf
set_option linter.unusedVariables false
set_option linter.unusedSimpArgs false
set_option linter.unusedSectionVars false
namespace Go.Proofs.YtneganpbamemmaaGreat
open Go Go.RowKit Sq
section
variable {m : Mac} {w : World} (hb : Base m w) (c : Cp) (sl : Nat → Int) (b : Bd)
include hb

set_option maxHeartbeats 1000000 in
theorem putPair_any (k ix v : Int) (h0 : 0 ≤ k) (h1 : k < 4) (h2 : 0 ≤ ix) (h3 : ix ≤ 2) (h4 : 0 ≤ v) (h5 : v < 65536) : Calls Tryz.prog 117 #[.pointer (some ⟨m.c, 0, none⟩), .int .i64 k, .int .i64 ix, .int .u16 v] (mk w m c sl b) fun e W => e = .returned (.tuple #[]) ∧ mk w m { c with g := c.g.putPair k ix v } sl b = W := by
  rcases (by omega : k = 0 ∨ k = 1 ∨ k = 2 ∨ k = 3) with rfl | rfl | rfl | rfl <;> rcases (by omega : ix = 0 ∨ ix = 1 ∨ ix = 2) with rfl | rfl | rfl
  all_goals
    go_enter Tryz.func117, Tryz.ntmps117
    go_wp2_with (first | (go_at_call 128; refine (hi_any _ _ (by assumption) (by assumption)).mono ?_; rintro e w' ⟨rfl, rfl⟩) | (go_at_call 122; refine (lo_any _ _ (by assumption) (by assumption)).mono ?_; rintro e w' ⟨rfl, rfl⟩) | (go_at_call 181; go_in) | (go_at_call 114; go_in))
    (first | go_end0 | refine bodyPost_ret (results_none rfl _ _ _) rfl ?_)
    exact ⟨rfl, rfl⟩

theorem af_any (hg : c.g.Ok) : Calls Tryz.prog 196 #[.pointer (some ⟨m.c, 0, none⟩)] (mk w m c sl b) fun e W => e = .returned (.int .u16 (wd c.g.a c.g.f)) ∧ Qt w m c sl b W := by
  obtain ⟨b0, b1⟩ := hg.a
  obtain ⟨c0, c1⟩ := hg.f
  go_enter Tryz.func196, Tryz.ntmps196
  go_wp2
  go_quiet ((go_at_call 72; exact quiet_p (of_any _ _ _ (by assumption) (by assumption) (by assumption) (by assumption))))
  go_wp2
  go_ret
  exact ⟨rfl, Qt.region _⟩
theorem ir_any (hg : c.g.Ok) : Calls Tryz.prog 139 #[.pointer (some ⟨m.c, 0, none⟩)] (mk w m c sl b) fun e W => e = .returned (.int .u16 (wd c.g.i c.g.r)) ∧ Qt w m c sl b W := by
  obtain ⟨b0, b1⟩ := hg.i
  obtain ⟨c0, c1⟩ := hg.r
  go_enter Tryz.func139, Tryz.ntmps139
  go_wp2
  go_quiet ((go_at_call 72; exact quiet_p (of_any _ _ _ (by assumption) (by assumption) (by assumption) (by assumption))))
  go_wp2
  go_ret
  exact ⟨rfl, Qt.region _⟩
theorem putAf_any (v : Int) (h4 : 0 ≤ v) (h5 : v < 65536) : Calls Tryz.prog 170 #[.pointer (some ⟨m.c, 0, none⟩), .int .u16 v] (mk w m c sl b) fun e W => e = .returned (.tuple #[]) ∧ mk w m { c with g := { c.g with a := whi v, f := wlo v } } sl b = W := by
  go_enter Tryz.func170, Tryz.ntmps170
  go_wp2_with (first | (go_at_call 128; refine (hi_any _ _ (by assumption) (by assumption)).mono ?_; rintro e w' ⟨rfl, rfl⟩) | (go_at_call 122; refine (lo_any _ _ (by assumption) (by assumption)).mono ?_; rintro e w' ⟨rfl, rfl⟩) | (go_at_call 181; go_in) | (go_at_call 114; go_in))
  go_end0
  exact ⟨rfl, rfl⟩
theorem tick_any (hg : c.g.Ok) : Calls Tryz.prog 71 #[.pointer (some ⟨m.c, 0, none⟩)] (mk w m c sl b) fun e W => e = .returned (.tuple #[]) ∧ Lft w m { c with g := c.g.tick } sl b W := by
  obtain ⟨c0, c1⟩ := hg.r
  have hr := bits_top c.g.r c0 c1
  have H := Lib.hid hr; clear hr
  go_enter Tryz.func71, Tryz.ntmps71
  go_wp2
  go_region
  all_goals go_wp2
  go_end0
  exact ⟨rfl, by rw [H.out]; exact Lft.drew (Lft.same hb)⟩
set_option maxHeartbeats 1000000 in
theorem exAf_any : Calls Tryz.prog 115 #[.pointer (some ⟨m.c, 0, none⟩)] (mk w m c sl b) fun e W => e = .returned (.tuple #[]) ∧ Lft w m { c with g := c.g.exAf } sl b W := by
  go_enter Tryz.func115, Tryz.ntmps115
  go_wp2
  go_region
  all_goals go_wp2
  go_end0
  exact ⟨rfl, Lft.drew (Lft.same hb)⟩
set_option maxHeartbeats 2000000 in
theorem exDe_any : Calls Tryz.prog 126 #[.pointer (some ⟨m.c, 0, none⟩)] (mk w m c sl b) fun e W => e = .returned (.tuple #[]) ∧ Lft w m { c with g := c.g.exDe } sl b W := by
  go_enter Tryz.func126, Tryz.ntmps126
  go_wp2
  go_region
  all_goals go_wp2
  go_end0
  exact ⟨rfl, Lft.drew (Lft.same hb)⟩
set_option maxHeartbeats 2000000 in
theorem exx_any : Calls Tryz.prog 124 #[.pointer (some ⟨m.c, 0, none⟩)] (mk w m c sl b) fun e W => e = .returned (.tuple #[]) ∧ Lft w m { c with g := c.g.exx } sl b W := by
  go_enter Tryz.func124, Tryz.ntmps124
  go_wp2
  go_region
  all_goals go_wp2
  go_region
  all_goals go_wp2
  go_region
  all_goals go_wp2
  go_end0
  exact ⟨rfl, Lft.drew (Lft.drew (Lft.drew (Lft.same hb)))⟩
end
end Go.Proofs.YtneganpbamemmaaGreat
