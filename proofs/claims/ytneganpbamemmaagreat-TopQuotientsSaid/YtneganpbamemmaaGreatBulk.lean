/- op.Memory, and F behind a copied byte: what each returns. -/
import Derived.Test.YtneganpbamemmaaGreatAlu2
set_option linter.unusedVariables false
set_option linter.unusedSimpArgs false
set_option linter.unusedSectionVars false
namespace Go.Proofs.YtneganpbamemmaaGreat
open Go Go.RowKit Sq

theorem ox_any (w : World) (x : Int) (h0 : 0 ≤ x) (h1 : x < 256) : Calls Tryz.prog 232 #[.int .u8 x] w fun e w' => e = .returned (.int .i64 (cx x)) ∧ w = w' := by
  go_enter Tryz.func232, Tryz.ntmps232
  go_wp2
  go_ret
  exact ⟨rfl, rfl⟩
theorem oy_any (w : World) (x : Int) (h0 : 0 ≤ x) (h1 : x < 256) : Calls Tryz.prog 233 #[.int .u8 x] w fun e w' => e = .returned (.int .i64 (cy x)) ∧ w = w' := by
  go_enter Tryz.func233, Tryz.ntmps233
  go_wp2
  go_ret
  exact ⟨rfl, rfl⟩
theorem oz_any (w : World) (x : Int) (h0 : 0 ≤ x) (h1 : x < 256) : Calls Tryz.prog 234 #[.int .u8 x] w fun e w' => e = .returned (.int .i64 (cz x)) ∧ w = w' := by
  go_enter Tryz.func234, Tryz.ntmps234
  go_wp2
  go_ret
  exact ⟨rfl, rfl⟩
set_option maxHeartbeats 4000000 in
theorem memory_any (w : World) (k : Int) (h0 : 0 ≤ k) (h1 : k < 256) : Calls Tryz.prog 206 #[.int .u8 k] w fun e w' => e = .returned (.bool (opMem k)) ∧ w = w' := by
  by_cases hk : k = 118
  · subst hk
    have gx : cx 118 = 1 := by decide
    go_enter Tryz.func206, Tryz.ntmps206
    go_wp2_with (first | (go_at_call 232; refine (ox_any _ _ (by omega) (by omega)).mono ?_; rintro e w' ⟨rfl, rfl⟩) | (go_at_call 233; refine (oy_any _ _ (by omega) (by omega)).mono ?_; rintro e w' ⟨rfl, rfl⟩) | (go_at_call 234; refine (oz_any _ _ (by omega) (by omega)).mono ?_; rintro e w' ⟨rfl, rfl⟩))
    go_ret
    exact ⟨rfl, rfl⟩
  have hx : 0 ≤ cx k ∧ cx k < 4 := by unfold cx; omega
  have hz : 0 ≤ cz k ∧ cz k < 8 := by unfold cz; omega
  obtain ⟨hz0, hz1⟩ := hz
  obtain ⟨hx0, hx1⟩ := hx
  rcases (by omega : (cx k = 0 ∧ ¬ cy k = 6) ∨ (cx k = 0 ∧ cy k = 6 ∧ ¬ 4 ≤ cz k) ∨ (cx k = 0 ∧ cy k = 6 ∧ 4 ≤ cz k ∧ ¬ cz k ≤ 6) ∨ (cx k = 0 ∧ cy k = 6 ∧ 4 ≤ cz k ∧ cz k ≤ 6) ∨ (cx k = 1 ∧ ¬ k = 118 ∧ cy k = 6) ∨ (cx k = 1 ∧ ¬ k = 118 ∧ ¬ cy k = 6 ∧ cz k = 6) ∨ (cx k = 1 ∧ ¬ k = 118 ∧ ¬ cy k = 6 ∧ ¬ cz k = 6) ∨ (cx k = 2 ∧ cz k = 6) ∨ (cx k = 2 ∧ ¬ cz k = 6) ∨ cx k = 3) with ⟨g0, g1⟩ | ⟨g0, g1, g2⟩ | ⟨g0, g1, g2, g3⟩ | ⟨g0, g1, g2, g3⟩ | ⟨g0, g1, g2⟩ | ⟨g0, g1, g2, g3⟩ | ⟨g0, g1, g2, g3⟩ | ⟨g0, g1⟩ | ⟨g0, g1⟩ | g0
  all_goals
    try have e1 : (cy k == 6) = false := by simp; omega
    try have e2 : (cz k == 6) = false := by simp; omega
    try have e3 : (k == 118) = false := by simp; omega
    try have e4 : (k != 118) = true := by simp; omega
    try have e5 : decide (4 ≤ cz k) = false := by simp; omega
    try have e6 : decide (cz k ≤ 6) = false := by simp; omega
    obtain ⟨v, hv⟩ : ∃ v, opMem k = v := ⟨_, rfl⟩
    have HV := Lib.hid hv
    simp [opMem, *] at hv
    subst hv
    go_enter Tryz.func206, Tryz.ntmps206
    go_wp2_with (first | (go_at_call 232; refine (ox_any _ _ (by omega) (by omega)).mono ?_; rintro e w' ⟨rfl, rfl⟩) | (go_at_call 233; refine (oy_any _ _ (by omega) (by omega)).mono ?_; rintro e w' ⟨rfl, rfl⟩) | (go_at_call 234; refine (oz_any _ _ (by omega) (by omega)).mono ?_; rintro e w' ⟨rfl, rfl⟩))
    rw [HV.out]
    go_ret
    exact ⟨rfl, rfl⟩
set_option maxHeartbeats 800000 in
theorem sum_any (w : World) (n : Int) (h0 : 0 ≤ n) (h1 : n < 256) : Calls Tryz.prog 222 #[.int .u8 n] w fun e w' => e = .returned (.int .u8 (bSum n)) ∧ w = w' := by
  have i0 : ∀ w, (Instr.index 252 (.agg #[.int .u8 32, .int .u8 8]) (.int .i64 0)).run Tryz.prog w = .ok (.int .u8 32) w := fun _ => by kernel_rfl
  have i1 : ∀ w, (Instr.index 252 (.agg #[.int .u8 32, .int .u8 8]) (.int .i64 1)).run Tryz.prog w = .ok (.int .u8 8) w := fun _ => by kernel_rfl
  go_enter Tryz.func222, Tryz.ntmps222
  go_wp2
  refine wp_loop_rounds 3 ?_
  rw [rounds_succ]
  go_wp2_with (go_at_call 182; refine (with_any _ _ _ _ (by omega) (by omega) (by omega) (by omega)).mono ?_; rintro e w' ⟨rfl, rfl⟩)
  rw [rounds_succ]
  go_wp2_with (go_at_call 182; refine (with_any _ _ _ _ (fWith_bd _ _ _).1 (fWith_bd _ _ _).2 (by omega) (by omega)).mono ?_; rintro e w' ⟨rfl, rfl⟩)
  rw [rounds_succ]
  go_wp2
  go_ret
  exact ⟨rfl, rfl⟩
theorem bSum_bd (n : Int) : 0 ≤ bSum n ∧ bSum n < 256 := fWith_bd _ _ _
theorem copy_any (w : World) (a v bc f : Int) (h0 : 0 ≤ a) (h1 : a < 256) (h2 : 0 ≤ v) (h3 : v < 256) : Calls Tryz.prog 190 #[.int .u8 a, .int .u8 v, .int .u16 bc, .int .u8 f] w fun e w' => e = .returned (.int .u8 (bCopy a v bc f)) ∧ w = w' := by
  go_enter Tryz.func190, Tryz.ntmps190
  go_wp2_with (first | (go_at_call 222; refine (sum_any _ _ (by omega) (by omega)).mono ?_; rintro e w' ⟨rfl, rfl⟩) | (go_at_call 182; refine (with_any _ _ _ _ (bits_bd _ _ _).1 (bits_bd _ _ _).2 (by omega) (by omega)).mono ?_; rintro e w' ⟨rfl, rfl⟩))
  go_ret
  exact ⟨rfl, rfl⟩
theorem again_any (w : World) (f pc : Int) (h0 : 0 ≤ pc) (h1 : pc < 65536) : Calls Tryz.prog 194 #[.int .u8 f, .int .u16 pc] w fun e w' => e = .returned (.int .u8 (bAgain f pc)) ∧ w = w' := by
  go_enter Tryz.func194, Tryz.ntmps194
  go_wp2
  go_ret
  exact ⟨rfl, rfl⟩
end Go.Proofs.YtneganpbamemmaaGreat
