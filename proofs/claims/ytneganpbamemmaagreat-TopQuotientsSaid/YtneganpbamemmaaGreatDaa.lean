/- Daa: what it returns. -/
import Derived.Test.YtneganpbamemmaaGreatAlu2
set_option linter.unusedVariables false
set_option linter.unusedSimpArgs false
set_option linter.unusedSectionVars false
namespace Go.Proofs.YtneganpbamemmaaGreat
open Go Go.RowKit Sq
theorem daa_fin {r r' : Int} {n n' h h' c c' : Bool} (e1 : r = r') (e2 : n = n') (e3 : h = h') (e4 : c = c') : fSet (fOfP r) [(2, n), (16, h), (1, c)] = fSet (fOfP r') [(2, n'), (16, h'), (1, c')] := by rw [e1, e2, e3, e4]
set_option maxHeartbeats 16000000 in
theorem daa_any (w : World) (a f : Int) (h0 : 0 ≤ a) (h1 : a < 256) (h2 : 0 ≤ f) (h3 : f < 256) : Calls Tryz.prog 207 #[.int .u8 a, .int .u8 f] w fun e w' => e = .returned (.tuple #[.int .u8 (aDaa a f).1, .int .u8 (aDaa a f).2]) ∧ Ext w w' := by
  obtain ⟨n, hn⟩ : ∃ n, fHas f 2 = n := ⟨_, rfl⟩
  obtain ⟨h, hh⟩ : ∃ n, fHas f 16 = n := ⟨_, rfl⟩
  obtain ⟨c, hc⟩ : ∃ n, fHas f 1 = n := ⟨_, rfl⟩
  cases n <;> cases h <;> cases c <;> by_cases h9 : 9 < a % 16 <;> by_cases h153 : 153 < a
  all_goals
    have Hn := Lib.hid hn; have Hh := Lib.hid hh; have Hc := Lib.hid hc
    go_enter Tryz.func207, Tryz.ntmps207
    go_wp2_with (first | (go_at_call 89; refine (has_any _ _ _ h2 h3 (by omega) (by omega)).mono ?_; rintro e w' ⟨rfl, rfl⟩) | (go_at_call 131; refine (fofp_any _ _ (by omega) (by omega)).mono ?_; rintro e w' ⟨rfl, rfl⟩) | (go_at_call 220; refine (aset3 _ _ (fOfP_bd _).1 (fOfP_bd _).2 _ _ _ _ _ _ _ _ rfl (by omega) (by omega) (by omega)).mono ?_; rintro e w' ⟨rfl, hx⟩))
    go_ret2
    try have g9 : ¬ 9 < a % 16 := by omega
    try have g153 : ¬ 153 < a := by omega
    refine ⟨ret_ii ?_ ?_, by assumption⟩
    · change _ = daaR a f
      simp only [daaR, daaD, daaC, Hn.out, Hh.out, Hc.out]
      simp [*] <;> omega
    · change _ = fSet (fOfP (daaR a f)) [(2, fHas f 2), (16, daaH a f), (1, daaC a f)]
      refine daa_fin ?_ Hn.out.symm ?_ ?_
      · simp only [daaR, daaD, daaC, Hn.out, Hh.out, Hc.out]
        simp [*] <;> omega
      · simp [daaH, *]
      · simp [daaC, *]
end Go.Proofs.YtneganpbamemmaaGreat
