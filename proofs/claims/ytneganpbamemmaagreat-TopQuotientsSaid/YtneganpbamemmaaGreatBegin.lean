/- A machine at the beginning of its program. -/
import Derived.Test.YtneganpbamemmaaGreatStarts
import Derived.Test.YtneganpbamemmaaGreatPlainB
set_option linter.unusedVariables false
set_option linter.unusedSimpArgs false
set_option linter.unusedSectionVars false
namespace Sq
open Go Go.Proofs.YtneganpbamemmaaGreat
theorem pokes_frame : ∀ (l : List Int) (b : Bd) (a : Nat), (b.pokes a l).frame = b.frame ∧ (b.pokes a l).t = b.t
  | [], b, a => ⟨rfl, rfl⟩
  | v :: l, b, a => by
    obtain ⟨h1, h2⟩ := pokes_frame l (b.write a v) (a + 1)
    have e : (b.write a v).frame = b.frame ∧ (b.write a v).t = b.t := by unfold Bd.write; split <;> exact ⟨rfl, rfl⟩
    exact ⟨h1.trans e.1, h2.trans e.2⟩
theorem write_mem (b : Bd) (a : Nat) (v : Int) (ha : 16384 ≤ a) : (b.write a v).mem = upd b.mem a v := by
  unfold Bd.write
  rw [if_pos (by omega)]
  rfl
theorem pokes_mem_o : ∀ (l : List Int) (b : Bd) (a : Nat), 16384 ≤ a → ∀ i, (i < a ∨ a + l.length ≤ i) → (b.pokes a l).mem i = b.mem i
  | [], _, _, _, _, _ => rfl
  | v :: l, b, a, ha, i, hi => by
    show ((b.write a v).pokes (a + 1) l).mem i = _
    simp only [List.length_cons] at hi
    rw [pokes_mem_o l (b.write a v) (a + 1) (by omega) i (by omega), write_mem b a v ha]
    unfold upd
    rw [if_neg (by omega)]
theorem pokes_mem : ∀ (l : List Int) (b : Bd) (a : Nat), 16384 ≤ a → ∀ (k : Nat) (v : Int), l[k]? = some v → (b.pokes a l).mem (a + k) = v
  | [], _, _, _, k, v, h => by simp at h
  | x :: l, b, a, ha, k, v, h => by
    show ((b.write a x).pokes (a + 1) l).mem (a + k) = _
    cases k with
    | zero =>
      rw [pokes_mem_o l (b.write a x) (a + 1) (by omega) _ (by omega), write_mem b a x ha]
      unfold upd
      rw [if_pos (by omega)]
      simpa using h
    | succ k =>
      have := pokes_mem l (b.write a x) (a + 1) (by omega) k v (by simpa using h)
      rw [show a + (k + 1) = a + 1 + k from by omega]
      exact this
theorem pokes_bd : ∀ (l : List Int) (b : Bd) (a : Nat), (∀ v ∈ l, 0 ≤ v ∧ v < 256) → (∀ i, 0 ≤ b.mem i ∧ b.mem i < 256) → ∀ i, 0 ≤ (b.pokes a l).mem i ∧ (b.pokes a l).mem i < 256
  | [], _, _, _, h, i => h i
  | v :: l, b, a, hl, h, i => by
    refine pokes_bd l (b.write a v) (a + 1) (fun x hx => hl x (List.mem_cons_of_mem _ hx)) (fun j => ?_) i
    unfold Bd.write
    split
    · show 0 ≤ upd b.mem _ v j ∧ upd b.mem _ v j < 256
      unfold upd
      split
      · exact hl v (List.mem_cons_self ..)
      · exact h j
    · exact h j
theorem board_ok (x : Spot) (code : List Int) (hc : ∀ v ∈ code, 0 ≤ v ∧ v < 256) : (x.board code).Ok := by
  have h := pokes_frame code ({ newB (x.phase % 69888) with slow := x.slow } : Bd) x.org
  refine ⟨pokes_bd code _ _ hc (fun i => ?_), ?_, ?_⟩
  · show (0 : Int) ≤ 0 ∧ (0 : Int) < 256; omega
  · unfold Spot.board; rw [h.1]; show 0 ≤ x.phase % 69888 ∧ x.phase % 69888 < 69888; omega
  · unfold Spot.board; rw [h.2]; show (0 : Int) ≤ 0 ∧ (0 : Int) < 18446744073709551616; omega
theorem newC_ok (g : Rg) (hg : g.Ok) (hp : g.pre = 0) : Mid (newC g) (fun _ => 0) := by
  refine ⟨⟨hg, ?_, ?_, ?_, ?_, ?_, ?_, ?_⟩, rfl, rfl, hp, rfl, Nat.zero_le _, Int.le_refl _, Int.le_refl _, fun i hi => absurd hi (Nat.not_lt_zero _), ?_, ?_, ?_, ?_, ?_⟩
  all_goals (simp [newC])
theorem start_ok (x : Spot) (code : List Int) (hc : ∀ v ∈ code, 0 ≤ v ∧ v < 256) (g : Rg) (hg : g.Ok) (hp : g.pre = 0) : (⟨newC g, fun _ => 0, x.board code⟩ : St).Ok :=
  ⟨newC_ok g hg hp, ⟨.inl rfl, fun h => absurd rfl h⟩, board_ok x code hc⟩
/-- What the program finds. -/
def Rg.ar (g : Rg) (mem : Nat → Int) : Ar := ⟨g.a, g.f, g.b, g.c, g.d, g.e, g.h, g.l, g.sp, g.pc, mem⟩
theorem start_at (x : Spot) (code : List Int) (hc : ∀ v ∈ code, 0 ≤ v ∧ v < 256) (g : Rg) (hg : g.Ok) (hp : g.pre = 0) (hh : g.halt = false) (hi : g.iff1 = false) : At ⟨newC g, fun _ => 0, x.board code⟩ (g.ar (x.board code).mem) :=
  ⟨start_ok x code hc g hg hp, rfl, rfl, rfl, hh, hi, rfl, rfl, rfl, rfl, rfl, rfl, rfl, rfl, rfl, rfl, rfl⟩
theorem board_code (x : Spot) (code : List Int) (k : Nat) (v : Int) (h : code[k]? = some v) : (x.board code).mem (x.org + k) = v :=
  pokes_mem code _ x.org (by rcases x.org_cases with h | h <;> omega) k v h
theorem board_bare (x : Spot) (code : List Int) (i : Nat) (h : i < x.org ∨ x.org + code.length ≤ i) : (x.board code).mem i = 0 :=
  pokes_mem_o code _ x.org (by rcases x.org_cases with h | h <;> omega) i h
end Sq
