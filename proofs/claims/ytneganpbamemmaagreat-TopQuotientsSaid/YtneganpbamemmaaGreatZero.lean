/- The board's zero value, and a board as it is made. -/
import Derived.Test.YtneganpbamemmaaGreatProg
import Derived.KernelRfl
import Derived.Laws.Tables
import Derived.Test.YtneganpbamemmaaGreatPlainA
set_option linter.unusedVariables false
set_option linter.unusedSimpArgs false
set_option linter.unusedSectionVars false
namespace Go.Proofs.YtneganpbamemmaaGreat
open Go Go.RowKit Sq

noncomputable def zB : Array Value := match Tryz.t74.zero with | some (.agg a) => a | _ => #[]
def is0 : Value → Bool
  | .int .u8 (.ofNat n) => Nat.beq n 0
  | _ => false
theorem is0_eq {v : Value} (h : is0 v = true) : v = .int .u8 0 := by
  unfold is0 at h
  split at h
  · rename_i n
    have := Nat.eq_of_beq_eq_true h
    subst this; rfl
  · cases h
theorem zB_head : ((zB.toList.take 65544).all is0) = true := by kernel_rfl
theorem zB_mid : (zB.toList.drop 65544).take 10 = [.bool false, .bool false, .bool false, .int .u64 0, .int .i64 0, .int .u8 0, .bool false, .bool false, .slice none 0 0, .slice none 0 0] := by kernel_rfl
theorem zB_tail : ((zB.toList.drop 65554).all is0) = true := by kernel_rfl
theorem zB_len : zB.toList.length = 77842 := by kernel_rfl
theorem zB_info : Tryz.prog.info? 74 = some Tryz.t74 := by kernel_rfl
theorem zB_zero : Tryz.t74.zero = some (.agg zB) := by kernel_rfl
/-- A board that is new. -/
def newB (f : Int) : Bd := { mem := fun _ => 0, keys := fun _ => 0, slow := false, ear := false, log := false, t := 0, frame := f, border := 0, mic := false, spk := false, acts := .slice none 0 0, edges := .slice none 0 0, seen := fun _ => 0 }
theorem zB_get (i : Nat) (hi : i < 77842) : zB[i]? = some ((newB 0).at_ i) := by
  rw [← Array.getElem?_toList]
  by_cases h1 : i < 65544
  · have h := List.all_eq_true.1 zB_head
    have hl : i < zB.toList.length := by rw [zB_len]; exact hi
    rw [List.getElem?_eq_getElem hl]
    have hm : zB.toList[i] ∈ zB.toList.take 65544 := by
      rw [List.mem_iff_getElem?]
      exact ⟨i, by rw [List.getElem?_take, if_pos h1, List.getElem?_eq_getElem hl]⟩
    rw [is0_eq (h _ hm)]
    unfold Bd.at_ newB
    by_cases h2 : i < 65536
    · rw [if_pos h2]
    · rw [if_neg h2, if_pos h1]
  · by_cases h2 : i < 65554
    · have h : ((zB.toList.drop 65544).take 10)[i - 65544]? = zB.toList[i]? := by
        rw [List.getElem?_take, if_pos (by omega), List.getElem?_drop, show 65544 + (i - 65544) = i from by omega]
      rw [← h, zB_mid]
      have : i = 65544 ∨ i = 65545 ∨ i = 65546 ∨ i = 65547 ∨ i = 65548 ∨ i = 65549 ∨ i = 65550 ∨ i = 65551 ∨ i = 65552 ∨ i = 65553 := by omega
      rcases this with rfl | rfl | rfl | rfl | rfl | rfl | rfl | rfl | rfl | rfl <;> rfl
    · have h := List.all_eq_true.1 zB_tail
      have hl : i < zB.toList.length := by rw [zB_len]; exact hi
      rw [List.getElem?_eq_getElem hl]
      have hm : zB.toList[i] ∈ zB.toList.drop 65554 := by
        rw [List.mem_iff_getElem?]
        exact ⟨i - 65554, by rw [List.getElem?_drop, show 65554 + (i - 65554) = i from by omega, List.getElem?_eq_getElem hl]⟩
      rw [is0_eq (h _ hm)]
      have e : (newB 0).at_ i = .int .u8 ((newB 0).seen (i - 65554)) := by
        unfold Bd.at_
        rw [if_neg (by omega), if_neg (by omega), if_neg (by omega), if_neg (by omega), if_neg (by omega), if_neg (by omega), if_neg (by omega), if_neg (by omega), if_neg (by omega), if_neg (by omega), if_neg (by omega), if_neg (by omega)]
      rw [e]; rfl
theorem zB_arr : zB = (newB 0).arr := by
  apply Array.ext_getElem?
  intro i
  by_cases h : i < 77842
  · rw [zB_get i h, bdArr_get i h]
  · have e1 : zB[i]? = none := by rw [← Array.getElem?_toList]; exact List.getElem?_eq_none (by rw [zB_len]; omega)
    have e2 : (newB 0).arr[i]? = none := by simp [Bd.arr]; omega
    rw [e1, e2]
theorem newB_set (f : Int) : (newB 0).arr.setIfInBounds 65548 (.int .i64 f) = (newB f).arr :=
  bdArr_set 65548 _ (newB f) (fun _ => rfl) (fun j hj => by unfold Bd.at_ newB; simp only [hj, if_false])
theorem fill_one (place : Nat → Option (Nat × Nat)) (cells : Array Value) (i off : Nat) (v : Value) (hp : place i = some (off, 1)) (hv : v.cells = #[v]) (hs : off + 1 ≤ cells.size) :
    Instr.fill place cells [(i, v)] = some (cells.setIfInBounds off v) := by
  unfold Instr.fill
  rw [hp]
  dsimp only
  rw [hv, if_neg (by simp; omega)]
  unfold Instr.fill
  simp
theorem newB_built (f : Int) : Tryz.prog.built 74 [(6, .int .i64 f)] = some (newB f).arr := by
  unfold Program.built
  rw [zB_info, Tryz.underlying74]
  dsimp only
  rw [zB_zero]
  have hm : ∀ fs : Array Field, some (TypeDesc.struct fs) = Tryz.prog.underlying 74 → (fs.toList.mapM fun f => (Tryz.prog.info? f.type).map fun i => (f.offset, i.size)) = some [(0, 65536), (65536, 8), (65544, 1), (65545, 1), (65546, 1), (65547, 1), (65548, 1), (65549, 1), (65550, 1), (65551, 1), (65552, 1), (65553, 1), (65554, 12288)] := by
    intro fs hfs
    rw [Tryz.underlying74] at hfs
    injection hfs with hfs
    injection hfs with hfs
    subst hfs
    kernel_rfl
  rw [hm _ (Tryz.underlying74).symm]
  dsimp only
  rw [fill_one _ _ 6 65548 _ rfl rfl (by show 65549 ≤ (Value.agg zB).cells.size; rw [show (Value.agg zB).cells = zB from rfl, zB_arr]; simp [Bd.arr])]
  rw [show (Value.agg zB).cells = zB from rfl, zB_arr, newB_set]
end Go.Proofs.YtneganpbamemmaaGreat
