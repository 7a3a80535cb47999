/- Flags that count ones, and the sums of bytes: what each returns. -/
import Derived.Test.YtneganpbamemmaaGreatLeaf
import Derived.Test.YtneganpbamemmaaGreatPlainA
set_option linter.unusedVariables false
set_option linter.unusedSimpArgs false
set_option linter.unusedSectionVars false
namespace Go.Proofs.YtneganpbamemmaaGreat
open Go Go.RowKit Sq

theorem ones_le (n : Nat) (h : n < 256) : Lib.onesCount n ≤ 8 := Lib.onesCount_le8 ⟨n, h⟩
set_option maxRecDepth 100000 in
theorem ones_any (w : World) (x : Int) (h0 : 0 ≤ x) (h1 : x < 256) : Calls Tryz.prog 218 #[.int .u8 x] w fun e w' => e = .returned (.int .i64 (Lib.onesCount x.toNat)) ∧ w = w' := by
  go_enter Tryz.func218, Tryz.ntmps218
  go_wp2
  go_ret
  refine ⟨ret_int ?_, rfl⟩
  have h := Lib.pop8_int x h0 (by omega)
  have g := ones_le x.toNat (by omega)
  rw [← h]
  have hlt : x.toNat < Lib.pop8tab.size := by rw [Lib.pop8tab_size]; omega
  have e : ((Lib.pop8tab[x.toNat]'hlt).toNat : Int) = Lib.pop8 x := by
    unfold Lib.pop8
    rw [ByteArray.getElem?_lt' _ _ hlt]
    rfl
  rw [e]
  unfold wrap64
  rfl
theorem even_any (w : World) (x : Int) (h0 : 0 ≤ x) (h1 : x < 256) : Calls Tryz.prog 184 #[.int .u8 x] w fun e w' => e = .returned (.bool (fEven x)) ∧ w = w' := by
  have hl := ones_le x.toNat (by omega)
  go_enter Tryz.func184, Tryz.ntmps184
  go_wp2_with (go_at_call 218; refine (ones_any _ _ h0 h1).mono ?_; rintro e w' ⟨rfl, rfl⟩)
  go_ret
  exact ⟨rfl, rfl⟩
theorem bits_bd (op : BinOp) (x y : Int) : 0 ≤ bits op .u8 x y ∧ bits op .u8 x y < 256 := by
  unfold bits
  simp only [IntKind.wrap, IntKind.bits, IntKind.signed]
  split <;> simp <;> omega
theorem fOf_bd (x : Int) : 0 ≤ fOf x ∧ fOf x < 256 := by unfold fOf; split <;> exact bits_bd _ _ _
theorem fWith_bd (x y : Int) (b : Bool) : 0 ≤ fWith x y b ∧ fWith x y b < 256 := by unfold fWith; split <;> exact bits_bd _ _ _
theorem fOfP_bd (x : Int) : 0 ≤ fOfP x ∧ fOfP x < 256 := fWith_bd _ _ _
theorem fofp_any (w : World) (x : Int) (h0 : 0 ≤ x) (h1 : x < 256) : Calls Tryz.prog 131 #[.int .u8 x] w fun e w' => e = .returned (.int .u8 (fOfP x)) ∧ w = w' := by
  obtain ⟨f0, f1⟩ := fOf_bd x
  go_enter Tryz.func131, Tryz.ntmps131
  go_wp2_with (first | (go_at_call 183; refine (fof_any _ _ h0 h1).mono ?_; rintro e w' ⟨rfl, rfl⟩) | (go_at_call 184; refine (even_any _ _ h0 h1).mono ?_; rintro e w' ⟨rfl, rfl⟩) | (go_at_call 182; refine (with_any _ _ _ _ f0 f1 (by omega) (by omega)).mono ?_; rintro e w' ⟨rfl, rfl⟩))
  go_ret
  exact ⟨rfl, rfl⟩
theorem fSet_snoc (f : Int) (l : List (Int × Bool)) (k : Nat) (p : Int × Bool) (h : l[k]? = some p) : fSet f (l.take (k + 1)) = fWith (fSet f (l.take k)) p.1 p.2 := by
  obtain ⟨hk, rfl⟩ := List.getElem?_eq_some_iff.1 h
  rw [List.take_succ_eq_append_getElem hk, fSet, List.foldl_append]
  rfl
theorem fSet_bd (f : Int) (l : List (Int × Bool)) (h0 : 0 ≤ f) (h1 : f < 256) : 0 ≤ fSet f l ∧ fSet f l < 256 := by
  induction l generalizing f with
  | nil => exact ⟨h0, h1⟩
  | cons p l ih => exact ih _ (fWith_bd _ _ _).1 (fWith_bd _ _ _).2
theorem over_any (w : World) (x : Int) : Calls Tryz.prog 221 #[.int .i64 x] w fun e w' => e = .returned (.bool (decide (x < -128) || decide (127 < x))) ∧ w = w' := by
  by_cases h : x < -128
  all_goals
    go_enter Tryz.func221, Tryz.ntmps221
    go_wp2
    go_ret
    exact ⟨ret_bool (by simp [*] <;> omega), rfl⟩
theorem aset_any (w : World) (f : Int) (h0 : 0 ≤ f) (h1 : f < 256) (B k cap : Nat) (l : List (Int × Bool)) (hl : l.length = k) (hk : k < 100) (hb : ∀ p ∈ l, 0 ≤ p.1 ∧ p.1 < 256)
    (hc : ∀ j p, l[j]? = some p → w.cell? ⟨B, j * 2, none⟩ = some (.int .u8 p.1) ∧ w.cell? ⟨B, j * 2 + 1, none⟩ = some (.bool p.2)) (hB : B < w.heap.size) :
    Calls Tryz.prog 220 #[.int .u8 f, .slice (some ⟨B, 0, none⟩) k cap] w fun e w' => e = .returned (.int .u8 (fSet f l)) ∧ Ext w w' := by
  have H := Lib.hid hl
  have HB := Lib.hid hb
  have HC := Lib.hid hc
  clear hl hb hc
  go_enter Tryz.func220, Tryz.ntmps220
  go_wp2
  go_loopw [0, 9] (fun v i wr => ∃ j : Nat, j ≤ k ∧ i = .int .i64 j ∧ v = .int .u8 (fSet f (l.take j)) ∧ Ext w wr) (fun _ i _ => k - (intOf i).toNat)
  case atStart => exact ⟨0, by omega, rfl, rfl, Ext.refl _⟩
  case round =>
    obtain ⟨j, hj, rfl, rfl, hx⟩ := hrel
    by_cases hlt : j < k
    · obtain ⟨p, hp⟩ : ∃ p, l[j]? = some p := ⟨l[j]'(by rw [H.out]; exact hlt), List.getElem?_eq_getElem _⟩
      have hs := fSet_snoc f l j p hp
      obtain ⟨c1, c2⟩ := HC.out j p hp
      obtain ⟨p0, p1⟩ := HB.out p (List.mem_of_getElem? hp)
      obtain ⟨f0, f1⟩ := fSet_bd f (l.take j) h0 h1
      have d1 : wr.cell? ⟨B, j * 2, none⟩ = some (.int .u8 p.1) := (RowKit.Below.cell hx (p := ⟨B, j * 2, none⟩) hB).trans c1
      have d2 : wr.cell? ⟨B, j * 2 + 1, none⟩ = some (.bool p.2) := (RowKit.Below.cell hx (p := ⟨B, j * 2 + 1, none⟩) hB).trans c2
      have HX := Lib.hid hx
      have HS := Lib.hid hs
      clear hx hs c1 c2 hp
      go_wp2_with (go_at_call 182; refine (with_any _ _ _ _ f0 f1 p0 p1).mono ?_; rintro e w' ⟨rfl, rfl⟩)
      go_roundw
      case rel => exact ⟨j + 1, by omega, by go_num, by rw [HS.out], HX.out.trans (Ext.alloc _ _)⟩
      case measure => simp [intOf]; omega
    · go_wp2
      go_ret
      have e : l.take j = l := List.take_of_length_le (by rw [H.out]; omega)
      exact ⟨ret_int (by rw [e]), hx⟩
end Go.Proofs.YtneganpbamemmaaGreat
