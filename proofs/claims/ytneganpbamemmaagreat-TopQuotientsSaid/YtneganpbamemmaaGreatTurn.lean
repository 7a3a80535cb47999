/- Turned bytes, tested bits, and F behind a copied byte: what each returns. -/
import Derived.Test.YtneganpbamemmaaGreatAlu2
set_option linter.unusedVariables false
set_option linter.unusedSimpArgs false
set_option linter.unusedSectionVars false
namespace Go.Proofs.YtneganpbamemmaaGreat
open Go Go.RowKit Sq

set_option maxRecDepth 100000 in
theorem or_low (b i : Int) (h0 : 0 ≤ b) (h1 : b < 256) (h2 : 0 ≤ i) (h3 : i < 2) : bits BinOp.or .u8 (b * 2 % 256) i = b * 2 % 256 + i := by
  have h : ∀ n : Fin 256, ∀ i : Fin 2, bits BinOp.or .u8 ((n.val : Int) * 2 % 256) (i.val : Int) = (n.val : Int) * 2 % 256 + (i.val : Int) := by decide +kernel
  have := h ⟨b.toNat, by omega⟩ ⟨i.toNat, by omega⟩
  rwa [show ((b.toNat : Nat) : Int) = b by omega, show ((i.toNat : Nat) : Int) = i by omega] at this
set_option maxRecDepth 100000 in
theorem or_high (b i : Int) (h0 : 0 ≤ b) (h1 : b < 256) (h2 : 0 ≤ i) (h3 : i < 2) : bits BinOp.or .u8 (b / 2) (i * 128) = b / 2 + i * 128 := by
  have h : ∀ n : Fin 256, ∀ i : Fin 2, bits BinOp.or .u8 ((n.val : Int) / 2) ((i.val : Int) * 128) = (n.val : Int) / 2 + (i.val : Int) * 128 := by decide +kernel
  have := h ⟨b.toNat, by omega⟩ ⟨i.toNat, by omega⟩
  rwa [show ((b.toNat : Nat) : Int) = b by omega, show ((i.toNat : Nat) : Int) = i by omega] at this
theorem or_zero (b : Int) (h0 : 0 ≤ b) (h1 : b < 256) : bits BinOp.or .u8 (b / 2) 0 = b / 2 := by
  have := or_high b 0 h0 h1 (by omega) (by omega)
  simpa using this
set_option maxHeartbeats 1600000 in
theorem turned_any (w : World) (k b f : Int) (hk : 0 ≤ k ∧ k < 8) (h0 : 0 ≤ b) (h1 : b < 256) (h2 : 0 ≤ f) (h3 : f < 256) : Calls Tryz.prog 216 #[.int .i64 k, .int .u8 b, .int .u8 f] w fun e w' => e = .returned (.tuple #[.int .u8 (turned k b f).1, .int .u8 (turned k b f).2]) ∧ w = w' := by
  have A1 := Lib.hid (and1 f h2 h3)
  have A2 := Lib.hid (and1 b h0 h1)
  rcases (by omega : k = 0 ∨ k = 1 ∨ k = 2 ∨ k = 3 ∨ k = 4 ∨ k = 5 ∨ k = 6 ∨ k = 7) with rfl | rfl | rfl | rfl | rfl | rfl | rfl | rfl
  all_goals
    clear hk
    go_enter Tryz.func216, Tryz.ntmps216
    go_wp2
    go_ret2
    refine ⟨ret_ii ?_ ?_, rfl⟩
    all_goals try rw [A1.out]
    all_goals try rw [A2.out]
    all_goals try rw [show b % 2 * 128 % 256 = b % 2 * 128 from by omega]
    all_goals try rw [show f % 2 * 128 % 256 = f % 2 * 128 from by omega]
    all_goals try rw [or_low _ _ h0 h1 (by omega) (by omega)]
    all_goals try rw [or_high _ _ h0 h1 (by omega) (by omega)]
    all_goals try rw [or_zero b h0 h1]
    all_goals simp [turned]
theorem turned_bd (k b f : Int) (h0 : 0 ≤ b) (h1 : b < 256) (h2 : 0 ≤ f) (h3 : f < 256) : (0 ≤ (turned k b f).1 ∧ (turned k b f).1 < 256) ∧ (0 ≤ (turned k b f).2 ∧ (turned k b f).2 < 2) := by
  unfold turned
  repeat' split
  all_goals simp only
  all_goals omega
theorem tdo_any (w : World) (k b f : Int) (hk : 0 ≤ k ∧ k < 8) (h0 : 0 ≤ b) (h1 : b < 256) (h2 : 0 ≤ f) (h3 : f < 256) : Calls Tryz.prog 177 #[.int .i64 k, .int .u8 b, .int .u8 f] w fun e w' => e = .returned (.tuple #[.int .u8 (tDo k b f).1, .int .u8 (tDo k b f).2]) ∧ w = w' := by
  obtain ⟨⟨r0, r1⟩, ⟨c0, c1⟩⟩ := turned_bd k b f h0 h1 h2 h3
  obtain ⟨k0, k1⟩ := hk
  go_enter Tryz.func177, Tryz.ntmps177
  go_wp2_with (first | (go_at_call 216; refine (turned_any _ _ _ _ (by omega) h0 h1 h2 h3).mono ?_; rintro e w' ⟨rfl, rfl⟩) | (go_at_call 131; refine (fofp_any _ _ r0 r1).mono ?_; rintro e w' ⟨rfl, rfl⟩))
  go_ret2
  exact ⟨rfl, rfl⟩
theorem tacc_any (w : World) (k b f : Int) (hk : 0 ≤ k ∧ k < 4) (h0 : 0 ≤ b) (h1 : b < 256) (h2 : 0 ≤ f) (h3 : f < 256) : Calls Tryz.prog 211 #[.int .i64 k, .int .u8 b, .int .u8 f] w fun e w' => e = .returned (.tuple #[.int .u8 (tAcc k b f).1, .int .u8 (tAcc k b f).2]) ∧ w = w' := by
  obtain ⟨⟨r0, r1⟩, ⟨c0, c1⟩⟩ := turned_bd k b f h0 h1 h2 h3
  obtain ⟨k0, k1⟩ := hk
  go_enter Tryz.func211, Tryz.ntmps211
  go_wp2_with (go_at_call 216; refine (turned_any _ _ _ _ (by omega) h0 h1 h2 h3).mono ?_; rintro e w' ⟨rfl, rfl⟩)
  go_ret2
  exact ⟨rfl, rfl⟩
theorem rld_any (w : World) (a b f : Int) (h0 : 0 ≤ a) (h1 : a < 256) (h2 : 0 ≤ b) (h3 : b < 256) (h4 : 0 ≤ f) (h5 : f < 256) : Calls Tryz.prog 137 #[.int .u8 a, .int .u8 b, .int .u8 f] w fun e w' => e = .returned (.tuple #[.int .u8 (tRld a b f).1, .int .u8 (tRld a b f).2.1, .int .u8 (tRld a b f).2.2]) ∧ w = w' := by
  go_enter Tryz.func137, Tryz.ntmps137
  go_wp2_with (go_at_call 131; refine (fofp_any _ _ (bits_bd _ _ _).1 (bits_bd _ _ _).2).mono ?_; rintro e w' ⟨rfl, rfl⟩)
  go_ret3
  exact ⟨rfl, rfl⟩
theorem rrd_any (w : World) (a b f : Int) (h0 : 0 ≤ a) (h1 : a < 256) (h2 : 0 ≤ b) (h3 : b < 256) (h4 : 0 ≤ f) (h5 : f < 256) : Calls Tryz.prog 136 #[.int .u8 a, .int .u8 b, .int .u8 f] w fun e w' => e = .returned (.tuple #[.int .u8 (tRrd a b f).1, .int .u8 (tRrd a b f).2.1, .int .u8 (tRrd a b f).2.2]) ∧ w = w' := by
  go_enter Tryz.func136, Tryz.ntmps136
  go_wp2_with (go_at_call 131; refine (fofp_any _ _ (bits_bd _ _ _).1 (bits_bd _ _ _).2).mono ?_; rintro e w' ⟨rfl, rfl⟩)
  go_ret3
  exact ⟨rfl, rfl⟩
theorem tset_any (w : World) (n b : Int) (hn : 0 ≤ n ∧ n < 8) (h0 : 0 ≤ b) (h1 : b < 256) : Calls Tryz.prog 180 #[.int .i64 n, .int .u8 b] w fun e w' => e = .returned (.int .u8 (tSet n b)) ∧ w = w' := by
  rcases (by omega : n = 0 ∨ n = 1 ∨ n = 2 ∨ n = 3 ∨ n = 4 ∨ n = 5 ∨ n = 6 ∨ n = 7) with rfl | rfl | rfl | rfl | rfl | rfl | rfl | rfl
  all_goals
    go_enter Tryz.func180, Tryz.ntmps180
    go_wp2
    go_ret
    exact ⟨rfl, rfl⟩
theorem tres_any (w : World) (n b : Int) (hn : 0 ≤ n ∧ n < 8) (h0 : 0 ≤ b) (h1 : b < 256) : Calls Tryz.prog 179 #[.int .i64 n, .int .u8 b] w fun e w' => e = .returned (.int .u8 (tRes n b)) ∧ w = w' := by
  rcases (by omega : n = 0 ∨ n = 1 ∨ n = 2 ∨ n = 3 ∨ n = 4 ∨ n = 5 ∨ n = 6 ∨ n = 7) with rfl | rfl | rfl | rfl | rfl | rfl | rfl | rfl
  all_goals
    go_enter Tryz.func179, Tryz.ntmps179
    go_wp2
    go_ret
    exact ⟨rfl, rfl⟩
theorem tbit_any (w : World) (n b fr f : Int) (hn : 0 ≤ n ∧ n < 8) (h0 : 0 ≤ b) (h1 : b < 256) : Calls Tryz.prog 178 #[.int .i64 n, .int .u8 b, .int .u8 fr, .int .u8 f] w fun e w' => e = .returned (.int .u8 (tBit n b fr f)) ∧ w = w' := by
  rcases (by omega : n = 0 ∨ n = 1 ∨ n = 2 ∨ n = 3 ∨ n = 4 ∨ n = 5 ∨ n = 6 ∨ n = 7) with rfl | rfl | rfl | rfl | rfl | rfl | rfl | rfl
  all_goals
    go_enter Tryz.func178, Tryz.ntmps178
    go_wp2_with (first | (go_at_call 217; go_in) | (go_at_call 182; refine (with_any _ _ _ _ (bits_bd _ _ _).1 (bits_bd _ _ _).2 (by omega) (by omega)).mono ?_; rintro e w' ⟨rfl, rfl⟩))
    all_goals
      go_ret
      exact ⟨ret_int (by simp_all [tBit, tBitG]), rfl⟩
end Go.Proofs.YtneganpbamemmaaGreat
