/- The small functions on words, codes and flags: what each returns. -/
import Derived.Test.YtneganpbamemmaaGreatProg
import Derived.Test.YtneganpbamemmaaGreatPlainA
set_option linter.unusedVariables false
set_option linter.unusedSimpArgs false
set_option linter.unusedSectionVars false
namespace Go.Proofs.YtneganpbamemmaaGreat
open Go Go.RowKit Sq

theorem and3 (x : Int) (h0 : 0 ≤ x) (h1 : x < 256) : bits BinOp.and IntKind.u8 x 3 = x % 4 := by
  rw [u8_and _ _ h0 h1 (by omega) (by omega)]
  have : x.toNat &&& (3 : Int).toNat = x.toNat % 4 := nat_mask2 _
  rw [this]; omega
theorem and1 (x : Int) (h0 : 0 ≤ x) (h1 : x < 256) : bits BinOp.and IntKind.u8 x 1 = x % 2 := by
  rw [u8_and _ _ h0 h1 (by omega) (by omega)]
  have : x.toNat &&& (1 : Int).toNat = x.toNat % 2 := nat_mask1 _
  rw [this]; omega
theorem wrap64_in (x : Int) (h0 : 0 ≤ x) (h1 : x < 65536) : wrap64 x = x := by unfold wrap64; omega

theorem bits_top (x : Int) (h0 : 0 ≤ x) (h1 : x < 256) : bits BinOp.or .u8 (bits BinOp.and .u8 x 128) (bits BinOp.and .u8 ((x + 1) % 256) 127) = x / 128 * 128 + (x + 1) % 128 := by
  have h : ∀ n : Fin 256, bits BinOp.or .u8 (bits BinOp.and .u8 (n.val : Int) 128) (bits BinOp.and .u8 (((n.val : Int) + 1) % 256) 127) = (n.val : Int) / 128 * 128 + ((n.val : Int) + 1) % 128 := by decide +kernel
  have := h ⟨x.toNat, by omega⟩
  rwa [show ((x.toNat : Nat) : Int) = x by omega] at this
theorem hi_any (w : World) (x : Int) (h0 : 0 ≤ x) (h1 : x < 65536) : Calls Tryz.prog 128 #[.int .u16 x] w fun e w' => e = .returned (.int .u8 (whi x)) ∧ w = w' := by
  go_enter Tryz.func128, Tryz.ntmps128
  go_wp2
  go_ret
  exact ⟨rfl, rfl⟩
theorem lo_any (w : World) (x : Int) (h0 : 0 ≤ x) (h1 : x < 65536) : Calls Tryz.prog 122 #[.int .u16 x] w fun e w' => e = .returned (.int .u8 (wlo x)) ∧ w = w' := by
  go_enter Tryz.func122, Tryz.ntmps122
  go_wp2
  go_ret
  exact ⟨rfl, rfl⟩
theorem wd_or (x y : Int) (h0 : 0 ≤ x) (h1 : x < 256) (h2 : 0 ≤ y) (h3 : y < 256) : bits BinOp.or IntKind.u16 (x * 256) y = wd x y := by
  rw [u16_or _ _ (by omega) (by omega) h2 (by omega)]
  have : (x * 256).toNat ||| y.toNat = (x * 256).toNat + y.toNat := nat_join 8 _ _ (by omega) (by omega)
  rw [this]; unfold wd; omega
theorem of_any (w : World) (x y : Int) (h0 : 0 ≤ x) (h1 : x < 256) (h2 : 0 ≤ y) (h3 : y < 256) : Calls Tryz.prog 72 #[.int .u8 x, .int .u8 y] w fun e w' => e = .returned (.int .u16 (wd x y)) ∧ w = w' := by
  go_enter Tryz.func72, Tryz.ntmps72
  go_wp2
  go_ret
  exact ⟨ret_int (wd_or x y h0 h1 h2 h3), rfl⟩
theorem wplus_wrap (x y : Int) (h2 : 0 ≤ y) (h3 : y < 256) : IntKind.u16.wrap (x + IntKind.u16.wrap (IntKind.i16.wrap (IntKind.i8.wrap y))) = wplus x y := by
  simp only [IntKind.wrap, IntKind.bits, IntKind.signed, wplus]
  by_cases h : y < 128
  · simp [h]; omega
  · simp [h]; omega
theorem plus_any (w : World) (x y : Int) (_h0 : 0 ≤ x) (_h1 : x < 65536) (h2 : 0 ≤ y) (h3 : y < 256) : Calls Tryz.prog 116 #[.int .u16 x, .int .u8 y] w fun e w' => e = .returned (.int .u16 (wplus x y)) ∧ w = w' := by
  go_enter Tryz.func116, Tryz.ntmps116
  go_wp2
  go_ret
  exact ⟨ret_int (wplus_wrap x y h2 h3), rfl⟩
theorem x_any (w : World) (x : Int) (h0 : 0 ≤ x) (h1 : x < 256) : Calls Tryz.prog 176 #[.int .u8 x] w fun e w' => e = .returned (.int .i64 (cx x)) ∧ w = w' := by
  go_enter Tryz.func176, Tryz.ntmps176
  go_wp2
  go_ret
  exact ⟨rfl, rfl⟩
theorem y_any (w : World) (x : Int) (h0 : 0 ≤ x) (h1 : x < 256) : Calls Tryz.prog 87 #[.int .u8 x] w fun e w' => e = .returned (.int .i64 (cy x)) ∧ w = w' := by
  go_enter Tryz.func87, Tryz.ntmps87
  go_wp2
  go_ret
  exact ⟨rfl, rfl⟩
theorem z_any (w : World) (x : Int) (h0 : 0 ≤ x) (h1 : x < 256) : Calls Tryz.prog 88 #[.int .u8 x] w fun e w' => e = .returned (.int .i64 (cz x)) ∧ w = w' := by
  go_enter Tryz.func88, Tryz.ntmps88
  go_wp2
  go_ret
  exact ⟨rfl, rfl⟩
theorem p_any (w : World) (x : Int) (h0 : 0 ≤ x) (h1 : x < 256) : Calls Tryz.prog 118 #[.int .u8 x] w fun e w' => e = .returned (.int .i64 (cp x)) ∧ w = w' := by
  go_enter Tryz.func118, Tryz.ntmps118
  go_wp2
  go_ret
  exact ⟨ret_int (by rw [and3 _ (by omega) (by omega), wrap64_in _ (by omega) (by omega)]; rfl), rfl⟩
theorem mx_any (w : World) (x : Int) (h0 : 0 ≤ x) (h1 : x < 256) : Calls Tryz.prog 106 #[.int .u8 x] w fun e w' => e = .returned (.int .i64 (cx x)) ∧ w = w' := by
  go_enter Tryz.func106, Tryz.ntmps106
  go_wp2
  go_ret
  exact ⟨rfl, rfl⟩
theorem my_any (w : World) (x : Int) (h0 : 0 ≤ x) (h1 : x < 256) : Calls Tryz.prog 157 #[.int .u8 x] w fun e w' => e = .returned (.int .i64 (cy x)) ∧ w = w' := by
  go_enter Tryz.func157, Tryz.ntmps157
  go_wp2
  go_ret
  exact ⟨rfl, rfl⟩
theorem mz_any (w : World) (x : Int) (h0 : 0 ≤ x) (h1 : x < 256) : Calls Tryz.prog 149 #[.int .u8 x] w fun e w' => e = .returned (.int .i64 (cz x)) ∧ w = w' := by
  go_enter Tryz.func149, Tryz.ntmps149
  go_wp2
  go_ret
  exact ⟨rfl, rfl⟩
theorem mp_any (w : World) (x : Int) (h0 : 0 ≤ x) (h1 : x < 256) : Calls Tryz.prog 165 #[.int .u8 x] w fun e w' => e = .returned (.int .i64 (cp x)) ∧ w = w' := by
  go_enter Tryz.func165, Tryz.ntmps165
  go_wp2
  go_ret
  exact ⟨ret_int (by rw [and3 _ (by omega) (by omega), wrap64_in _ (by omega) (by omega)]; rfl), rfl⟩
theorem mq_any (w : World) (x : Int) (h0 : 0 ≤ x) (h1 : x < 256) : Calls Tryz.prog 151 #[.int .u8 x] w fun e w' => e = .returned (.int .i64 (cq x)) ∧ w = w' := by
  go_enter Tryz.func151, Tryz.ntmps151
  go_wp2
  go_ret
  exact ⟨ret_int (by rw [and1 _ (by omega) (by omega), wrap64_in _ (by omega) (by omega)]; rfl), rfl⟩
theorem has_any (w : World) (f b : Int) (h0 : 0 ≤ f) (h1 : f < 256) (h2 : 0 ≤ b) (h3 : b < 256) : Calls Tryz.prog 89 #[.int .u8 f, .int .u8 b] w fun e w' => e = .returned (.bool (fHas f b)) ∧ w = w' := by
  go_enter Tryz.func89, Tryz.ntmps89
  go_wp2
  go_ret
  exact ⟨rfl, rfl⟩
theorem fof_any (w : World) (b : Int) (h0 : 0 ≤ b) (h1 : b < 256) : Calls Tryz.prog 183 #[.int .u8 b] w fun e w' => e = .returned (.int .u8 (fOf b)) ∧ w = w' := by
  go_enter Tryz.func183, Tryz.ntmps183
  go_wp2
  · have h : (b == 0) = true := by assumption
    go_ret
    exact ⟨ret_int (by rw [fOf, if_pos (by simpa using h)]), rfl⟩
  · have h : (b == 0) = false := by assumption
    go_ret
    exact ⟨ret_int (by rw [fOf, if_neg (by simpa using h)]), rfl⟩
theorem with_any (w : World) (f b : Int) (on : Bool) (h0 : 0 ≤ f) (h1 : f < 256) (h2 : 0 ≤ b) (h3 : b < 256) : Calls Tryz.prog 182 #[.int .u8 f, .int .u8 b, .bool on] w fun e w' => e = .returned (.int .u8 (fWith f b on)) ∧ w = w' := by
  cases on
  all_goals
    go_enter Tryz.func182, Tryz.ntmps182
    go_wp2
    go_ret
    exact ⟨rfl, rfl⟩
theorem cond_any (w : World) (f k : Int) (h0 : 0 ≤ f) (h1 : f < 256) (h2 : -4 ≤ k) (h3 : k < 8) : Calls Tryz.prog 86 #[.int .u8 f, .int .i64 k] w fun e w' => e = .returned (.bool (fCond f k)) ∧ w = w' := by
  rcases (by omega : k < 0 ∨ k = 0 ∨ k = 1 ∨ k = 2 ∨ k = 3 ∨ k = 4 ∨ k = 5 ∨ k = 6 ∨ k = 7) with h | rfl | rfl | rfl | rfl | rfl | rfl | rfl | rfl
  · rcases (by omega : k = -1 ∨ k = -2 ∨ k = -3 ∨ k = -4) with rfl | rfl | rfl | rfl
    all_goals
      go_enter Tryz.func86, Tryz.ntmps86
      go_wp2
      go_ret
      exact ⟨rfl, rfl⟩
  all_goals
    go_enter Tryz.func86, Tryz.ntmps86
    go_wp2_with (go_at_call 89; refine (has_any _ _ _ h0 h1 (by omega) (by omega)).mono ?_; rintro e w' ⟨rfl, rfl⟩)
    go_ret
    exact ⟨ret_bool (by simp [fCond]), rfl⟩
end Go.Proofs.YtneganpbamemmaaGreat
