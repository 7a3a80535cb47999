/- The operations of a byte: what each returns. -/
import Derived.Test.YtneganpbamemmaaGreatAlu
set_option linter.unusedVariables false
set_option linter.unusedSimpArgs false
set_option linter.unusedSectionVars false
namespace Go.Proofs.YtneganpbamemmaaGreat
open Go Go.RowKit Sq

theorem s8_wrap (x : Int) (h0 : 0 ≤ x) (h1 : x < 256) : wrap64 (IntKind.i8.wrap x) = s8 x := by
  simp only [IntKind.wrap, IntKind.bits, IntKind.signed, s8, wrap64]
  by_cases h : x < 128
  · simp [h]; omega
  · simp [h]; omega
theorem s8_bd (x : Int) (h0 : 0 ≤ x) (h1 : x < 256) : -128 ≤ s8 x ∧ s8 x < 128 := by unfold s8; split <;> omega
theorem wrap64_sm (x : Int) (h0 : -100000 ≤ x) (h1 : x < 100000) : wrap64 x = x := by unfold wrap64; omega
theorem ret_ii {k l : IntKind} {a b c d : Int} (h : a = b) (g : c = d) : Ending.returned (.tuple #[.int k a, .int l c]) = .returned (.tuple #[.int k b, .int l d]) := by rw [h, g]
theorem and15 (x : Int) (h0 : 0 ≤ x) (h1 : x < 256) : bits BinOp.and IntKind.u8 x 15 = x % 16 := by
  rw [u8_and _ _ h0 h1 (by omega) (by omega)]
  have : x.toNat &&& (15 : Int).toNat = x.toNat % 16 := nat_mask4 _
  rw [this]; omega
/-- The three bits of F that a sum tells, as they lie in a block. -/
theorem aset3 (w : World) (f : Int) (h0 : 0 ≤ f) (h1 : f < 256) (b1 b2 b3 : Int) (o1 o2 o3 : Bool) (t : TypeId) (q : Nat) (hq : q = w.heap.size) (g1 : 0 ≤ b1 ∧ b1 < 256) (g2 : 0 ≤ b2 ∧ b2 < 256) (g3 : 0 ≤ b3 ∧ b3 < 256) :
    Calls Tryz.prog 220 #[.int .u8 f, .slice (some ⟨q, 0, none⟩) 3 3] (w.alloc (.cells #[.int .u8 b1, .bool o1, .int .u8 b2, .bool o2, .int .u8 b3, .bool o3] t)) fun e w' => e = .returned (.int .u8 (fSet f [(b1, o1), (b2, o2), (b3, o3)])) ∧ Ext w w' := by
  subst hq
  refine (aset_any _ f h0 h1 _ 3 3 [(b1, o1), (b2, o2), (b3, o3)] rfl (by omega) ?_ ?_ (by simp)).mono fun e w' h => ⟨h.1, (Ext.alloc _ _).trans h.2⟩
  · intro p hp
    simp only [List.mem_cons, List.not_mem_nil, or_false] at hp
    rcases hp with rfl | rfl | rfl
    · exact g1
    · exact g2
    · exact g3
  · intro j p hp
    match j, hp with
    | 0, hp => simp at hp; subst hp; exact ⟨World.cell?_alloc_new _ _ _ _, World.cell?_alloc_new _ _ _ _⟩
    | 1, hp => simp at hp; subst hp; exact ⟨World.cell?_alloc_new _ _ _ _, World.cell?_alloc_new _ _ _ _⟩
    | 2, hp => simp at hp; subst hp; exact ⟨World.cell?_alloc_new _ _ _ _, World.cell?_alloc_new _ _ _ _⟩
    | j + 3, hp => simp at hp
theorem add_over (a b : Int) (h0 : 0 ≤ a) (h1 : a < 256) (h2 : 0 ≤ b) (h3 : b < 256) : wrap64 (wrap64 (wrap64 (IntKind.i8.wrap a) + wrap64 (IntKind.i8.wrap b))) = s8 a + s8 b + 0 ∧ wrap64 (wrap64 (wrap64 (IntKind.i8.wrap a) + wrap64 (IntKind.i8.wrap b)) + 1) = s8 a + s8 b + 1 := by
  have p := s8_bd a h0 h1; have q := s8_bd b h2 h3
  rw [s8_wrap a h0 h1, s8_wrap b h2 h3, wrap64_sm (s8 a + s8 b) (by omega) (by omega), wrap64_sm (s8 a + s8 b) (by omega) (by omega), wrap64_sm (s8 a + s8 b + 1) (by omega) (by omega)]
  omega
theorem sub_over (a b : Int) (h0 : 0 ≤ a) (h1 : a < 256) (h2 : 0 ≤ b) (h3 : b < 256) : wrap64 (wrap64 (wrap64 (IntKind.i8.wrap a) - wrap64 (IntKind.i8.wrap b))) = s8 a - s8 b - 0 ∧ wrap64 (wrap64 (wrap64 (IntKind.i8.wrap a) - wrap64 (IntKind.i8.wrap b)) - 1) = s8 a - s8 b - 1 := by
  have p := s8_bd a h0 h1; have q := s8_bd b h2 h3
  rw [s8_wrap a h0 h1, s8_wrap b h2 h3, wrap64_sm (s8 a - s8 b) (by omega) (by omega), wrap64_sm (s8 a - s8 b) (by omega) (by omega), wrap64_sm (s8 a - s8 b - 1) (by omega) (by omega)]
  omega
set_option maxHeartbeats 800000 in
theorem add_any (w : World) (a b : Int) (c : Bool) (h0 : 0 ≤ a) (h1 : a < 256) (h2 : 0 ≤ b) (h3 : b < 256) :
    Calls Tryz.prog 205 #[.int .u8 a, .int .u8 b, .bool c] w fun e w' => e = .returned (.tuple #[.int .u8 (aAddR a b c), .int .u8 (aAddF a b c)]) ∧ Ext w w' := by
  have HO := Lib.hid (add_over a b h0 h1 h2 h3)
  cases c
  all_goals
    go_enter Tryz.func205, Tryz.ntmps205
    go_wp2_with (first | (go_at_call 219; go_in) | (go_at_call 221; refine (over_any _ _).mono ?_; rintro e w' ⟨rfl, rfl⟩) | (go_at_call 183; refine (fof_any _ _ (by omega) (by omega)).mono ?_; rintro e w' ⟨rfl, rfl⟩) | (go_at_call 220; refine (aset3 _ _ (fOf_bd _).1 (fOf_bd _).2 _ _ _ _ _ _ _ _ rfl (by omega) (by omega) (by omega)).mono ?_; rintro e w' ⟨rfl, hx⟩))
    go_ret2
    refine ⟨ret_ii (by simp [aAddR, one]) ?_, by assumption⟩
    first | rw [HO.out.1] | rw [HO.out.2]
    simp [aAddF, aAddR, one, over8]
set_option maxHeartbeats 800000 in
theorem sub_any (w : World) (a b : Int) (c : Bool) (h0 : 0 ≤ a) (h1 : a < 256) (h2 : 0 ≤ b) (h3 : b < 256) :
    Calls Tryz.prog 188 #[.int .u8 a, .int .u8 b, .bool c] w fun e w' => e = .returned (.tuple #[.int .u8 (aSubR a b c), .int .u8 (aSubF a b c)]) ∧ Ext w w' := by
  have HO := Lib.hid (sub_over a b h0 h1 h2 h3)
  cases c
  all_goals
    go_enter Tryz.func188, Tryz.ntmps188
    go_wp2_with (first | (go_at_call 219; go_in) | (go_at_call 221; refine (over_any _ _).mono ?_; rintro e w' ⟨rfl, rfl⟩) | (go_at_call 183; refine (fof_any _ _ (by omega) (by omega)).mono ?_; rintro e w' ⟨rfl, rfl⟩) | (go_at_call 220; refine (aset3 _ _ (bits_bd _ _ _).1 (bits_bd _ _ _).2 _ _ _ _ _ _ _ _ rfl (by omega) (by omega) (by omega)).mono ?_; rintro e w' ⟨rfl, hx⟩))
    go_ret2
    refine ⟨ret_ii (by simp [aSubR, one]) ?_, by assumption⟩
    first | rw [HO.out.1] | rw [HO.out.2]
    simp [aSubF, aSubR, one, over8]
end Go.Proofs.YtneganpbamemmaaGreat
