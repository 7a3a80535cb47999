/- The other operations of a byte. -/
import Derived.Test.YtneganpbamemmaaGreatAlu2
set_option linter.unusedVariables false
set_option linter.unusedSimpArgs false
set_option linter.unusedSectionVars false
namespace Go.Proofs.YtneganpbamemmaaGreat
open Go Go.RowKit Sq

theorem aAddR_bd (a b : Int) (c : Bool) : 0 ≤ aAddR a b c ∧ aAddR a b c < 256 := by unfold aAddR; omega
theorem aSubR_bd (a b : Int) (c : Bool) : 0 ≤ aSubR a b c ∧ aSubR a b c < 256 := by unfold aSubR; omega
theorem aAddF_bd (a b : Int) (c : Bool) : 0 ≤ aAddF a b c ∧ aAddF a b c < 256 := fSet_bd _ _ (fOf_bd _).1 (fOf_bd _).2
theorem aSubF_bd (a b : Int) (c : Bool) : 0 ≤ aSubF a b c ∧ aSubF a b c < 256 := fSet_bd _ _ (bits_bd _ _ _).1 (bits_bd _ _ _).2
theorem cp_any (w : World) (a b : Int) (h0 : 0 ≤ a) (h1 : a < 256) (h2 : 0 ≤ b) (h3 : b < 256) : Calls Tryz.prog 215 #[.int .u8 a, .int .u8 b] w fun e w' => e = .returned (.int .u8 (aCp a b)) ∧ Ext w w' := by
  obtain ⟨f0, f1⟩ := aSubF_bd a b false
  go_enter Tryz.func215, Tryz.ntmps215
  go_wp2_with (go_at_call 188; refine (sub_any _ _ _ _ h0 h1 h2 h3).mono ?_; rintro e w' ⟨rfl, hx⟩)
  go_ret
  exact ⟨rfl, by assumption⟩
theorem and_any (w : World) (a b : Int) (h0 : 0 ≤ a) (h1 : a < 256) (h2 : 0 ≤ b) (h3 : b < 256) : Calls Tryz.prog 212 #[.int .u8 a, .int .u8 b] w fun e w' => e = .returned (.tuple #[.int .u8 (bits .and .u8 a b), .int .u8 (bits .or .u8 (fOfP (bits .and .u8 a b)) 16)]) ∧ w = w' := by
  obtain ⟨g0, g1⟩ := bits_bd .and a b
  obtain ⟨f0, f1⟩ := fOfP_bd (bits .and .u8 a b)
  go_enter Tryz.func212, Tryz.ntmps212
  go_wp2_with (go_at_call 131; refine (fofp_any _ _ g0 g1).mono ?_; rintro e w' ⟨rfl, rfl⟩)
  go_ret2
  exact ⟨rfl, rfl⟩
theorem xor_any (w : World) (a b : Int) (h0 : 0 ≤ a) (h1 : a < 256) (h2 : 0 ≤ b) (h3 : b < 256) : Calls Tryz.prog 213 #[.int .u8 a, .int .u8 b] w fun e w' => e = .returned (.tuple #[.int .u8 (bits .xor .u8 a b), .int .u8 (fOfP (bits .xor .u8 a b))]) ∧ w = w' := by
  obtain ⟨g0, g1⟩ := bits_bd .xor a b
  go_enter Tryz.func213, Tryz.ntmps213
  go_wp2_with (go_at_call 131; refine (fofp_any _ _ g0 g1).mono ?_; rintro e w' ⟨rfl, rfl⟩)
  go_ret2
  exact ⟨rfl, rfl⟩
theorem or_any (w : World) (a b : Int) (h0 : 0 ≤ a) (h1 : a < 256) (h2 : 0 ≤ b) (h3 : b < 256) : Calls Tryz.prog 214 #[.int .u8 a, .int .u8 b] w fun e w' => e = .returned (.tuple #[.int .u8 (bits .or .u8 a b), .int .u8 (fOfP (bits .or .u8 a b))]) ∧ w = w' := by
  obtain ⟨g0, g1⟩ := bits_bd .or a b
  go_enter Tryz.func214, Tryz.ntmps214
  go_wp2_with (go_at_call 131; refine (fofp_any _ _ g0 g1).mono ?_; rintro e w' ⟨rfl, rfl⟩)
  go_ret2
  exact ⟨rfl, rfl⟩
set_option maxHeartbeats 2000000 in
theorem do_any (w : World) (k a b f : Int) (hk : 0 ≤ k ∧ k < 8) (h0 : 0 ≤ a) (h1 : a < 256) (h2 : 0 ≤ b) (h3 : b < 256) (h4 : 0 ≤ f) (h5 : f < 256) : Calls Tryz.prog 175 #[.int .i64 k, .int .u8 a, .int .u8 b, .int .u8 f] w fun e w' => e = .returned (.tuple #[.int .u8 (aDo k a b f).1, .int .u8 (aDo k a b f).2]) ∧ Ext w w' := by
  have HE := Lib.hid (Ext.refl w)
  rcases (by omega : k = 0 ∨ k = 1 ∨ k = 2 ∨ k = 3 ∨ k = 4 ∨ k = 5 ∨ k = 6 ∨ k = 7) with rfl | rfl | rfl | rfl | rfl | rfl | rfl | rfl
  all_goals
    clear hk
    go_enter Tryz.func175, Tryz.ntmps175
    go_wp2_with (first | (go_at_call 89; refine (has_any _ _ _ h4 h5 (by omega) (by omega)).mono ?_; rintro e w' ⟨rfl, rfl⟩) | (go_at_call 205; refine (add_any _ _ _ _ h0 h1 h2 h3).mono ?_; rintro e w' ⟨rfl, hx⟩) | (go_at_call 188; refine (sub_any _ _ _ _ h0 h1 h2 h3).mono ?_; rintro e w' ⟨rfl, hx⟩) | (go_at_call 212; refine (and_any _ _ _ h0 h1 h2 h3).mono ?_; rintro e w' ⟨rfl, rfl⟩) | (go_at_call 213; refine (xor_any _ _ _ h0 h1 h2 h3).mono ?_; rintro e w' ⟨rfl, rfl⟩) | (go_at_call 214; refine (or_any _ _ _ h0 h1 h2 h3).mono ?_; rintro e w' ⟨rfl, rfl⟩) | (go_at_call 215; refine (cp_any _ _ _ h0 h1 h2 h3).mono ?_; rintro e w' ⟨rfl, hx⟩))
    go_ret2
    exact ⟨ret_ii (by simp [aDo]) (by simp [aDo]), by first | assumption | exact HE.out⟩
theorem inc_any (w : World) (a f : Int) (h0 : 0 ≤ a) (h1 : a < 256) : Calls Tryz.prog 171 #[.int .u8 a, .int .u8 f] w fun e w' => e = .returned (.tuple #[.int .u8 (aInc a f).1, .int .u8 (aInc a f).2]) ∧ Ext w w' := by
  obtain ⟨f0, f1⟩ := aAddF_bd a 1 false
  go_enter Tryz.func171, Tryz.ntmps171
  go_wp2_with (go_at_call 205; refine (add_any _ _ _ _ h0 h1 (by omega) (by omega)).mono ?_; rintro e w' ⟨rfl, hx⟩)
  go_ret2
  exact ⟨rfl, by assumption⟩
theorem dec_any (w : World) (a f : Int) (h0 : 0 ≤ a) (h1 : a < 256) : Calls Tryz.prog 172 #[.int .u8 a, .int .u8 f] w fun e w' => e = .returned (.tuple #[.int .u8 (aDec a f).1, .int .u8 (aDec a f).2]) ∧ Ext w w' := by
  obtain ⟨f0, f1⟩ := aSubF_bd a 1 false
  go_enter Tryz.func172, Tryz.ntmps172
  go_wp2_with (go_at_call 188; refine (sub_any _ _ _ _ h0 h1 (by omega) (by omega)).mono ?_; rintro e w' ⟨rfl, hx⟩)
  go_ret2
  exact ⟨rfl, by assumption⟩
theorem neg_any (w : World) (a : Int) (h0 : 0 ≤ a) (h1 : a < 256) : Calls Tryz.prog 134 #[.int .u8 a] w fun e w' => e = .returned (.tuple #[.int .u8 (aSubR 0 a false), .int .u8 (aSubF 0 a false)]) ∧ Ext w w' := by
  go_enter Tryz.func134, Tryz.ntmps134
  go_wp2_with (go_at_call 188; refine (sub_any _ _ _ _ (by omega) (by omega) h0 h1).mono ?_; rintro e w' ⟨rfl, hx⟩)
  go_ret2
  exact ⟨rfl, by assumption⟩
theorem scf_any (w : World) (a f q : Int) : Calls Tryz.prog 209 #[.int .u8 a, .int .u8 f, .int .u8 q] w fun e w' => e = .returned (.int .u8 (aScf a f q)) ∧ w = w' := by
  go_enter Tryz.func209, Tryz.ntmps209
  go_wp2
  go_ret
  exact ⟨rfl, rfl⟩
theorem cpl_any (w : World) (a f : Int) (h0 : 0 ≤ a) (h1 : a < 256) : Calls Tryz.prog 208 #[.int .u8 a, .int .u8 f] w fun e w' => e = .returned (.tuple #[.int .u8 (aCpl a f).1, .int .u8 (aCpl a f).2]) ∧ w = w' := by
  go_enter Tryz.func208, Tryz.ntmps208
  go_wp2
  go_ret2
  exact ⟨rfl, rfl⟩
theorem aset2 (w : World) (f : Int) (h0 : 0 ≤ f) (h1 : f < 256) (b1 b2 : Int) (o1 o2 : Bool) (t : TypeId) (q : Nat) (hq : q = w.heap.size) (g1 : 0 ≤ b1 ∧ b1 < 256) (g2 : 0 ≤ b2 ∧ b2 < 256) :
    Calls Tryz.prog 220 #[.int .u8 f, .slice (some ⟨q, 0, none⟩) 2 2] (w.alloc (.cells #[.int .u8 b1, .bool o1, .int .u8 b2, .bool o2] t)) fun e w' => e = .returned (.int .u8 (fSet f [(b1, o1), (b2, o2)])) ∧ Ext w w' := by
  subst hq
  refine (aset_any _ f h0 h1 _ 2 2 [(b1, o1), (b2, o2)] rfl (by omega) ?_ ?_ (by simp)).mono fun e w' h => ⟨h.1, (Ext.alloc _ _).trans h.2⟩
  · intro p hp
    simp only [List.mem_cons, List.not_mem_nil, or_false] at hp
    rcases hp with rfl | rfl
    · exact g1
    · exact g2
  · intro j p hp
    match j, hp with
    | 0, hp => simp at hp; subst hp; exact ⟨World.cell?_alloc_new _ _ _ _, World.cell?_alloc_new _ _ _ _⟩
    | 1, hp => simp at hp; subst hp; exact ⟨World.cell?_alloc_new _ _ _ _, World.cell?_alloc_new _ _ _ _⟩
    | j + 2, hp => simp at hp
theorem ccf_any (w : World) (a f q : Int) (h2 : 0 ≤ f) (h3 : f < 256) : Calls Tryz.prog 210 #[.int .u8 a, .int .u8 f, .int .u8 q] w fun e w' => e = .returned (.int .u8 (aCcf a f q)) ∧ Ext w w' := by
  have hnot : ∀ (x : Bool) (w : World), (Op.unary .not (.bool x)).run Tryz.prog w = .ok (.bool (!x)) w := fun _ _ => rfl
  go_enter Tryz.func210, Tryz.ntmps210
  go_wp2_with (first | (go_at_call 89; refine (has_any _ _ _ h2 h3 (by omega) (by omega)).mono ?_; rintro e w' ⟨rfl, rfl⟩) | (go_at_call 220; refine (aset2 _ _ (bits_bd _ _ _).1 (bits_bd _ _ _).2 _ _ _ _ _ _ rfl (by omega) (by omega)).mono ?_; rintro e w' ⟨rfl, hx⟩))
  go_ret
  exact ⟨rfl, by assumption⟩
end Go.Proofs.YtneganpbamemmaaGreat
