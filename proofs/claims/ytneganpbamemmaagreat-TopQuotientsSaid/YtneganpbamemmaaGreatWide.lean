/- The sums of words: what each returns. -/
import Derived.Test.YtneganpbamemmaaGreatAlu2
import Derived.Deep.RegionWith
set_option linter.unusedVariables false
set_option linter.unusedSimpArgs false
set_option linter.unusedSectionVars false
namespace Go.Proofs.YtneganpbamemmaaGreat
open Go Go.RowKit Sq

theorem s16_wrap (x : Int) (h0 : 0 ≤ x) (h1 : x < 65536) : wrap64 (IntKind.i16.wrap x) = s16 x := by
  simp only [IntKind.wrap, IntKind.bits, IntKind.signed, s16, wrap64]
  by_cases h : x < 32768
  · simp [h]; omega
  · simp [h]; omega
theorem s16_bd (x : Int) (h0 : 0 ≤ x) (h1 : x < 65536) : -32768 ≤ s16 x ∧ s16 x < 32768 := by unfold s16; split <;> omega
theorem and4095 (x : Int) (h0 : 0 ≤ x) (h1 : x < 65536) : bits BinOp.and IntKind.u16 x 4095 = x % 4096 := by
  rw [u16_and _ _ h0 h1 (by omega) (by omega)]
  have : x.toNat &&& (4095 : Int).toNat = x.toNat % 4096 := nat_mask12 _
  rw [this]; omega
theorem wover_any (w : World) (x : Int) : Calls Tryz.prog 186 #[.int .i64 x] w fun e w' => e = .returned (.bool (over16 x)) ∧ w = w' := by
  unfold over16
  by_cases h : x < -32768
  all_goals
    go_enter Tryz.func186, Tryz.ntmps186
    go_wp2
    go_ret
    exact ⟨ret_bool (by simp [*] <;> omega), rfl⟩
theorem carry_any (w : World) (f : Int) (h0 : 0 ≤ f) (h1 : f < 256) : Calls Tryz.prog 185 #[.int .u8 f] w fun e w' => e = .returned (.int .i64 (f % 2)) ∧ w = w' := by
  go_enter Tryz.func185, Tryz.ntmps185
  go_wp2
  go_ret
  exact ⟨ret_int (by rw [and1 _ h0 h1, wrap64_in _ (by omega) (by omega)]), rfl⟩
theorem wall_any (w : World) (r : Int) (h0 : 0 ≤ r) (h1 : r < 65536) : Calls Tryz.prog 187 #[.int .u16 r] w fun e w' => e = .returned (.int .u8 (wAll r)) ∧ w = w' := by
  obtain ⟨f0, f1⟩ := bits_bd .and (whi r) 168
  go_enter Tryz.func187, Tryz.ntmps187
  go_wp2_with (first | (go_at_call 128; refine (hi_any _ _ h0 h1).mono ?_; rintro e w' ⟨rfl, rfl⟩) | (go_at_call 182; refine (with_any _ _ _ _ f0 f1 (by omega) (by omega)).mono ?_; rintro e w' ⟨rfl, rfl⟩))
  go_ret
  exact ⟨rfl, rfl⟩
theorem flags_any (w : World) (h o c : Bool) : Calls Tryz.prog 169 #[.agg #[.bool h, .bool o, .bool c]] w fun e w' => e = .returned (.int .u8 (wFlags h o c)) ∧ Ext w w' := by
  obtain ⟨f0, f1⟩ := fWith_bd 0 16 h
  obtain ⟨g0, g1⟩ := fWith_bd (fWith 0 16 h) 4 o
  cases h <;> cases o <;> cases c
  all_goals
    go_enter Tryz.func169, Tryz.ntmps169
    go_wp2_with (go_at_call 182; refine (with_any _ _ _ _ (by omega) (by omega) (by omega) (by omega)).mono ?_; rintro e w' ⟨rfl, rfl⟩)
    go_ret
    exact ⟨ret_int (by simp [wFlags]), by repeat (first | exact Ext.refl _ | refine Ext.alloc' ?_ _)⟩
theorem plus_over (a b f : Int) (h0 : 0 ≤ a) (h1 : a < 65536) (h2 : 0 ≤ b) (h3 : b < 65536) (h4 : 0 ≤ f) (h5 : f < 2) : wrap64 (wrap64 (wrap64 (IntKind.i16.wrap a) + wrap64 (IntKind.i16.wrap b)) + f) = s16 a + s16 b + f ∧ wrap64 (wrap64 (wrap64 (IntKind.i16.wrap a) - wrap64 (IntKind.i16.wrap b)) - f) = s16 a - s16 b - f := by
  have p := s16_bd a h0 h1; have q := s16_bd b h2 h3
  rw [s16_wrap a h0 h1, s16_wrap b h2 h3, wrap64_sm (s16 a + s16 b) (by omega) (by omega), wrap64_sm (s16 a + s16 b + f) (by omega) (by omega), wrap64_sm (s16 a - s16 b) (by omega) (by omega), wrap64_sm (s16 a - s16 b - f) (by omega) (by omega)]
  exact ⟨rfl, rfl⟩
theorem plus_half (a b f : Int) (h0 : 0 ≤ a) (h1 : a < 65536) (h2 : 0 ≤ b) (h3 : b < 65536) (h4 : 0 ≤ f) (h5 : f < 2) : wrap64 (wrap64 (wrap64 (bits BinOp.and IntKind.u16 a 4095) + wrap64 (bits BinOp.and IntKind.u16 b 4095)) + f) = a % 4096 + b % 4096 + f := by
  rw [and4095 a h0 h1, and4095 b h2 h3, wrap64_sm (a % 4096) (by omega) (by omega), wrap64_sm (b % 4096) (by omega) (by omega), wrap64_sm (a % 4096 + b % 4096) (by omega) (by omega), wrap64_sm _ (by omega) (by omega)]
theorem less_half (a b f : Int) (h0 : 0 ≤ a) (h1 : a < 65536) (h2 : 0 ≤ b) (h3 : b < 65536) (h4 : 0 ≤ f) (h5 : f < 2) : wrap64 (wrap64 (wrap64 (bits BinOp.and IntKind.u16 a 4095) - wrap64 (bits BinOp.and IntKind.u16 b 4095)) - f) = a % 4096 - b % 4096 - f := by
  rw [and4095 a h0 h1, and4095 b h2 h3, wrap64_sm (a % 4096) (by omega) (by omega), wrap64_sm (b % 4096) (by omega) (by omega), wrap64_sm (a % 4096 - b % 4096) (by omega) (by omega), wrap64_sm _ (by omega) (by omega)]
set_option maxHeartbeats 800000 in
theorem wplus_any (w : World) (a b f : Int) (h0 : 0 ≤ a) (h1 : a < 65536) (h2 : 0 ≤ b) (h3 : b < 65536) (h4 : 0 ≤ f) (h5 : f < 2) : Calls Tryz.prog 168 #[.int .u16 a, .int .u16 b, .int .i64 f] w fun e w' => e = .returned (.tuple #[.int .u16 ((a + b + f) % 65536), .agg #[.bool (decide (4095 < a % 4096 + b % 4096 + f)), .bool (over16 (s16 a + s16 b + f)), .bool (decide (65535 < a + b + f))]]) ∧ Ext w w' := by
  have HO := Lib.hid (plus_over a b f h0 h1 h2 h3 h4 h5)
  have HH := Lib.hid (plus_half a b f h0 h1 h2 h3 h4 h5)
  go_enter Tryz.func168, Tryz.ntmps168
  go_wp2_with (go_at_call 186; rw [HO.out.1]; refine (wover_any _ _).mono ?_; rintro e w' ⟨rfl, rfl⟩)
  refine bodyPost_ret (v := .tuple #[.int .u16 (IntKind.u16.wrap (a + b + f)), .agg #[.bool (decide (4095 < wrap64 (wrap64 (wrap64 (bits BinOp.and IntKind.u16 a 4095) + wrap64 (bits BinOp.and IntKind.u16 b 4095)) + f))), .bool (over16 (s16 a + s16 b + f)), .bool (decide (65535 < a + b + f))]]) (by simp [results, Tryz.results168, go_sem]) rfl ⟨?_, Ext.alloc _ _⟩
  rw [HH.out, IntKind.wrap_u16]
set_option maxHeartbeats 1600000 in
theorem wadd_any (w : World) (a b f : Int) (h0 : 0 ≤ a) (h1 : a < 65536) (h2 : 0 ≤ b) (h3 : b < 65536) (h4 : 0 ≤ f) (h5 : f < 256) : Calls Tryz.prog 120 #[.int .u16 a, .int .u16 b, .int .u8 f] w fun e w' => e = .returned (.tuple #[.int .u16 (wAdd a b f).1, .int .u8 (wAdd a b f).2]) ∧ Ext w w' := by
  go_enter Tryz.func120, Tryz.ntmps120
  go_wp2_with (go_at_call 168; refine (wplus_any _ _ _ _ h0 h1 h2 h3 (by omega) (by omega)).mono ?_; rintro e w1 ⟨rfl, hx⟩)
  go_region_with (first | (go_at_call 128; refine (hi_any _ _ (by omega) (by omega)).mono ?_; rintro e w' ⟨rfl, rfl⟩) | (go_at_call 169; refine (flags_any _ _ _ _).mono ?_; rintro e w2 ⟨rfl, hx2⟩))
  all_goals
    go_wp2
    go_ret2
    exact ⟨ret_ii rfl rfl, by repeat (first | assumption | exact Ext.refl _ | refine Ext.drew' ?_ | refine Ext.alloc' ?_ _ | refine Ext.trans ?_ (by assumption))⟩
theorem plus_any3 (w : World) (a b f : Int) (h0 : 0 ≤ a) (h1 : a < 65536) (h2 : 0 ≤ b) (h3 : b < 65536) (h4 : 0 ≤ f) (h5 : f < 256) : Calls Tryz.prog 133 #[.int .u16 a, .int .u16 b, .int .u8 f] w fun e w' => e = .returned (.tuple #[.int .u16 (wAdc a b f).1, .int .u8 (wAdc a b f).2]) ∧ Ext w w' := by
  go_enter Tryz.func133, Tryz.ntmps133
  go_wp2_with (first | (go_at_call 185; refine (carry_any _ _ h4 h5).mono ?_; rintro e w' ⟨rfl, rfl⟩) | (go_at_call 168; refine (wplus_any _ _ _ _ h0 h1 h2 h3 (by omega) (by omega)).mono ?_; rintro e w1 ⟨rfl, hx⟩))
  go_region_with (first | (go_at_call 187; refine (wall_any _ _ (by omega) (by omega)).mono ?_; rintro e w' ⟨rfl, rfl⟩) | (go_at_call 169; refine (flags_any _ _ _ _).mono ?_; rintro e w2 ⟨rfl, hx2⟩))
  all_goals
    go_wp2
    go_ret2
    exact ⟨ret_ii rfl rfl, by repeat (first | assumption | exact Ext.refl _ | refine Ext.drew' ?_ | refine Ext.alloc' ?_ _ | refine Ext.trans ?_ (by assumption))⟩
set_option maxHeartbeats 1600000 in
theorem sbc_any (w : World) (a b f : Int) (h0 : 0 ≤ a) (h1 : a < 65536) (h2 : 0 ≤ b) (h3 : b < 65536) (h4 : 0 ≤ f) (h5 : f < 256) : Calls Tryz.prog 132 #[.int .u16 a, .int .u16 b, .int .u8 f] w fun e w' => e = .returned (.tuple #[.int .u16 (wSbc a b f).1, .int .u8 (wSbc a b f).2]) ∧ Ext w w' := by
  have HO := Lib.hid (plus_over a b (f % 2) h0 h1 h2 h3 (by omega) (by omega))
  have HH := Lib.hid (less_half a b (f % 2) h0 h1 h2 h3 (by omega) (by omega))
  go_enter Tryz.func132, Tryz.ntmps132
  go_wp2_with (first | (go_at_call 185; refine (carry_any _ _ h4 h5).mono ?_; rintro e w' ⟨rfl, rfl⟩) | (go_at_call 186; rw [HO.out.2]; refine (wover_any _ _).mono ?_; rintro e w' ⟨rfl, rfl⟩))
  rw [HH.out, IntKind.wrap_u16]
  go_region_with (first | (go_at_call 187; refine (wall_any _ _ (by omega) (by omega)).mono ?_; rintro e w' ⟨rfl, rfl⟩) | (go_at_call 169; refine (flags_any _ _ _ _).mono ?_; rintro e w2 ⟨rfl, hx2⟩))
  all_goals
    go_wp2
    go_ret2
    exact ⟨ret_ii rfl rfl, by repeat (first | assumption | exact Ext.refl _ | refine Ext.drew' ?_ | refine Ext.alloc' ?_ _ | refine Ext.trans ?_ (by assumption))⟩
end Go.Proofs.YtneganpbamemmaaGreat
