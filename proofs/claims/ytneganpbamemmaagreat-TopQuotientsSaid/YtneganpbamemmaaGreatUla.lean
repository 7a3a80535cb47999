/- The times of a frame. -/
import Derived.Test.YtneganpbamemmaaGreatLeaf
import Derived.Test.YtneganpbamemmaaGreatPlainA
set_option linter.unusedVariables false
set_option linter.unusedSimpArgs false
set_option linter.unusedSectionVars false
namespace Go.Proofs.YtneganpbamemmaaGreat
open Go Go.RowKit Sq

theorem frame_in (w : World) (t : Int) (h0 : 0 ≤ t) (h1 : t < 69888) : Calls Tryz.prog 48 #[.int .i64 t] w fun e w' => e = .returned (.int .i64 t) ∧ w = w' := by
  have e : t % 69888 = t := by omega
  have H := Lib.hid e
  clear e
  go_enter Tryz.func48, Tryz.ntmps48
  go_wp2
  go_ret
  exact ⟨ret_int H.out, rfl⟩
theorem within_lt (w : World) (t f : Int) (h0 : 0 ≤ t) (h1 : t < 69888) (f1 : f ≤ 20000) (h : t < f) : Calls Tryz.prog 63 #[.int .i64 t, .int .i64 f] w fun e w' => e = .returned (.tuple #[.int .i64 0, .int .i64 0, .bool false]) ∧ w = w' := by
  have ht : t - f < 0 := by omega
  go_enter Tryz.func63, Tryz.ntmps63
  go_wp2_with (go_at_call 48; refine (frame_in _ _ h0 h1).mono ?_; rintro e w' ⟨rfl, rfl⟩)
  go_ret3
  exact ⟨rfl, rfl⟩
theorem within_far (w : World) (t f : Int) (h0 : 0 ≤ t) (h1 : t < 69888) (f0 : 0 ≤ f) (f1 : f ≤ 20000) (h : f ≤ t) (hl : 192 ≤ (t - f) / 224) : Calls Tryz.prog 63 #[.int .i64 t, .int .i64 f] w fun e w' => e = .returned (.tuple #[.int .i64 ((t - f) / 224), .int .i64 ((t - f) % 224), .bool false]) ∧ w = w' := by
  go_enter Tryz.func63, Tryz.ntmps63
  go_wp2_with (go_at_call 48; refine (frame_in _ _ h0 h1).mono ?_; rintro e w' ⟨rfl, rfl⟩)
  go_ret3
  exact ⟨rfl, rfl⟩
theorem within_by (w : World) (t f : Int) (h0 : 0 ≤ t) (h1 : t < 69888) (f0 : 0 ≤ f) (f1 : f ≤ 20000) (h : f ≤ t) (hl : (t - f) / 224 < 192) (ha : 128 ≤ (t - f) % 224) : Calls Tryz.prog 63 #[.int .i64 t, .int .i64 f] w fun e w' => e = .returned (.tuple #[.int .i64 ((t - f) / 224), .int .i64 ((t - f) % 224), .bool false]) ∧ w = w' := by
  go_enter Tryz.func63, Tryz.ntmps63
  go_wp2_with (go_at_call 48; refine (frame_in _ _ h0 h1).mono ?_; rintro e w' ⟨rfl, rfl⟩)
  go_ret3
  refine ⟨?_, rfl⟩
  show Ending.returned (.tuple #[.int .i64 ((t - f) / 224), .int .i64 ((t - f) % 224), .bool (decide ((t - f) % 224 < 128))]) = _
  rw [show decide ((t - f) % 224 < 128) = false by simp; omega]
theorem within_on (w : World) (t f : Int) (h0 : 0 ≤ t) (h1 : t < 69888) (f0 : 0 ≤ f) (f1 : f ≤ 20000) (h : f ≤ t) (hl : (t - f) / 224 < 192) (ha : (t - f) % 224 < 128) : Calls Tryz.prog 63 #[.int .i64 t, .int .i64 f] w fun e w' => e = .returned (.tuple #[.int .i64 ((t - f) / 224), .int .i64 ((t - f) % 224), .bool true]) ∧ w = w' := by
  go_enter Tryz.func63, Tryz.ntmps63
  go_wp2_with (go_at_call 48; refine (frame_in _ _ h0 h1).mono ?_; rintro e w' ⟨rfl, rfl⟩)
  go_ret3
  exact ⟨rfl, rfl⟩
theorem within_off (w : World) (t f : Int) (h0 : 0 ≤ t) (h1 : t < 69888) (f0 : 0 ≤ f) (f1 : f ≤ 20000) (h : ¬ (f ≤ t ∧ (t - f) / 224 < 192 ∧ (t - f) % 224 < 128)) : Calls Tryz.prog 63 #[.int .i64 t, .int .i64 f] w fun e w' => (∃ l a : Int, 0 ≤ l ∧ l ≤ 1000 ∧ 0 ≤ a ∧ a ≤ 1000 ∧ e = .returned (.tuple #[.int .i64 l, .int .i64 a, .bool false])) ∧ w = w' := by
  by_cases k : f ≤ t
  · by_cases k2 : (t - f) / 224 < 192
    · exact (within_by w t f h0 h1 f0 f1 k k2 (by omega)).mono fun e w' ⟨he, hw⟩ => ⟨⟨_, _, by omega, by omega, by omega, by omega, he⟩, hw⟩
    · exact (within_far w t f h0 h1 f0 f1 k (by omega)).mono fun e w' ⟨he, hw⟩ => ⟨⟨_, _, by omega, by omega, by omega, by omega, he⟩, hw⟩
  · exact (within_lt w t f h0 h1 f1 (by omega)).mono fun e w' ⟨he, hw⟩ => ⟨⟨_, _, by omega, by omega, by omega, by omega, he⟩, hw⟩
set_option maxRecDepth 20000 in
theorem wait_on_0 (w : World) (t : Int) (h0 : 0 ≤ t) (h1 : t < 69888) (h : 14335 ≤ t) (hl : (t - 14335) / 224 < 192) (ha : (t - 14335) % 224 < 128) (hk : (t - 14335) % 224 % 8 = 0) : Calls Tryz.prog 291 #[.int .i64 t] w fun e w' => e = .returned (.int .i64 6) ∧ w = w' := by
  have H := Lib.hid (within_on w t 14335 h0 h1 (by omega) (by omega) h hl ha)
  have hk2 : (t - 14335) % 8 = 0 := by omega
  clear hl h h0 h1
  have hi : ∀ w, (Instr.index 322 (.agg #[.int .i64 6, .int .i64 5, .int .i64 4, .int .i64 3, .int .i64 2, .int .i64 1, .int .i64 0, .int .i64 0]) (.int .i64 0)).run Tryz.prog w = .ok (.int .i64 6) w := fun _ => by kernel_rfl
  go_enter Tryz.func291, Tryz.ntmps291
  go_wp2_with (go_at_call 63; refine H.out.mono ?_; rintro e w' ⟨rfl, rfl⟩)
  go_ret
  exact ⟨rfl, rfl⟩
set_option maxRecDepth 20000 in
theorem wait_on_1 (w : World) (t : Int) (h0 : 0 ≤ t) (h1 : t < 69888) (h : 14335 ≤ t) (hl : (t - 14335) / 224 < 192) (ha : (t - 14335) % 224 < 128) (hk : (t - 14335) % 224 % 8 = 1) : Calls Tryz.prog 291 #[.int .i64 t] w fun e w' => e = .returned (.int .i64 5) ∧ w = w' := by
  have H := Lib.hid (within_on w t 14335 h0 h1 (by omega) (by omega) h hl ha)
  have hk2 : (t - 14335) % 8 = 1 := by omega
  clear hl h h0 h1
  have hi : ∀ w, (Instr.index 322 (.agg #[.int .i64 6, .int .i64 5, .int .i64 4, .int .i64 3, .int .i64 2, .int .i64 1, .int .i64 0, .int .i64 0]) (.int .i64 1)).run Tryz.prog w = .ok (.int .i64 5) w := fun _ => by kernel_rfl
  go_enter Tryz.func291, Tryz.ntmps291
  go_wp2_with (go_at_call 63; refine H.out.mono ?_; rintro e w' ⟨rfl, rfl⟩)
  go_ret
  exact ⟨rfl, rfl⟩
set_option maxRecDepth 20000 in
theorem wait_on_2 (w : World) (t : Int) (h0 : 0 ≤ t) (h1 : t < 69888) (h : 14335 ≤ t) (hl : (t - 14335) / 224 < 192) (ha : (t - 14335) % 224 < 128) (hk : (t - 14335) % 224 % 8 = 2) : Calls Tryz.prog 291 #[.int .i64 t] w fun e w' => e = .returned (.int .i64 4) ∧ w = w' := by
  have H := Lib.hid (within_on w t 14335 h0 h1 (by omega) (by omega) h hl ha)
  have hk2 : (t - 14335) % 8 = 2 := by omega
  clear hl h h0 h1
  have hi : ∀ w, (Instr.index 322 (.agg #[.int .i64 6, .int .i64 5, .int .i64 4, .int .i64 3, .int .i64 2, .int .i64 1, .int .i64 0, .int .i64 0]) (.int .i64 2)).run Tryz.prog w = .ok (.int .i64 4) w := fun _ => by kernel_rfl
  go_enter Tryz.func291, Tryz.ntmps291
  go_wp2_with (go_at_call 63; refine H.out.mono ?_; rintro e w' ⟨rfl, rfl⟩)
  go_ret
  exact ⟨rfl, rfl⟩
set_option maxRecDepth 20000 in
theorem wait_on_3 (w : World) (t : Int) (h0 : 0 ≤ t) (h1 : t < 69888) (h : 14335 ≤ t) (hl : (t - 14335) / 224 < 192) (ha : (t - 14335) % 224 < 128) (hk : (t - 14335) % 224 % 8 = 3) : Calls Tryz.prog 291 #[.int .i64 t] w fun e w' => e = .returned (.int .i64 3) ∧ w = w' := by
  have H := Lib.hid (within_on w t 14335 h0 h1 (by omega) (by omega) h hl ha)
  have hk2 : (t - 14335) % 8 = 3 := by omega
  clear hl h h0 h1
  have hi : ∀ w, (Instr.index 322 (.agg #[.int .i64 6, .int .i64 5, .int .i64 4, .int .i64 3, .int .i64 2, .int .i64 1, .int .i64 0, .int .i64 0]) (.int .i64 3)).run Tryz.prog w = .ok (.int .i64 3) w := fun _ => by kernel_rfl
  go_enter Tryz.func291, Tryz.ntmps291
  go_wp2_with (go_at_call 63; refine H.out.mono ?_; rintro e w' ⟨rfl, rfl⟩)
  go_ret
  exact ⟨rfl, rfl⟩
set_option maxRecDepth 20000 in
theorem wait_on_4 (w : World) (t : Int) (h0 : 0 ≤ t) (h1 : t < 69888) (h : 14335 ≤ t) (hl : (t - 14335) / 224 < 192) (ha : (t - 14335) % 224 < 128) (hk : (t - 14335) % 224 % 8 = 4) : Calls Tryz.prog 291 #[.int .i64 t] w fun e w' => e = .returned (.int .i64 2) ∧ w = w' := by
  have H := Lib.hid (within_on w t 14335 h0 h1 (by omega) (by omega) h hl ha)
  have hk2 : (t - 14335) % 8 = 4 := by omega
  clear hl h h0 h1
  have hi : ∀ w, (Instr.index 322 (.agg #[.int .i64 6, .int .i64 5, .int .i64 4, .int .i64 3, .int .i64 2, .int .i64 1, .int .i64 0, .int .i64 0]) (.int .i64 4)).run Tryz.prog w = .ok (.int .i64 2) w := fun _ => by kernel_rfl
  go_enter Tryz.func291, Tryz.ntmps291
  go_wp2_with (go_at_call 63; refine H.out.mono ?_; rintro e w' ⟨rfl, rfl⟩)
  go_ret
  exact ⟨rfl, rfl⟩
set_option maxRecDepth 20000 in
theorem wait_on_5 (w : World) (t : Int) (h0 : 0 ≤ t) (h1 : t < 69888) (h : 14335 ≤ t) (hl : (t - 14335) / 224 < 192) (ha : (t - 14335) % 224 < 128) (hk : (t - 14335) % 224 % 8 = 5) : Calls Tryz.prog 291 #[.int .i64 t] w fun e w' => e = .returned (.int .i64 1) ∧ w = w' := by
  have H := Lib.hid (within_on w t 14335 h0 h1 (by omega) (by omega) h hl ha)
  have hk2 : (t - 14335) % 8 = 5 := by omega
  clear hl h h0 h1
  have hi : ∀ w, (Instr.index 322 (.agg #[.int .i64 6, .int .i64 5, .int .i64 4, .int .i64 3, .int .i64 2, .int .i64 1, .int .i64 0, .int .i64 0]) (.int .i64 5)).run Tryz.prog w = .ok (.int .i64 1) w := fun _ => by kernel_rfl
  go_enter Tryz.func291, Tryz.ntmps291
  go_wp2_with (go_at_call 63; refine H.out.mono ?_; rintro e w' ⟨rfl, rfl⟩)
  go_ret
  exact ⟨rfl, rfl⟩
set_option maxRecDepth 20000 in
theorem wait_on_6 (w : World) (t : Int) (h0 : 0 ≤ t) (h1 : t < 69888) (h : 14335 ≤ t) (hl : (t - 14335) / 224 < 192) (ha : (t - 14335) % 224 < 128) (hk : (t - 14335) % 224 % 8 = 6) : Calls Tryz.prog 291 #[.int .i64 t] w fun e w' => e = .returned (.int .i64 0) ∧ w = w' := by
  have H := Lib.hid (within_on w t 14335 h0 h1 (by omega) (by omega) h hl ha)
  have hk2 : (t - 14335) % 8 = 6 := by omega
  clear hl h h0 h1
  have hi : ∀ w, (Instr.index 322 (.agg #[.int .i64 6, .int .i64 5, .int .i64 4, .int .i64 3, .int .i64 2, .int .i64 1, .int .i64 0, .int .i64 0]) (.int .i64 6)).run Tryz.prog w = .ok (.int .i64 0) w := fun _ => by kernel_rfl
  go_enter Tryz.func291, Tryz.ntmps291
  go_wp2_with (go_at_call 63; refine H.out.mono ?_; rintro e w' ⟨rfl, rfl⟩)
  go_ret
  exact ⟨rfl, rfl⟩
set_option maxRecDepth 20000 in
theorem wait_on_7 (w : World) (t : Int) (h0 : 0 ≤ t) (h1 : t < 69888) (h : 14335 ≤ t) (hl : (t - 14335) / 224 < 192) (ha : (t - 14335) % 224 < 128) (hk : (t - 14335) % 224 % 8 = 7) : Calls Tryz.prog 291 #[.int .i64 t] w fun e w' => e = .returned (.int .i64 0) ∧ w = w' := by
  have H := Lib.hid (within_on w t 14335 h0 h1 (by omega) (by omega) h hl ha)
  have hk2 : (t - 14335) % 8 = 7 := by omega
  clear hl h h0 h1
  have hi : ∀ w, (Instr.index 322 (.agg #[.int .i64 6, .int .i64 5, .int .i64 4, .int .i64 3, .int .i64 2, .int .i64 1, .int .i64 0, .int .i64 0]) (.int .i64 7)).run Tryz.prog w = .ok (.int .i64 0) w := fun _ => by kernel_rfl
  go_enter Tryz.func291, Tryz.ntmps291
  go_wp2_with (go_at_call 63; refine H.out.mono ?_; rintro e w' ⟨rfl, rfl⟩)
  go_ret
  exact ⟨rfl, rfl⟩
theorem uwait_any (w : World) (t : Int) (h0 : 0 ≤ t) (h1 : t < 69888) : Calls Tryz.prog 291 #[.int .i64 t] w fun e w' => e = .returned (.int .i64 (waitT t)) ∧ w = w' := by
  by_cases h : 14335 ≤ t ∧ (t - 14335) / 224 < 192 ∧ (t - 14335) % 224 < 128
  · have hb : 0 ≤ (t - 14335) % 224 % 8 ∧ (t - 14335) % 224 % 8 < 8 := by omega
    have hw : waitT t = if (t - 14335) % 224 % 8 < 6 then 6 - (t - 14335) % 224 % 8 else 0 := by unfold waitT; rw [if_pos h]
    rw [hw]
    generalize hk : (t - 14335) % 224 % 8 = k at hb
    rcases (by omega : k = 0 ∨ k = 1 ∨ k = 2 ∨ k = 3 ∨ k = 4 ∨ k = 5 ∨ k = 6 ∨ k = 7) with rfl | rfl | rfl | rfl | rfl | rfl | rfl | rfl
    · exact wait_on_0 w t h0 h1 h.1 h.2.1 h.2.2 hk
    · exact wait_on_1 w t h0 h1 h.1 h.2.1 h.2.2 hk
    · exact wait_on_2 w t h0 h1 h.1 h.2.1 h.2.2 hk
    · exact wait_on_3 w t h0 h1 h.1 h.2.1 h.2.2 hk
    · exact wait_on_4 w t h0 h1 h.1 h.2.1 h.2.2 hk
    · exact wait_on_5 w t h0 h1 h.1 h.2.1 h.2.2 hk
    · exact wait_on_6 w t h0 h1 h.1 h.2.1 h.2.2 hk
    · exact wait_on_7 w t h0 h1 h.1 h.2.1 h.2.2 hk
  · have H := Lib.hid (within_off w t 14335 h0 h1 (by omega) (by omega) h)
    have HW := Lib.hid (show waitT t = 0 from by unfold waitT; rw [if_neg h])
    clear h
    go_enter Tryz.func291, Tryz.ntmps291
    go_wp2_with (go_at_call 63; refine H.out.mono ?_; rintro e w' ⟨⟨l, a, l0, l1, a0, a1, rfl⟩, rfl⟩)
    go_ret
    exact ⟨ret_int HW.out.symm, rfl⟩
theorem slow_any (w : World) (a : Int) (h0 : 0 ≤ a) (h1 : a < 65536) : Calls Tryz.prog 289 #[.int .u16 a] w fun e w' => e = .returned (.bool (slowA a)) ∧ w = w' := by
  by_cases h : 16384 ≤ a
  · have H := Lib.hid (show slowA a = decide (a < 32768) by unfold slowA; simp [h])
    go_enter Tryz.func289, Tryz.ntmps289
    go_wp2
    all_goals
      go_ret
      exact ⟨ret_bool H.out.symm, rfl⟩
  · have h' : a < 16384 := by omega
    have H := Lib.hid (show slowA a = false by unfold slowA; simp [h])
    clear h
    go_enter Tryz.func289, Tryz.ntmps289
    go_wp2
    go_ret
    exact ⟨ret_bool H.out.symm, rfl⟩
def holdV (kind a k t : Int) : Int := if slowA a = true ∧ (kind = 4 ∨ k = 0) then waitT t else 0
theorem hold_any (w : World) (kind a k t : Int) (hk : kind = 0 ∨ kind = 1 ∨ kind = 2 ∨ kind = 4) (h0 : 0 ≤ a) (h1 : a < 65536) (t0 : 0 ≤ t) (t1 : t < 69888) : Calls Tryz.prog 285 #[.int .i64 kind, .int .u16 a, .int .i64 k, .int .i64 t] w fun e w' => e = .returned (.int .i64 (holdV kind a k t)) ∧ w = w' := by
  have HA := Lib.hid (slow_any w a h0 h1)
  have HT := Lib.hid (uwait_any w t t0 t1)
  cases hs : slowA a
  · have HS := Lib.hid hs
    have HV := Lib.hid (show holdV kind a k t = 0 by unfold holdV; rw [if_neg]; rw [hs]; rintro ⟨h, _⟩; cases h)
    clear hs
    rcases hk with rfl | rfl | rfl | rfl
    all_goals
      go_enter Tryz.func285, Tryz.ntmps285
      go_wp2_with (go_at_call 289; refine HA.out.mono ?_; rintro e w' ⟨rfl, rfl⟩; rw [HS.out])
      go_ret
      exact ⟨ret_int HV.out.symm, rfl⟩
  · have HS := Lib.hid hs
    by_cases hd : kind = 4 ∨ k = 0
    · have HV := Lib.hid (show holdV kind a k t = waitT t by unfold holdV; rw [if_pos ⟨hs, hd⟩])
      clear hs
      by_cases k0 : k = 0
      · subst k0
        clear hd
        rcases hk with rfl | rfl | rfl | rfl
        all_goals
          go_enter Tryz.func285, Tryz.ntmps285
          go_wp2_with (first | (go_at_call 289; refine HA.out.mono ?_; rintro e w' ⟨rfl, rfl⟩; rw [HS.out]) | (go_at_call 291; refine HT.out.mono ?_; rintro e w' ⟨rfl, rfl⟩))
          go_ret
          exact ⟨ret_int HV.out.symm, rfl⟩
      · obtain rfl : kind = 4 := by omega
        clear hd hk k0
        go_enter Tryz.func285, Tryz.ntmps285
        go_wp2_with (first | (go_at_call 289; refine HA.out.mono ?_; rintro e w' ⟨rfl, rfl⟩; rw [HS.out]) | (go_at_call 291; refine HT.out.mono ?_; rintro e w' ⟨rfl, rfl⟩))
        go_ret
        exact ⟨ret_int HV.out.symm, rfl⟩
    · have HV := Lib.hid (show holdV kind a k t = 0 by unfold holdV; rw [if_neg (fun h => hd h.2)])
      have k1 : (k == 0) = false := by simp; omega
      clear hs
      have hk : kind = 0 ∨ kind = 1 ∨ kind = 2 := by omega
      clear hd
      rcases hk with rfl | rfl | rfl
      all_goals
        go_enter Tryz.func285, Tryz.ntmps285
        go_wp2_with (first | (go_at_call 289; refine HA.out.mono ?_; rintro e w' ⟨rfl, rfl⟩; rw [HS.out]) | (go_at_call 291; refine HT.out.mono ?_; rintro e w' ⟨rfl, rfl⟩))
        go_ret
        exact ⟨ret_int HV.out.symm, rfl⟩
theorem cell_on (w : World) (t : Int) (h0 : 0 ≤ t) (h1 : t < 69888) (h : cellOk t = true) : Calls Tryz.prog 52 #[.int .i64 t] w fun e w' => e = .returned (.tuple #[.int .i64 (cellL t), .int .i64 (cellC t), .int .i64 (cellH t), .bool true]) ∧ w = w' := by
  unfold cellOk at h
  simp only [Bool.and_eq_true, decide_eq_true_eq] at h
  obtain ⟨⟨⟨a1, a2⟩, a3⟩, a4⟩ := h
  have H := Lib.hid (within_on w t 14338 h0 h1 (by omega) (by omega) a1 a2 a3)
  go_enter Tryz.func52, Tryz.ntmps52
  go_wp2_with (go_at_call 63; refine H.out.mono ?_; rintro e w' ⟨rfl, rfl⟩)
  exact bodyPost_ret (v := .tuple #[.int .i64 (cellL t), .int .i64 (cellC t), .int .i64 (cellH t), .bool true]) (by simp [results, Tryz.results52, go_sem, cellL, cellC, cellH]) rfl ⟨rfl, rfl⟩
theorem cell_off (w : World) (t : Int) (h0 : 0 ≤ t) (h1 : t < 69888) (h : cellOk t = false) : Calls Tryz.prog 52 #[.int .i64 t] w fun e w' => e = .returned (.tuple #[.int .i64 0, .int .i64 0, .int .i64 0, .bool false]) ∧ w = w' := by
  unfold cellOk at h
  by_cases a : 14338 ≤ t ∧ (t - 14338) / 224 < 192 ∧ (t - 14338) % 224 < 128
  · obtain ⟨a1, a2, a3⟩ := a
    have a4 : 3 < (t - 14338) % 224 % 8 := by simp [a1, a2, a3] at h; omega
    have H := Lib.hid (within_on w t 14338 h0 h1 (by omega) (by omega) a1 a2 a3)
    clear h
    go_enter Tryz.func52, Tryz.ntmps52
    go_wp2_with (go_at_call 63; refine H.out.mono ?_; rintro e w' ⟨rfl, rfl⟩)
    exact bodyPost_ret (v := .tuple #[.int .i64 0, .int .i64 0, .int .i64 0, .bool false]) (by simp [results, Tryz.results52, go_sem]) rfl ⟨rfl, rfl⟩
  · have H := Lib.hid (within_off w t 14338 h0 h1 (by omega) (by omega) a)
    clear h a
    go_enter Tryz.func52, Tryz.ntmps52
    go_wp2_with (go_at_call 63; refine H.out.mono ?_; rintro e w' ⟨⟨l, a, l0, l1, a0, a1, rfl⟩, rfl⟩)
    exact bodyPost_ret (v := .tuple #[.int .i64 0, .int .i64 0, .int .i64 0, .bool false]) (by simp [results, Tryz.results52, go_sem]) rfl ⟨rfl, rfl⟩
theorem place_off (w : World) (t : Int) (h0 : 0 ≤ t) (h1 : t < 69888) (h : cellOk t = false) : Calls Tryz.prog 46 #[.int .i64 t] w fun e w' => e = .returned (.tuple #[.int .i64 0, .bool false]) ∧ w = w' := by
  have H := Lib.hid (cell_off w t h0 h1 h)
  clear h
  go_enter Tryz.func46, Tryz.ntmps46
  go_wp2_with (go_at_call 52; refine H.out.mono ?_; rintro e w' ⟨rfl, rfl⟩)
  go_ret2
  exact ⟨rfl, rfl⟩
theorem cell_bd {t : Int} (h : cellOk t = true) : (0 ≤ cellL t ∧ cellL t < 192) ∧ (0 ≤ cellC t ∧ cellC t < 32) ∧ (0 ≤ cellH t ∧ cellH t < 2) := by
  unfold cellOk at h
  simp only [Bool.and_eq_true, decide_eq_true_eq] at h
  unfold cellL cellC cellH
  omega
theorem place_on (w : World) (t : Int) (h0 : 0 ≤ t) (h1 : t < 69888) (h : cellOk t = true) : Calls Tryz.prog 46 #[.int .i64 t] w fun e w' => e = .returned (.tuple #[.int .i64 (seenAt t), .bool true]) ∧ w = w' := by
  have H := Lib.hid (cell_on w t h0 h1 h)
  obtain ⟨⟨l0, l1⟩, ⟨c0, c1⟩, ⟨x0, x1⟩⟩ := cell_bd h
  clear h
  go_enter Tryz.func46, Tryz.ntmps46
  go_wp2_with (go_at_call 52; refine H.out.mono ?_; rintro e w' ⟨rfl, rfl⟩)
  go_ret2
  exact ⟨rfl, rfl⟩
theorem on_any (w : World) (l c : Int) (l0 : 0 ≤ l) (l1 : l < 192) (c0 : 0 ≤ c) (c1 : c < 32) : Calls Tryz.prog 64 #[.int .i64 l, .int .i64 c] w fun e w' => e = .returned (.bool true) ∧ w = w' := by
  go_enter Tryz.func64, Tryz.ntmps64
  go_wp2
  go_ret
  exact ⟨rfl, rfl⟩
theorem colours_any (w : World) (l c : Int) (l0 : 0 ≤ l) (l1 : l < 192) (c0 : 0 ≤ c) (c1 : c < 32) : Calls Tryz.prog 54 #[.int .i64 l, .int .i64 c] w fun e w' => e = .returned (.tuple #[.int .u16 (colA l c), .bool true]) ∧ w = w' := by
  have he : IntKind.u16.wrap (22528 + l / 8 * 32 + c) = 22528 + l / 8 * 32 + c := by
    have h : ∀ x : Int, IntKind.u16.wrap x = x % 65536 := fun _ => rfl
    rw [h]; omega
  have HE := Lib.hid he
  clear he
  go_enter Tryz.func54, Tryz.ntmps54
  go_wp2_with (go_at_call 64; refine (on_any _ _ _ l0 l1 c0 c1).mono ?_; rintro e w' ⟨rfl, rfl⟩)
  go_ret2
  exact ⟨rfl, rfl⟩
theorem pix_fin : ∀ l : Fin 192, ∀ c : Fin 32, IntKind.u16.wrap (bits .or .i64 (bits .or .i64 (bits .or .i64 (bits .or .i64 16384 ((l.val : Int) / 64 * 2048)) (wrap64 (bits .and .i64 (l.val : Int) 7 * 256))) (wrap64 (bits .and .i64 ((l.val : Int) / 8) 7 * 32))) (c.val : Int)) = pixA l.val c.val := by decide +kernel
theorem pixels_any (w : World) (l c : Int) (l0 : 0 ≤ l) (l1 : l < 192) (c0 : 0 ≤ c) (c1 : c < 32) : Calls Tryz.prog 53 #[.int .i64 l, .int .i64 c] w fun e w' => e = .returned (.tuple #[.int .u16 (pixA l c), .bool true]) ∧ w = w' := by
  have hp := pix_fin ⟨l.toNat, by omega⟩ ⟨c.toNat, by omega⟩
  dsimp only at hp
  rw [show ((l.toNat : Nat) : Int) = l from by omega, show ((c.toNat : Nat) : Int) = c from by omega] at hp
  have HP := Lib.hid hp
  clear hp
  go_enter Tryz.func53, Tryz.ntmps53
  go_wp2_with (go_at_call 64; refine (on_any _ _ _ l0 l1 c0 c1).mono ?_; rintro e w' ⟨rfl, rfl⟩)
  exact bodyPost_ret (v := .tuple #[.int .u16 (pixA l c), .bool true]) (by simp [results, Tryz.results53, go_sem, HP.out]) rfl ⟨rfl, rfl⟩
theorem fetched_on (w : World) (t : Int) (h0 : 0 ≤ t) (h1 : t < 69888) (h : cellOk t = true) : Calls Tryz.prog 47 #[.int .i64 t] w fun e w' => e = .returned (.tuple #[.int .u16 (fetchA t), .bool true]) ∧ w = w' := by
  have H := Lib.hid (cell_on w t h0 h1 h)
  obtain ⟨⟨l0, l1⟩, ⟨c0, c1⟩, ⟨x0, x1⟩⟩ := cell_bd h
  clear h
  have HP := Lib.hid (pixels_any w (cellL t) (cellC t) l0 l1 c0 c1)
  have HC := Lib.hid (colours_any w (cellL t) (cellC t) l0 l1 c0 c1)
  by_cases hh : cellH t = 0
  · have e1 : (cellH t == 0) = true := by simpa using hh
    have HF := Lib.hid (show fetchA t = pixA (cellL t) (cellC t) from if_pos hh)
    clear hh
    go_enter Tryz.func47, Tryz.ntmps47
    go_wp2_with (first | (go_at_call 52; refine H.out.mono ?_; rintro e w' ⟨rfl, rfl⟩) | (go_at_call 53; refine HP.out.mono ?_; rintro e w' ⟨rfl, rfl⟩))
    go_ret2
    exact ⟨by rw [HF.out]; rfl, rfl⟩
  · have e1 : (cellH t == 0) = false := by simpa using hh
    have HF := Lib.hid (show fetchA t = colA (cellL t) (cellC t) from if_neg hh)
    clear hh
    go_enter Tryz.func47, Tryz.ntmps47
    go_wp2_with (first | (go_at_call 52; refine H.out.mono ?_; rintro e w' ⟨rfl, rfl⟩) | (go_at_call 54; refine HC.out.mono ?_; rintro e w' ⟨rfl, rfl⟩))
    go_ret2
    exact ⟨by rw [HF.out]; rfl, rfl⟩
theorem fetchA_bd {t : Int} (h : cellOk t = true) : 0 ≤ fetchA t ∧ fetchA t < 65536 := by
  obtain ⟨⟨l0, l1⟩, ⟨c0, c1⟩, ⟨x0, x1⟩⟩ := cell_bd h
  unfold fetchA
  split
  · unfold pixA; omega
  · unfold colA; omega
theorem seenAt_bd {t : Int} (h : cellOk t = true) : 0 ≤ seenAt t ∧ seenAt t < 12288 := by
  obtain ⟨⟨l0, l1⟩, ⟨c0, c1⟩, ⟨x0, x1⟩⟩ := cell_bd h
  unfold seenAt; omega
theorem asks_any (w : World) (t : Int) (h0 : 0 ≤ t) (h1 : t < 69888) : Calls Tryz.prog 288 #[.int .i64 t] w fun e w' => e = .returned (.bool (decide (t < 32))) ∧ w = w' := by
  go_enter Tryz.func288, Tryz.ntmps288
  go_wp2_with (go_at_call 48; refine (frame_in _ _ h0 h1).mono ?_; rintro e w' ⟨rfl, rfl⟩)
  go_ret
  exact ⟨rfl, rfl⟩
end Go.Proofs.YtneganpbamemmaaGreat
