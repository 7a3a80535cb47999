/- The board: its memory, its time. -/
import Derived.Test.YtneganpbamemmaaGreatUla
import Derived.Test.YtneganpbamemmaaGreatLate
import Derived.Test.YtneganpbamemmaaGreatPlainB
set_option linter.unusedVariables false
set_option linter.unusedSimpArgs false
set_option linter.unusedSectionVars false
namespace Go.Proofs.YtneganpbamemmaaGreat
open Go Go.RowKit Sq
attribute [local go_sem] cell_seen set_seen
section
variable {m : Mac} {w : World} (hb : Base m w) (c : Cp) (sl : Nat → Int) (b : Bd)
include hb
theorem bread_any (a : Nat) (ha : a < 65536) : Calls Tryz.prog 35 #[.pointer (some ⟨m.b, 0, none⟩), .int .u16 a] (mk w m c sl b) fun e W => e = .returned (.int .u8 (b.mem a)) ∧ mk w m c sl b = W := by
  go_enter Tryz.func35, Tryz.ntmps35
  go_wp2
  go_ret
  exact ⟨rfl, rfl⟩
set_option maxRecDepth 8000 in
theorem bwrite_any (a : Nat) (ha : a < 65536) (v : Int) : Calls Tryz.prog 36 #[.pointer (some ⟨m.b, 0, none⟩), .int .u16 a, .int .u8 v] (mk w m c sl b) fun e W => e = .returned (.tuple #[]) ∧ mk w m c sl (b.write a v) = W := by
  by_cases h : (16384 : Int) ≤ (a : Int)
  · have HW := Lib.hid (show b.write a v = { b with mem := upd b.mem a v } by unfold Bd.write; rw [if_pos (by omega)]; rfl)
    go_enter Tryz.func36, Tryz.ntmps36
    go_wp2
    go_end0
    rw [HW.out]
    exact ⟨rfl, rfl⟩
  · have HW := Lib.hid (show b.write a v = b by unfold Bd.write; rw [if_neg (by omega)])
    have h1 : decide ((16384 : Int) ≤ (a : Int)) = false := by simpa using h
    clear h
    go_enter Tryz.func36, Tryz.ntmps36
    go_wp2
    go_end0
    rw [HW.out]
    exact ⟨rfl, rfl⟩
theorem bhold_any (kind a k : Int) (hk : kind = 0 ∨ kind = 1 ∨ kind = 2 ∨ kind = 4) (h0 : 0 ≤ a) (h1 : a < 65536) (t0 : 0 ≤ b.frame) (t1 : b.frame < 69888) : Calls Tryz.prog 281 #[.pointer (some ⟨m.b, 0, none⟩), .int .i64 kind, .int .u16 a, .int .i64 k] (mk w m c sl b) fun e W => e = .returned (.int .i64 (b.hold kind a k)) ∧ mk w m c sl b = W := by
  have HH := Lib.hid (fun w' => hold_any w' kind a k b.frame hk h0 h1 t0 t1)
  clear hk
  by_cases hs : b.slow = true
  · have HV := Lib.hid (show b.hold kind a k = holdV kind a k b.frame by unfold Bd.hold holdV; simp [hs])
    go_enter Tryz.func281, Tryz.ntmps281
    go_wp2_with (go_at_call 285; refine (HH.out _).mono ?_; rintro e w' ⟨rfl, rfl⟩)
    go_ret
    exact ⟨ret_int HV.out.symm, rfl⟩
  · have hs : b.slow = false := by simpa using hs
    have HV := Lib.hid (show b.hold kind a k = 0 by unfold Bd.hold; simp [hs])
    go_enter Tryz.func281, Tryz.ntmps281
    go_wp2
    go_ret
    exact ⟨ret_int HV.out.symm, rfl⟩
theorem bint_any (t0 : 0 ≤ b.frame) (t1 : b.frame < 69888) : Calls Tryz.prog 283 #[.pointer (some ⟨m.b, 0, none⟩)] (mk w m c sl b) fun e W => e = .returned (.bool (decide (b.frame < 32))) ∧ mk w m c sl b = W := by
  have HH := Lib.hid (fun w' => asks_any w' b.frame t0 t1)
  go_enter Tryz.func283, Tryz.ntmps283
  go_wp2_with (go_at_call 288; refine (HH.out _).mono ?_; rintro e w' ⟨rfl, rfl⟩)
  go_ret
  exact ⟨rfl, rfl⟩
set_option maxRecDepth 8000 in
set_option maxHeartbeats 1000000 in
theorem bnext_any (ho : b.Ok) : Calls Tryz.prog 34 #[.pointer (some ⟨m.b, 0, none⟩)] (mk w m c sl b) fun e W => e = .returned (.tuple #[]) ∧ Lft w m c sl b.next W := by
  obtain ⟨t0, t1⟩ := ho.frame
  have HTT := Lib.hid (show b.next.t = IntKind.u64.wrap (b.t + 1) from rfl)
  by_cases hf : b.frame + 1 = 69888
  · have hf1 : b.frame = 69887 := by omega
    have HF := Lib.hid (show b.next.frame = 0 from if_pos hf)
    have hc : cellOk b.frame = false := by rw [hf1]; decide
    have HS := Lib.hid (show b.next.seen = b.seen from if_neg (by rw [hc]; decide))
    have HP := Lib.hid (fun w' => place_off w' b.frame t0 t1 hc)
    have hf2 : (b.frame + 1 == 69888) = true := by simpa using hf
    clear hf hc hf1
    go_enter Tryz.func34, Tryz.ntmps34
    go_wp2_with (go_at_call 46; refine (HP.out _).mono ?_; rintro e w' ⟨rfl, rfl⟩)
    (first | go_end0 | refine bodyPost_ret (results_none rfl _ _ _) rfl ?_)
    refine ⟨rfl, ?_⟩
    rw [show b.next = { b with seen := b.next.seen, t := b.next.t, frame := b.next.frame } from rfl, HTT.out, HF.out, HS.out]
    exact Lft.mk' hb (Ext.refl _)
  · have hf2 : (b.frame + 1 == 69888) = false := by simpa using hf
    have HF := Lib.hid (show b.next.frame = b.frame + 1 from if_neg hf)
    clear hf
    cases hc : cellOk b.frame
    · have HS := Lib.hid (show b.next.seen = b.seen from if_neg (by rw [hc]; decide))
      have HP := Lib.hid (fun w' => place_off w' b.frame t0 t1 hc)
      clear hc
      go_enter Tryz.func34, Tryz.ntmps34
      go_wp2_with (go_at_call 46; refine (HP.out _).mono ?_; rintro e w' ⟨rfl, rfl⟩)
      (first | go_end0 | refine bodyPost_ret (results_none rfl _ _ _) rfl ?_)
      refine ⟨rfl, ?_⟩
      rw [show b.next = { b with seen := b.next.seen, t := b.next.t, frame := b.next.frame } from rfl, HTT.out, HF.out, HS.out]
      exact Lft.mk' hb (Ext.refl _)
    · have HS := Lib.hid (show b.next.seen = upd b.seen (seenAt b.frame).toNat (b.mem (fetchA b.frame).toNat) from if_pos hc)
      have h1 := fetchA_bd hc
      have h2 := seenAt_bd hc
      have HP' := fun w' => place_on w' b.frame t0 t1 hc
      have HQ' := fun w' => fetched_on w' b.frame t0 t1 hc
      obtain ⟨fa, hfa⟩ : ∃ n : Nat, fetchA b.frame = n := ⟨(fetchA b.frame).toNat, by omega⟩
      obtain ⟨sa, hsa⟩ : ∃ n : Nat, seenAt b.frame = n := ⟨(seenAt b.frame).toNat, by omega⟩
      rw [hsa] at HP' h2
      rw [hfa] at HQ' h1
      have hfb : fa < 65536 := by omega
      have hsb : sa < 12288 := by omega
      have hfi : (fa : Int) < 65536 := by omega
      have hsi : (sa : Int) < 12288 := by omega
      have hfj : (0 : Int) ≤ (fa : Int) := by omega
      have hsj : (0 : Int) ≤ (sa : Int) := by omega
      have HP := Lib.hid HP'
      have HQ := Lib.hid HQ'
      have HS2 := Lib.hid (show b.next.seen = upd b.seen sa (b.mem fa) by rw [HS.out, hsa, hfa]; rfl)
      clear hc HP' HQ' hfa hsa HS h1 h2
      go_enter Tryz.func34, Tryz.ntmps34
      go_wp2_with (first | (go_at_call 46; refine (HP.out _).mono ?_; rintro e w' ⟨rfl, rfl⟩) | (go_at_call 47; refine (HQ.out _).mono ?_; rintro e w' ⟨rfl, rfl⟩))
      go_region
      all_goals
        go_wp2
        (first | go_end0 | refine bodyPost_ret (results_none rfl _ _ _) rfl ?_)
        refine ⟨rfl, ?_⟩
        rw [show b.next = { b with seen := b.next.seen, t := b.next.t, frame := b.next.frame } from rfl, HTT.out, HF.out, HS2.out]
        exact Lft.drew (Lft.mk' hb (Ext.refl _))
end
end Go.Proofs.YtneganpbamemmaaGreat
