/- A machine that is to begin a program. -/
import Derived.Test.YtneganpbamemmaaGreatSmall
import Derived.Deep.Cut
set_option linter.unusedVariables false
set_option linter.unusedSimpArgs false
set_option linter.unusedSectionVars false
namespace Go.Proofs.YtneganpbamemmaaGreat
open Go Go.RowKit Sq
/-- The registers at the program's beginning. -/
def _root_.Sq.Rg.at_ (r : Rg) (x : Spot) : Rg := { r with pc := x.org, sp := 65280 }
/-- The board at the program's beginning. -/
def _root_.Sq.Spot.board (x : Spot) (code : List Int) : Bd := ({ newB (x.phase % 69888) with slow := x.slow } : Bd).pokes x.org code
/-- What it leaves. -/
def Begun (w : World) (x : Spot) (code : List Int) (r : Rg) (e : Ending) (W : World) : Prop :=
  ∃ q m w1, e = .returned (.pointer (some ⟨q, 0, none⟩)) ∧ Ext w w1 ∧ (w.heap.size ≤ m.c ∧ w.heap.size ≤ m.s ∧ w.heap.size ≤ m.b) ∧ m.ts = 115 ∧ Base m w1 ∧ Own m w1 q ∧ W = mk w1 m (newC (r.at_ x)) (fun _ => 0) (x.board code)
section
variable {m : Mac} {w : World} (c : Cp) (sl : Nat → Int) (b : Bd)
theorem old_row {w0 : World} (hx : Ext w0 w) {k : Nat} (hk : k < w0.heap.size) (h : w0.heap.size ≤ m.c ∧ w0.heap.size ≤ m.s ∧ w0.heap.size ≤ m.b) : (mk w m c sl b).heap[k]? = w0.heap[k]? := by
  rw [mk_heap_o (by omega) (by omega) (by omega)]
  exact hx.block k hk
theorem mk_setRow {k : Nat} (h : k ≠ m.c ∧ k ≠ m.s ∧ k ≠ m.b) (A : Array Value) : (mk w m c sl b).setRow k A = mk (w.setRow k A) m c sl b := by
  rw [mk_eq, mk_eq, setRow_comm _ (Ne.symm h.2.2), setRow_comm _ (Ne.symm h.2.1), setRow_comm _ (Ne.symm h.1)]
theorem range_of_row {w : World} {k : Nat} {A : Array Value} {t : TypeId} {s : Nat × Nat} (h : w.heap[k]? = some (.cells A t s)) : w.rangeAt k 0 A.toList := fun j v hv => by
  rw [Nat.zero_add, cell_of_row _ _ _ _ _ _ h, ← Array.getElem?_toList]; exact hv
end
theorem spot_size (x : Spot) : (Tryz.prog.info? 23).map (·.size) = some x.cells.size := by
  show _ = some 3
  kernel_rfl
theorem MNew.two {w : World} {f : Int} {e : Ending} {W : World} (N : Bd) (hN : N = newB f) (h : MNew w f e W) :
    ∃ q m w1, e = .returned (.tuple #[.pointer (some ⟨q, 0, none⟩), .int .i64 0]) ∧ Ext w w1 ∧ (w.heap.size ≤ m.c ∧ w.heap.size ≤ m.s ∧ w.heap.size ≤ m.b) ∧ m.ts = 115 ∧ Base m w1 ∧ Own m w1 q ∧ mk w1 m (newC newG) (fun _ => 0) { N with slow := true } = W := by
  subst hN
  obtain ⟨q, m, h1, h2, h3, h4, h5, h6, h7⟩ := h
  exact ⟨q, m, W, h1, h2, h3, h4, h5, h6, h7.symm⟩
theorem org_mk (x : Spot) {m : Mac} {w : World} (hb : Base m w) (c : Cp) (sl : Nat → Int) (b : Bd) : Calls Tryz.prog 17 #[.agg x.cells] (mk w m c sl b) fun e W => e = .returned (.int .u16 x.org) ∧ Lft w m c sl b W := by
  refine (org_any_ x _).mono ?_
  rintro e W ⟨rfl, rfl⟩
  refine ⟨rfl, ?_⟩
  rw [mk_alloc hb]
  exact Lft.mk' (Base.alloc hb _) (Ext.alloc w _)
theorem Base.set {m : Mac} {w : World} (h : Base m w) {k : Nat} (hk : k ≠ m.c ∧ k ≠ m.s ∧ k ≠ m.b) (A : Array Value) : Base m (w.setRow k A) := by
  obtain ⟨x, hx⟩ := h.hc; obtain ⟨y, hy⟩ := h.hs; obtain ⟨z, hz⟩ := h.hb
  have hs : (w.setRow k A).heap.size = w.heap.size := by unfold World.setRow; simp
  exact ⟨h.cs, h.cb, h.sb, h.ct, h.st, h.bt, by rw [hs]; exact h.le, ⟨x, by rw [setRow_other _ _ _ _ hk.1.symm]; exact hx⟩, ⟨y, by rw [setRow_other _ _ _ _ hk.2.1.symm]; exact hy⟩, ⟨z, by rw [setRow_other _ _ _ _ hk.2.2.symm]; exact hz⟩⟩
theorem Own.set {m : Mac} {w : World} {q : Nat} (h : Own m w q) {k : Nat} (hk : q ≠ k) (A : Array Value) : Own m (w.setRow k A) q :=
  ⟨by have hs : (w.setRow k A).heap.size = w.heap.size := by (unfold World.setRow; simp)
      rw [hs]; exact h.lt, h.nc, h.ns, h.nb, by rw [setRow_other _ _ _ _ hk]; exact h.row⟩
theorem two_sets {m : Mac} {w : World} (c : Cp) (sl : Nat → Int) (b : Bd) {k : Nat} (hk : k ≠ m.c ∧ k ≠ m.s ∧ k ≠ m.b) (x : Spot) (r : Rg) (hr : w.heap[k]? = some (.cells r.cells 31 (0, 0))) :
    ((mk w m c sl b).setCell ⟨k, 22, none⟩ (.int .u16 x.org)).setCell ⟨k, 21, none⟩ (.int .u16 65280) = mk (w.setRow k (r.at_ x).cells) m c sl b := by
  have h : (mk w m c sl b).heap[k]? = some (.cells r.cells 31 (0, 0)) := by rw [mk_heap_o hk.1 hk.2.1 hk.2.2]; exact hr
  rw [setCell_eq_setRow _ _ _ _ _ _ _ h, setCell_eq_setRow _ _ _ _ _ _ _ (setRow_heap _ _ _ _ _ _ h), setRow_setRow, mk_setRow _ _ _ hk]
  rfl
theorem own_ne {w : World} {k q : Nat} {A B : Array Value} (h : w.heap[k]? = some (.cells A 31 (0, 0))) (g : w.heap[q]? = some (.cells B 64 (0, 0))) : q ≠ k := by
  rintro rfl
  rw [h] at g
  simp at g
theorem slow_mk {m : Mac} {w : World} (hb : Base m w) {q : Nat} (hq : Own m w q) (c : Cp) (sl : Nat → Int) (b : Bd) (on : Bool) (B : Bd) (hB : B = { b with slow := on }) : Calls Tryz.prog 29 #[.pointer (some ⟨q, 0, none⟩), .bool on] (mk w m c sl b) fun e W => e = .returned (.tuple #[]) ∧ mk w m c sl B = W := by
  subst hB; exact slow_any_ hb hq c sl b on
theorem poke_mk {m : Mac} {w : World} (hb : Base m w) {q : Nat} (hq : Own m w q) (c : Cp) (sl : Nat → Int) (b : Bd) (a : Nat) (l : List Int) (hl : a + l.length ≤ 65536) (p : Nat) (n1 : p ≠ m.c ∧ p ≠ m.s ∧ p ≠ m.b) (t : TypeId) (hp : w.heap[p]? = some (.cells (l.map (Value.int .u8)).toArray t (0, 0))) (B : Bd) (hB : B = b.pokes a l) : Calls Tryz.prog 22 #[.pointer (some ⟨q, 0, none⟩), .int .u16 a, .slice (some ⟨p, 0, none⟩) l.length l.length] (mk w m c sl b) fun e W => e = .returned (.tuple #[]) ∧ mk w m c sl B = W := by
  subst hB; exact poke_any_ hb hq c sl b a l hl p n1.1 n1.2.1 n1.2.2 t hp
set_option maxRecDepth 8000 in
set_option maxHeartbeats 1000000 in
theorem starts_any (w : World) (x : Spot) (hx : -9223372036854775808 ≤ x.phase ∧ x.phase ≤ 9223372036854775807) (r : Rg) (hr : r.Ok) (o : Nat) (ho : w.heap[o]? = some (.cells romZ 5 (0, 0))) (code : List Int) (hc : code.length ≤ 1000) (p : Nat) (hp : w.heap[p]? = some (.cells (code.map (Value.int .u8)).toArray 5 (0, 0))) :
    Calls Tryz.prog 10 #[.agg x.cells, .slice (some ⟨o, 0, none⟩) 16384 16384, .slice (some ⟨p, 0, none⟩) code.length code.length, .agg r.cells] w (Begun w x code r) := by
  have ho' : o < w.heap.size := (Array.getElem?_eq_some_iff.1 ho).1
  have hp' : p < w.heap.size := (Array.getElem?_eq_some_iff.1 hp).1
  obtain ⟨W2, hW2⟩ : ∃ W2, W2 = (w.alloc (.cells x.cells 23)).alloc (.cells r.cells 31) := ⟨_, rfl⟩
  have HW2 := Lib.hid hW2
  have hx2 : Ext w W2 := by rw [hW2]; exact (Ext.alloc w _).alloc' _
  have sz : W2.heap.size = w.heap.size + 2 := by rw [hW2]; simp
  have e4 : W2.heap[w.heap.size]? = some (.cells x.cells 23 (0, 0)) := by
    rw [hW2, RowKit.Below.heap_alloc _ _ _ (by simp)]; exact heap_alloc_new _ _
  have e7 : W2.heap[w.heap.size + 1]? = some (.cells r.cells 31 (0, 0)) := by
    rw [hW2]; simpa using heap_alloc_new (w.alloc (.cells x.cells 23)) (.cells r.cells 31)
  have c2 : W2.cell? ⟨w.heap.size, 2, none⟩ = some (.int .i64 x.phase) := by rw [cell_of_row _ _ _ _ _ _ e4]; rfl
  have HO := Lib.hid (show W2.heap[o]? = _ from (hx2.block o ho').trans ho)
  have HP := Lib.hid (show W2.heap[p]? = _ from (hx2.block p hp').trans hp)
  have H4 := Lib.hid e4
  have H7 := Lib.hid e7
  have HS := Lib.hid (spot_size x)
  obtain ⟨N, hN⟩ : ∃ N, N = newB (x.phase % 69888) := ⟨_, rfl⟩
  have HN := Lib.hid hN
  obtain ⟨B, hB⟩ : ∃ B, B = ({ N with slow := x.slow } : Bd) := ⟨_, rfl⟩
  obtain ⟨B2, hB2⟩ : ∃ B2, B2 = B.pokes x.org code := ⟨_, rfl⟩
  have HB := Lib.hid hB
  have HB2 := Lib.hid hB2
  have horg := x.org_cases
  have HL := Lib.hid (show x.org + code.length ≤ 65536 by omega)
  have HS2 := Lib.hid (regs_size (r.at_ x))
  have HOk := Lib.hid (show (r.at_ x).Ok from { hr with pc := ⟨Int.natCast_nonneg _, by show (x.org : Int) < 65536; omega⟩, sp := ⟨by show (0 : Int) ≤ 65280; omega, by show (65280 : Int) < 65536; omega⟩ })
  have H5 := Lib.hid (fun (w4 : World) (h : w4.heap[w.heap.size + 1]? = some (.cells r.cells 31 (0, 0))) (m : Mac) (hf1 : W2.heap.size ≤ m.c ∧ W2.heap.size ≤ m.s ∧ W2.heap.size ≤ m.b) => show (mk (w4.setRow (w.heap.size + 1) (r.at_ x).cells) m (newC newG) (fun _ => 0) B2).heap[w.heap.size + 1]? = some (.cells (r.at_ x).cells 31 (0, 0)) from by rw [mk_heap_o (by omega) (by omega) (by omega)]; exact setRow_heap _ _ _ _ _ _ h)
  clear ho hp e4 e7 hN hB hB2 hr
  rw [hW2] at c2
  go_enter Tryz.func10, Tryz.ntmps10
  go_upto_region 7 with (first | (go_at_call 28; rw [← HW2.out]; refine (mnew_any _ o HO.out x.phase hx.1 hx.2).mono ?_; rintro e W hN; obtain ⟨q, m, w1, rfl, hx1, hf1, ht1, hb1, hq1, rfl⟩ := MNew.two N HN.out hN; clear hN; have c0 : (mk w1 m (newC newG) (fun _ => 0) { N with slow := true }).cell? ⟨w.heap.size, 0, none⟩ = some (.bool x.slow) := by (rw [cell_of_row _ _ _ _ _ _ ((old_row _ _ _ hx1 (by omega) hf1).trans H4.out)]; rfl)) | (go_at_call 29; refine (slow_mk hb1 hq1 _ _ ({ N with slow := true } : Bd) x.slow B HB.out).mono ?_; rintro e W ⟨rfl, rfl⟩) | ((with_reducible refine wpList_load_mid (op := ⟨some 29, _, _, _, _, _⟩) rfl 23 _ rfl w.heap.size 0 rfl x.cells.toList _ ?_ Tryz.underlying23 rfl ?_ ?_); (· exact range_of_row ((old_row _ _ _ hx1 (by omega) hf1).trans H4.out)); (· rw [HS.out]; simp)) | (go_at_call 22; refine (poke_mk hb3 (hq1.ext hx3) _ _ _ x.org code HL.out p (by omega) 5 (((hx1.trans hx3).block p (by omega)).trans HP.out) B2 HB2.out).mono ?_; rintro e W ⟨rfl, rfl⟩) | ((with_reducible refine wpList_load_mid (op := ⟨some 33, _, _, _, _, _⟩) rfl 23 _ rfl w.heap.size 0 rfl x.cells.toList _ ?_ Tryz.underlying23 rfl ?_ ?_); (· exact range_of_row ((old_row _ _ _ (hx1.trans hx3) (by omega) hf1).trans H4.out)); (· rw [HS.out]; simp)) | (go_at_call 17; refine Calls.mono (org_mk x hb3 _ _ _) ?_; rintro e W ⟨rfl, w4, hx4, hb4, rfl⟩; have f22 : (mk w4 m (newC newG) (fun _ => 0) B2).frozen? ⟨w.heap.size + 1, 22, none⟩ = false := (frozen_of_row _ _ _ _ _ ((old_row _ _ _ ((hx1.trans hx3).trans hx4) (by omega) hf1).trans H7.out)); have c22 : (mk w4 m (newC newG) (fun _ => 0) B2).cell? ⟨w.heap.size + 1, 22, none⟩ = some (.int .u16 r.pc) := (by (rw [cell_of_row _ _ _ _ _ _ ((old_row _ _ _ ((hx1.trans hx3).trans hx4) (by omega) hf1).trans H7.out)]; rfl)); have f21 : (mk w4 m (newC newG) (fun _ => 0) B2).frozen? ⟨w.heap.size + 1, 21, none⟩ = false := (frozen_of_row _ _ _ _ _ ((old_row _ _ _ ((hx1.trans hx3).trans hx4) (by omega) hf1).trans H7.out)); have c21 : (mk w4 m (newC newG) (fun _ => 0) B2).cell? ⟨w.heap.size + 1, 21, none⟩ = some (.int .u16 r.sp) := (by (rw [cell_of_row _ _ _ _ _ _ ((old_row _ _ _ ((hx1.trans hx3).trans hx4) (by omega) hf1).trans H7.out)]; rfl))) | (go_at_call 17; refine Calls.mono (org_mk x hb1 _ _ _) ?_; rintro e W ⟨rfl, w3, hx3, hb3, rfl⟩))
  rw [two_sets (w := w4) _ _ _ (by omega) x r (((hx1.trans hx3).trans hx4).block _ (by omega) |>.trans H7.out)]
  go_wp2_with (first | ((with_reducible refine wpList_load_mid (op := ⟨some 38, _, _, _, _, _⟩) rfl 31 _ rfl (w.heap.size + 1) 0 rfl (r.at_ x).cells.toList _ ?_ Tryz.underlying31 rfl ?_ ?_); (· exact range_of_row (H5.out w4 (((hx1.trans hx3).trans hx4).block _ (by omega) |>.trans H7.out) m hf1)); (· rw [HS2.out]; simp)) | (go_at_call 30; refine Calls.mono (setRegs_any (Base.set hb4 (by omega) _) (Own.set (hq1.ext (hx3.trans hx4)) (own_ne (hx1.block _ (by omega) |>.trans H7.out) hq1.row) _) (newC newG) (fun _ => 0) B2 (r.at_ x) HOk.out rfl) ?_; rintro e W ⟨rfl, w6, hx6, hb6, rfl⟩))
  go_ret
  refine ⟨q, m, w6, rfl, Ext.trans (below_setRow (hx2.trans ((hx1.trans hx3).trans hx4)) (Nat.le_succ _) _) hx6, ⟨by omega, by omega, by omega⟩, ht1, hb6, Own.ext (Own.set (hq1.ext (hx3.trans hx4)) (own_ne (hx1.block _ (by omega) |>.trans H7.out) hq1.row) _) hx6, ?_⟩
  rw [HB2.out, HB.out, HN.out]
  rfl
end Go.Proofs.YtneganpbamemmaaGreat
