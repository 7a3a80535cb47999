/- The machine runs. -/
import Derived.Test.YtneganpbamemmaaGreatTick2
import Derived.Deep.LoopGhost
import Derived.Test.YtneganpbamemmaaGreatPlainB
set_option linter.unusedVariables false
set_option linter.unusedSimpArgs false
set_option linter.unusedSectionVars false
namespace Go.Proofs.YtneganpbamemmaaGreat
open Go Go.RowKit Sq

/-- A machine with no tape in its deck, that records nothing. -/
structure Own (m : Mac) (w : World) (q : Nat) : Prop where
  lt : q < w.heap.size
  nc : q ≠ m.c
  ns : q ≠ m.s
  nb : q ≠ m.b
  row : w.heap[q]? = some (.cells #[.pointer (some ⟨m.c, 0, none⟩), .pointer (some ⟨m.b, 0, none⟩), .pointer none, .slice none 0 0, .bool false, .int .u64 0, .int .i64 0, .bool false] 64 (0, 0))
theorem Own.ext {m : Mac} {w w1 : World} {q : Nat} (h : Own m w q) (hx : Ext w w1) : Own m w1 q :=
  ⟨Nat.lt_of_lt_of_le h.lt hx.size, h.nc, h.ns, h.nb, by rw [hx.block q h.lt]; exact h.row⟩
theorem Own.cell {m : Mac} {w : World} {q : Nat} (h : Own m w q) (c : Cp) (sl : Nat → Int) (b : Bd) (i : Nat) :
    (Sq.mk w m c sl b).cell? ⟨q, i, none⟩ = (#[.pointer (some ⟨m.c, 0, none⟩), .pointer (some ⟨m.b, 0, none⟩), .pointer none, .slice none 0 0, .bool false, .int .u64 0, .int .i64 0, .bool false] : Array Value)[i]? :=
  cell_of_row _ _ _ _ _ _ (by rw [mk_heap_o h.nc h.ns h.nb]; exact h.row)

theorem level_any (w : World) : Calls Tryz.prog 32 #[.pointer none] w fun e w' => e = .returned (.bool false) ∧ w = w' := by
  go_enter Tryz.func32, Tryz.ntmps32
  go_wp2
  go_ret
  exact ⟨rfl, rfl⟩
/-- Where the run stands. -/
def RunRel (w : World) (m : Mac) (s : St) (k : Nat) (wr : World) (j : Nat) : Prop :=
  ∃ w1, Ext w w1 ∧ Base m w1 ∧ wr = mk w1 m (St.run j s).c (St.run j s).sl (St.run j s).b
theorem Own.at0 {m : Mac} {w : World} {q : Nat} (h : Own m w q) (c : Cp) (sl : Nat → Int) (b : Bd) : (Sq.mk w m c sl b).cell? ⟨q, 0, none⟩ = some (.pointer (some ⟨m.c, 0, none⟩)) := h.cell c sl b 0
theorem Own.at1 {m : Mac} {w : World} {q : Nat} (h : Own m w q) (c : Cp) (sl : Nat → Int) (b : Bd) : (Sq.mk w m c sl b).cell? ⟨q, 1, none⟩ = some (.pointer (some ⟨m.b, 0, none⟩)) := h.cell c sl b 1
theorem Own.at2 {m : Mac} {w : World} {q : Nat} (h : Own m w q) (c : Cp) (sl : Nat → Int) (b : Bd) : (Sq.mk w m c sl b).cell? ⟨q, 2, none⟩ = some (.pointer none) := h.cell c sl b 2
theorem run_succ (j : Nat) (s : St) : St.run (j + 1) s = (St.run j s).step := run_add j 1 s
theorem mtick_any {m : Mac} {w : World} (hb : Base m w) (hts : m.ts = 115) (s : St) (ho : s.Ok) (hf : s.Fit) : Calls Tryz.prog 33 #[.pointer (some ⟨m.c, 0, none⟩), busOf m] (mk w m s.c s.sl s.b) fun e W => e = .returned (.tuple #[]) ∧ Lft w m s.tick.c s.tick.sl s.tick.b W := by
  have H := Lib.hid (ctick_any hb hts s ho hf)
  clear hts ho hf
  go_enter Tryz.func33, Tryz.ntmps33
  go_wp2_with (go_at_call 45; refine Calls.mono H.out ?_; rintro e W ⟨rfl, w1, hx1, hb1, rfl⟩)
  (first | go_end0 | refine bodyPost_ret (results_none rfl _ _ _) rfl ?_)
  exact ⟨rfl, Lft.mk' (by assumption) (by assumption)⟩
section
variable {m : Mac} {w : World} (hb : Base m w) (hts : m.ts = 115) {q : Nat} (hq : Own m w q)
include hb hts hq
set_option maxRecDepth 8000 in
set_option maxHeartbeats 1000000 in
theorem run_any (s : St) (n : Nat) (hn : n < 4294967296) (ho : s.Ok) (hf : Fits n s) : Calls Tryz.prog 14 #[.pointer (some ⟨q, 0, none⟩), .int .u32 n] (mk w m s.c s.sl s.b) fun e W => e = .returned (.tuple #[]) ∧ Lft w m (St.run n s).c (St.run n s).sl (St.run n s).b W := by
  have HO := Lib.hid (fun j (hj : j ≤ n) => run_ok j ho (fun i hi => hf i (by omega)))
  have HF := Lib.hid hf
  have HT := Lib.hid hts
  have HQ := Lib.hid hq
  clear hts hq ho hf
  go_enter Tryz.func14, Tryz.ntmps14
  go_wp2
  go_loopg [7] n (fun k i wr => ∃ j : Nat, j + k = n ∧ i = .int .u32 j ∧ RunRel w m s k wr j)
  case atStart => exact ⟨0, by omega, rfl, ⟨w, Ext.refl w, hb, rfl⟩⟩
  case round =>
    obtain ⟨j, hj, rfl, w1, hx, hb1, rfl⟩ := hrel
    by_cases hlt : j < n
    · have hji : (j : Int) < 4294967295 := by omega
      have hnj : decide (j < n) = true := by simp; omega
      have hO := HO.out j (by omega)
      have hFj := HF.out j hlt
      have HR := Lib.hid (run_succ j s)
      obtain ⟨t, ht⟩ : ∃ t, St.run j s = t := ⟨_, rfl⟩
      rw [ht] at hO hFj ⊢
      have HRT := Lib.hid ht
      have HK := Lib.hid (fun (w' : World) (hb' : Base m w') => mtick_any hb' HT.out ({ t with b := { t.b with ear := false } } : St) (hO.ear false) ⟨hFj.iff1, hFj.code⟩)
      have HN := Lib.hid (fun (w' : World) (hb' : Base m w') => bnext_any hb' ({ t with b := { t.b with ear := false } } : St).tick.c ({ t with b := { t.b with ear := false } } : St).tick.sl ({ t with b := { t.b with ear := false } } : St).tick.b (tick_ok (hO.ear false) ⟨hFj.iff1, hFj.code⟩).b)
      have n2 := Own.at2 (HQ.out.ext hx) t.c t.sl t.b
      clear ht hO hFj
      go_wp2
      clear n2
      go_region_held3 (fun w' => w'.cell? ⟨q, 1, none⟩ = some (.pointer (some ⟨m.b, 0, none⟩)) ∧ w'.cell? ⟨q, 2, none⟩ = some (.pointer none)) (first | with_reducible exact ⟨Own.at1 (HQ.out.ext hx) _ _ _, Own.at2 (HQ.out.ext hx) _ _ _⟩ | (simp only [World.cell?_drew]; with_reducible exact ⟨Own.at1 (HQ.out.ext hx) _ _ _, Own.at2 (HQ.out.ext hx) _ _ _⟩) | (simp only [mk_drew]; with_reducible exact ⟨Own.at1 (HQ.out.ext (Ext.drew' hx)) _ _ _, Own.at2 (HQ.out.ext (Ext.drew' hx)) _ _ _⟩) | with_reducible exact ⟨Own.at1 (HQ.out.ext (Ext.drew' hx)) _ _ _, Own.at2 (HQ.out.ext (Ext.drew' hx)) _ _ _⟩ | with_reducible exact ⟨Own.at1 (HQ.out.ext ((Ext.drew' hx).trans hx3)) _ _ _, Own.at2 (HQ.out.ext ((Ext.drew' hx).trans hx3)) _ _ _⟩) ((go_at_call 32; refine (level_any _).mono ?_; rintro e w' ⟨rfl, rfl⟩))
      go_wp2_with fail
      have hx2 := Ext.drew' hx
      have hb2 := Base.drew hb1
      go_region_held3 (fun w' => w'.cell? ⟨q, 0, none⟩ = some (.pointer (some ⟨m.c, 0, none⟩)) ∧ w'.cell? ⟨q, 1, none⟩ = some (.pointer (some ⟨m.b, 0, none⟩))) (first | with_reducible exact ⟨Own.at0 (HQ.out.ext hx2) _ _ _, Own.at1 (HQ.out.ext hx2) _ _ _⟩ | (simp only [World.cell?_drew]; with_reducible exact ⟨Own.at0 (HQ.out.ext hx2) _ _ _, Own.at1 (HQ.out.ext hx2) _ _ _⟩) | (simp only [mk_drew]; with_reducible exact ⟨Own.at0 (HQ.out.ext (Ext.drew' hx2)) _ _ _, Own.at1 (HQ.out.ext (Ext.drew' hx2)) _ _ _⟩) | with_reducible exact ⟨Own.at0 (HQ.out.ext (Ext.drew' hx2)) _ _ _, Own.at1 (HQ.out.ext (Ext.drew' hx2)) _ _ _⟩ | with_reducible exact ⟨Own.at0 (HQ.out.ext ((Ext.drew' hx2).trans hx3)) _ _ _, Own.at1 (HQ.out.ext ((Ext.drew' hx2).trans hx3)) _ _ _⟩) ((go_at_call 33; (try simp only [mk_drew]); refine Calls.mono (HK.out _ (by first | assumption | exact Base.drew (by assumption))) ?_; rintro e W ⟨rfl, w3, hx3, hb3, rfl⟩))
      have hx4 := (Ext.drew' hx2).trans hx3
      have n1 := Own.at1 (HQ.out.ext hx4)
      go_wp2_with (go_at_call 34; (try simp only [mk_drew]); refine Calls.mono (HN.out _ (by first | assumption | exact Base.drew (by assumption))) ?_; rintro e W ⟨rfl, w5, hx5, hb5, rfl⟩)
      go_roundg (gk - 1)
      case measure => omega
      case rel => exact ⟨j + 1, by omega, by go_num, w5, hx4.trans hx5, hb5, by rw [HR.out, HRT.out]; rfl⟩
    · have hjn : j = n := by omega
      subst hjn
      go_wp2
      (first | go_end0 | refine bodyPost_ret (results_none rfl _ _ _) rfl ?_)
      exact ⟨rfl, Lft.mk' hb1 hx⟩
end
end Go.Proofs.YtneganpbamemmaaGreat
