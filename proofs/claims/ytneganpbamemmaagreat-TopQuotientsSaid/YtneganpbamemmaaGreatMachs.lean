/- The machine's registers, its memory. -/
import Derived.Test.YtneganpbamemmaaGreatNews
set_option linter.unusedVariables false
set_option linter.unusedSimpArgs false
set_option linter.unusedSectionVars false
namespace Go.Proofs.YtneganpbamemmaaGreat
open Go Go.RowKit Sq
section
variable {m : Mac} {w : World} (hb : Base m w) {q : Nat} (hq : Own m w q) (c : Cp) (sl : Nat → Int) (b : Bd)
include hb hq
set_option maxRecDepth 8000 in
theorem slow_any_ (on : Bool) : Calls Tryz.prog 29 #[.pointer (some ⟨q, 0, none⟩), .bool on] (mk w m c sl b) fun e W => e = .returned (.tuple #[]) ∧ mk w m c sl { b with slow := on } = W := by
  have n1 := hq.at1 c sl b
  clear hq
  go_enter Tryz.func29, Tryz.ntmps29
  go_wp2
  go_end0
  exact ⟨rfl, rfl⟩
omit hq in
theorem cdone_any (hk : c.kind = -1) : Calls Tryz.prog 43 #[.pointer (some ⟨m.c, 0, none⟩)] (mk w m c sl b) fun e W => e = .returned (.bool true) ∧ mk w m c sl b = W := by
  have h : (c.kind == -1) = true := by rw [hk]; rfl
  clear hk
  go_enter Tryz.func43, Tryz.ntmps43
  go_wp2
  go_ret
  exact ⟨rfl, rfl⟩
omit hq in
theorem setRegs_cells (g : Rg) : (mk w m c sl b).setCells m.c 0 g.cells.toList = mk w m { c with g := g } sl b := by
  unfold Rg.cells
  simp only [World.setCells, Nat.zero_add, set_0 hb, set_1 hb, set_2 hb, set_3 hb, set_4 hb, set_5 hb, set_6 hb, set_7 hb, set_8 hb, set_9 hb, set_10 hb, set_11 hb, set_12 hb, set_13 hb, set_14 hb, set_15 hb, set_16 hb, set_17 hb, set_18 hb, set_19 hb, set_20 hb, set_21 hb, set_22 hb, set_23 hb, set_24 hb, set_25 hb, set_26 hb, set_27 hb, set_28 hb, set_29 hb, Nat.reduceAdd]
end
end Go.Proofs.YtneganpbamemmaaGreat
/- The machine's registers are set. -/
namespace Go.Proofs.YtneganpbamemmaaGreat
open Go Go.RowKit Sq
section
variable {m : Mac} {w : World} (hb : Base m w) {q : Nat} (hq : Own m w q) (c : Cp) (sl : Nat → Int) (b : Bd)
include hb hq
omit hq in
theorem there_c (o : World) (n : Nat) (hn : n ≤ 50) (hd : o = (mk w m c sl b).drew) : o.there m.c 0 n := by
  subst hd
  intro j hj
  have hc : ((mk w m c sl b).drew).cell? ⟨m.c, 0 + j, none⟩ = (c.arr m)[j]? := by rw [Nat.zero_add, World.cell?_drew]; exact mk_cell_c hb j
  have hs : j < (c.arr m).size := by show j < 50; omega
  refine ⟨by rw [hc, Array.getElem?_eq_getElem hs]; rfl, ?_⟩
  rw [mk_drew]
  exact mk_frozen_c (Base.drew hb) _
set_option maxRecDepth 8000 in
set_option maxHeartbeats 1000000 in
theorem setRegs_any (g : Rg) (hg : g.Ok) (hk : c.kind = -1) : Calls Tryz.prog 30 #[.pointer (some ⟨q, 0, none⟩), .agg g.cells] (mk w m c sl b) fun e W => e = .returned (.int .i64 0) ∧ Lft w m { c with g := g } sl b W := by
  obtain ⟨i0, i1⟩ := hg.im
  obtain ⟨p0, p1⟩ := hg.pre
  obtain ⟨G, hG⟩ : ∃ G, G = g.cells := ⟨_, rfl⟩
  have HG := Lib.hid hG
  have hbA := Base.alloc hb (.cells G 31)
  have hqA := hq.ext (Ext.alloc w (.cells G 31))
  have eA : (mk w m c sl b).alloc (.cells G 31) = mk (w.alloc (.cells G 31)) m c sl b := mk_alloc hb _
  have HE := Lib.hid eA
  have n0 := hqA.at0 c sl b
  have hcell : ∀ i v, G[i]? = some v → (mk (w.alloc (.cells G 31)) m c sl b).cell? ⟨w.heap.size, i, none⟩ = some v := fun i v hv => newc hb (Ext.refl _) c sl b i hv
  have c28 := hcell 28 (.int .u8 g.im) (by rw [hG]; rfl)
  have c29 := hcell 29 (.int .u8 g.pre) (by rw [hG]; rfl)
  rw [← eA] at n0 c28 c29
  have HN := Lib.hid (hqA.at0 c sl b)
  have HR := Lib.hid (show (mk (w.alloc (.cells G 31)) m c sl b).rangeAt w.heap.size 0 G.toList from fun j v hv => by rw [Nat.zero_add]; exact hcell j v (by rw [← Array.getElem?_toList]; exact hv))
  have HD := Lib.hid (fun (w' : World) (hb' : Base m w') => cdone_any hb' c sl b hk)
  have HS := Lib.hid (hG ▸ regs_size g)
  have H1 := Lib.hid (hG ▸ regs_one g)
  have HQ := Lib.hid hq
  rw [← hG]
  clear hG hq hqA eA hcell hk hg
  go_enter Tryz.func30, Tryz.ntmps30
  go_wp2_with (go_at_call 43; (try simp only [HE.out]); refine Calls.mono (HD.out _ hbA) ?_; rintro e W ⟨rfl, rfl⟩; rw [← HE.out])
  rw [HE.out]
  refine wp_region_late 7 (fun w' => w'.cell? ⟨q, 0, none⟩ = some (.pointer (some ⟨m.c, 0, none⟩)) ∧ w'.rangeAt w.heap.size 0 G.toList) (by kernel_rfl) ⟨by rw [World.cell?_drew]; exact HN.out, (World.rangeAt_drew _ _ _ _).2 HR.out⟩ (fun hHeld => ?_)
  refine wpAnyT_pure (i := 0) (oi := { dst := some 24, op := Go.Op.move (Go.Operand.tmp 0), type := 26, pos := "mach.go:98", after := #[], guard := none }) (v := ?v0) rfl (by kernel_rfl) (by kernel_rfl) (by kernel_rfl) (fun _ _ _ h => h) (Or.inl ⟨by rfl, ?y0⟩) ?r0
  case y0 => (intro w; go_simp; try with_reducible rfl)
  try simp only [Act.put, List.setIfInBounds_toArray, List.set_cons_zero, List.set_cons_succ]
  refine wpAnyT_pure (i := 1) (oi := { dst := some 25, op := Go.Op.nilCheck (Go.Operand.tmp 24), type := 0, pos := "mach.go:98", after := #[{ on := 0, ground := Go.Ground.data }], guard := none }) (v := ?v1) rfl (by kernel_rfl) (by kernel_rfl) (by kernel_rfl) (fun _ _ _ h => h) (Or.inl ⟨by rfl, ?y1⟩) ?r1
  case y1 => (intro w; go_simp; try with_reducible rfl)
  try simp only [Act.put, List.setIfInBounds_toArray, List.set_cons_zero, List.set_cons_succ]
  refine wpAnyT_pure (i := 2) (oi := { dst := some 26, op := Go.Op.fieldAddr 64 (Go.Operand.tmp 25) 0, type := 0, pos := "mach.go:98", after := #[{ on := 1, ground := Go.Ground.data }], guard := none }) (v := ?v2) rfl (by kernel_rfl) (by kernel_rfl) (by kernel_rfl) (fun _ _ _ h => h) (Or.inl ⟨by rfl, ?y2⟩) ?r2
  case y2 => (intro w; go_simp; try with_reducible rfl)
  try simp only [Act.put, List.setIfInBounds_toArray, List.set_cons_zero, List.set_cons_succ]
  refine wpAnyT_take (i := 3) (oi := { dst := some 27, op := Go.Op.load 60 (Go.Operand.tmp 26), type := 60, pos := "mach.go:98", after := #[{ on := 2, ground := Go.Ground.data }], guard := none }) (v := ?v3) [5, 6, 7] rfl (by decide) (by kernel_rfl) (by kernel_rfl) (by kernel_rfl) (by kernel_rfl) (fun _ _ _ h => h) (Or.inl ⟨by rfl, ?y3⟩) hHeld ?r3
  case y3 => (intro w hSw; have hSw := hSw.1; (try dsimp only at hSw); go_simp; try with_reducible rfl)
  try simp only [Act.put, List.setIfInBounds_toArray, List.set_cons_zero, List.set_cons_succ]
  refine wpAnyT_take (i := 4) (oi := { dst := some 28, op := Go.Op.load 31 (Go.Operand.tmp 3), type := 31, pos := "mach.go:98", after := #[], guard := none }) (v := .agg G) [7] rfl (by decide) (by kernel_rfl) (by kernel_rfl) (by kernel_rfl) (by kernel_rfl) (fun _ _ _ h => h) (yieldsIf_load_mid rfl _ _ rfl w.heap.size 0 rfl G.toList _ (fun _ h => h.2) Tryz.underlying31 rfl (by rw [HS.out]; simp)) hHeld ?r4
  try simp only [Act.put, List.setIfInBounds_toArray, List.set_cons_zero, List.set_cons_succ]
  refine wpAnyT_pure (i := 5) (oi := { dst := some 29, op := Go.Op.nilCheck (Go.Operand.tmp 27), type := 0, pos := "mach.go:98", after := #[{ on := 3, ground := Go.Ground.data }, { on := 0, ground := Go.Ground.phase }, { on := 1, ground := Go.Ground.phase }, { on := 2, ground := Go.Ground.phase }, { on := 3, ground := Go.Ground.phase }, { on := 4, ground := Go.Ground.phase }], guard := none }) (v := ?v5) rfl (by kernel_rfl) (by kernel_rfl) (by kernel_rfl) (fun _ _ _ h => h) (Or.inl ⟨by rfl, ?y5⟩) ?r5
  case y5 => (intro w; go_simp; try with_reducible rfl)
  try simp only [Act.put, List.setIfInBounds_toArray, List.set_cons_zero, List.set_cons_succ]
  refine wpAnyT_pure (i := 6) (oi := { dst := some 30, op := Go.Op.fieldAddr 79 (Go.Operand.tmp 29) 0, type := 0, pos := "mach.go:98", after := #[{ on := 5, ground := Go.Ground.data }, { on := 0, ground := Go.Ground.phase }, { on := 1, ground := Go.Ground.phase }, { on := 2, ground := Go.Ground.phase }, { on := 3, ground := Go.Ground.phase }, { on := 4, ground := Go.Ground.phase }], guard := none }) (v := ?v6) rfl (by kernel_rfl) (by kernel_rfl) (by kernel_rfl) (fun _ _ _ h => h) (Or.inl ⟨by rfl, ?y6⟩) ?r6
  case y6 => (intro w; go_simp; try with_reducible rfl)
  try simp only [Act.put, List.setIfInBounds_toArray, List.set_cons_zero, List.set_cons_succ]
  refine wpAnyT_late (o := { dst := none, op := Go.Op.store 31 (Go.Operand.tmp 30) (Go.Operand.tmp 28), type := 0, pos := "mach.go:98", after := #[{ on := 6, ground := Go.Ground.data }, { on := 4, ground := Go.Ground.data }, { on := 0, ground := Go.Ground.phase }, { on := 1, ground := Go.Ground.phase }, { on := 2, ground := Go.Ground.phase }, { on := 3, ground := Go.Ground.phase }, { on := 4, ground := Go.Ground.phase }], guard := none }) (by kernel_rfl) rfl (fun K hK => ?_)
  rw [if_pos (by rfl)]
  refine wp_store_mid _ _ _ rfl m.c 0 G rfl rfl (there_c hbA c sl b _ _ (by have h := HG.out; rw [h]; show 30 ≤ 50; omega) rfl) HS.out H1.out ?_
  refine hK.out _ _ ?_
  clear hK K
  try simp only [Act.put, List.setIfInBounds_toArray, List.set_cons_zero, List.set_cons_succ]
  refine wpAnyT_done (by kernel_rfl) ?_ _
  rw [mk_drew, HG.out, setRegs_cells (Base.drew (Base.alloc hb _)) c sl b g]
  go_wp2
  go_ret
  exact ⟨rfl, Lft.mk' (Base.drew (Base.alloc hb _)) ((Ext.alloc w _).drew')⟩
end
end Go.Proofs.YtneganpbamemmaaGreat
/- The machine's registers are read; its memory is written. -/
namespace Go.Proofs.YtneganpbamemmaaGreat
open Go Go.RowKit Sq
/-- Bytes written one behind the other. -/
def _root_.Sq.Bd.pokes (b : Bd) : Nat → List Int → Bd
  | _, [] => b
  | a, v :: l => (b.write a v).pokes (a + 1) l
theorem pokes_snoc (b : Bd) : ∀ (l : List Int) (a : Nat) (v : Int), b.pokes a (l ++ [v]) = (b.pokes a l).write (a + l.length : Nat) v
  | [], a, v => rfl
  | x :: l, a, v => by
    show (b.write a x).pokes (a + 1) (l ++ [v]) = _
    rw [pokes_snoc (b.write a x) l (a + 1) v]
    show _ = ((b.write a x).pokes (a + 1) l).write _ v
    rw [show a + 1 + l.length = a + (x :: l).length from by simp; omega]
section
variable {m : Mac} {w : World} (hb : Base m w) {q : Nat} (hq : Own m w q) (c : Cp) (sl : Nat → Int) (b : Bd)
include hb hq
omit hq in
theorem regs_range (o : World) (hd : o = mk w m c sl b) : o.rangeAt m.c 0 c.g.cells.toList := by
  subst hd
  intro j v hv
  rw [Nat.zero_add, mk_cell_c hb j]
  have h : c.g.cells[j]? = some v := by rw [← Array.getElem?_toList]; exact hv
  have hl : j < 30 := by
    have := (Array.getElem?_eq_some_iff.1 h).1
    exact this
  have : j = 0 ∨ j = 1 ∨ j = 2 ∨ j = 3 ∨ j = 4 ∨ j = 5 ∨ j = 6 ∨ j = 7 ∨ j = 8 ∨ j = 9 ∨ j = 10 ∨ j = 11 ∨ j = 12 ∨ j = 13 ∨ j = 14 ∨ j = 15 ∨ j = 16 ∨ j = 17 ∨ j = 18 ∨ j = 19 ∨ j = 20 ∨ j = 21 ∨ j = 22 ∨ j = 23 ∨ j = 24 ∨ j = 25 ∨ j = 26 ∨ j = 27 ∨ j = 28 ∨ j = 29 := by omega
  rcases this with rfl | rfl | rfl | rfl | rfl | rfl | rfl | rfl | rfl | rfl | rfl | rfl | rfl | rfl | rfl | rfl | rfl | rfl | rfl | rfl | rfl | rfl | rfl | rfl | rfl | rfl | rfl | rfl | rfl | rfl <;> exact h
set_option maxRecDepth 8000 in
set_option maxHeartbeats 1000000 in
theorem regs_any_ : Calls Tryz.prog 15 #[.pointer (some ⟨q, 0, none⟩)] (mk w m c sl b) fun e W => e = .returned (.agg c.g.cells) ∧ Lft w m c sl b W := by
  obtain ⟨G, hG⟩ : ∃ G, G = c.g.cells := ⟨_, rfl⟩
  have HG := Lib.hid hG
  have hbA := Base.alloc hb (.cells zeroG.cells 31)
  have hqA := hq.ext (Ext.alloc w (.cells zeroG.cells 31))
  have eA : (mk w m c sl b).alloc (.cells zeroG.cells 31) = mk (w.alloc (.cells zeroG.cells 31)) m c sl b := mk_alloc hb _
  have HE := Lib.hid eA
  have n0 := hqA.at0 c sl b
  rw [← eA] at n0
  unfold zeroG Rg.cells at n0
  dsimp only at n0
  have HR := Lib.hid (show ((mk w m c sl b).alloc (.cells zeroG.cells 31)).rangeAt m.c 0 G.toList from by rw [eA, hG]; exact regs_range hbA c sl b _ rfl)
  have HS := Lib.hid (hG ▸ regs_size c.g)
  have H1 := Lib.hid (hG ▸ regs_one c.g)
  have HSz := Lib.hid (show (mk w m c sl b).heap.size = w.heap.size from mk_size)
  rw [← hG]
  clear hG hqA eA hq
  go_enter Tryz.func15, Tryz.ntmps15
  go_wp2_with (first | ((with_reducible refine wpList_load_mid (op := ⟨some 12, _, _, _, _, _⟩) rfl 31 _ rfl m.c 0 rfl G.toList _ ?_ Tryz.underlying31 rfl ?_ ?_); (· exact HR.out); (· rw [HS.out]; simp)) | ((with_reducible refine wpList_store_row (o := ⟨none, .store 31 _ _, _, _, _, _⟩) rfl 31 _ _ rfl w.heap.size G rfl rfl 31 zeroG.cells ?_ ?_ ?_ ?_ ?_); (· rw [← HSz.out]; exact heap_alloc_new _ _); (· exact HS.out); (· have h := HG.out; rw [h]; rfl); (· exact H1.out)))
  refine bodyPost_ret (v := .agg G) (results_cell_row rfl _ _ w.heap.size 31 G (0, 0) _ rfl ?_ Tryz.underlying31 rfl HS.out) rfl ?_
  · exact setRow_heap _ _ _ _ _ _ (by rw [← HSz.out]; exact heap_alloc_new _ _)
  · refine ⟨rfl, ?_⟩
    rw [← HSz.out, setRow_alloc_new, mk_alloc hb]
    exact Lft.mk' (Base.alloc hb _) (Ext.alloc w _)
end
end Go.Proofs.YtneganpbamemmaaGreat
/- The machine's memory is written. -/
namespace Go.Proofs.YtneganpbamemmaaGreat
open Go Go.RowKit Sq
section
variable {m : Mac} {w : World} (hb : Base m w) {q : Nat} (hq : Own m w q) (c : Cp) (sl : Nat → Int) (b : Bd)
include hb hq
set_option maxRecDepth 8000 in
set_option maxHeartbeats 1000000 in
theorem poke_any_ (a : Nat) (l : List Int) (hl : a + l.length ≤ 65536) (p : Nat) (n1 : p ≠ m.c) (n2 : p ≠ m.s) (n3 : p ≠ m.b) (t : TypeId) (hp : w.heap[p]? = some (.cells (l.map (Value.int .u8)).toArray t (0, 0))) : Calls Tryz.prog 22 #[.pointer (some ⟨q, 0, none⟩), .int .u16 a, .slice (some ⟨p, 0, none⟩) l.length l.length] (mk w m c sl b) fun e W => e = .returned (.tuple #[]) ∧ mk w m c sl (b.pokes a l) = W := by
  obtain ⟨n, hn⟩ : ∃ n, l.length = n := ⟨_, rfl⟩
  rw [hn] at hl ⊢
  have HC := Lib.hid (fun (b' : Bd) (j : Nat) (v : Int) (hv : l[j]? = some v) => show (mk w m c sl b').cell? ⟨p, j, none⟩ = some (.int .u8 v) from by
    rw [cell_of_row _ _ _ _ _ _ (by rw [mk_heap_o n1 n2 n3]; exact hp)]
    simp [hv])
  have HQ := Lib.hid hq
  have HN := Lib.hid hn
  clear hq hp hn
  have hmin : (if (n : Int) ≤ 65536 then (n : Int) else 65536) = n := if_pos (by omega)
  go_enter Tryz.func22, Tryz.ntmps22
  go_wp2
  go_loopg [16] n (fun k i wr => ∃ j : Nat, j + k = n ∧ i = .int .i64 j ∧ wr = mk w m c sl (b.pokes a (l.take j)))
  case atStart => exact ⟨0, by omega, rfl, rfl⟩
  case round =>
    obtain ⟨j, hj, rfl, rfl⟩ := hrel
    by_cases hlt : j < n
    · have hji : (j : Int) < n := by omega
      obtain ⟨v, hv⟩ : ∃ v, l[j]? = some v := ⟨l[j]'(by have := HN.out; omega), by simp [HN.out, hlt]⟩
      have hcell := HC.out (b.pokes a (l.take j)) j v hv
      have HT := Lib.hid (show b.pokes a (l.take (j + 1)) = (b.pokes a (l.take j)).write ((a + j : Nat) : Int) v from by
        rw [List.take_add_one, hv]
        show b.pokes a (l.take j ++ [v]) = _
        rw [pokes_snoc, List.length_take, Nat.min_eq_left (by have := HN.out; omega)])
      have h1 := Own.at1 HQ.out c sl (b.pokes a (l.take j))
      have HW := Lib.hid (bwrite_any hb c sl (b.pokes a (l.take j)) (a + j) (by omega) v)
      clear hv
      have hj6 : (j : Int) < 65536 := by omega
      have ha6 : (a : Int) + (j : Int) < 65536 := by omega
      have e : ((a + j : Nat) : Int) = (a : Int) + (j : Int) := Int.natCast_add a j
      rw [e] at HT HW
      go_wp2_with (go_at_call 36; refine Calls.mono HW.out ?_; rintro e W ⟨rfl, rfl⟩)
      go_roundg (gk - 1)
      case measure => omega
      case rel => exact ⟨j + 1, by omega, by go_num, by rw [HT.out]⟩
    · have hjn : j = n := by omega
      subst hjn
      have HE := Lib.hid (show b.pokes a (l.take j) = b.pokes a l from by rw [List.take_of_length_le (by have := HN.out; omega)])
      go_wp2
      (first | go_end0 | refine bodyPost_ret (results_none rfl _ _ _) rfl ?_)
      exact ⟨rfl, by rw [HE.out]⟩
end
end Go.Proofs.YtneganpbamemmaaGreat
