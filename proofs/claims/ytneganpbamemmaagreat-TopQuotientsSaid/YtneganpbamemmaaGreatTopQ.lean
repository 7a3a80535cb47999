/- The law of quotients: the walk. -/
import Derived.Test.YtneganpbamemmaaGreatStarts
import Derived.Test.YtneganpbamemmaaGreatPlainQ
import Derived.BigQuiet
set_option linter.unusedVariables false
set_option linter.unusedSimpArgs false
set_option linter.unusedSectionVars false
namespace Sq
open Go
def quotG (n d : Int) : Rg := { zeroG with h := n / 256, l := n % 256, d := d }
/-- What the program comes to, where n is divided by d. -/
def quotS (x : Spot) (n d : Int) : St := ⟨newC ((quotG n d).at_ x), fun _ => 0, x.board quotCode⟩
structure QuotPlain (x : Spot) (n d : Int) : Prop where
  ok : (quotS x n d).Ok
  fits : Fits 20000 (quotS x n d)
  halt : (St.run 20000 (quotS x n d)).c.g.halt = true
  h : 0 ≤ (St.run 20000 (quotS x n d)).c.g.h ∧ (St.run 20000 (quotS x n d)).c.g.h < 256
  l : 0 ≤ (St.run 20000 (quotS x n d)).c.g.l ∧ (St.run 20000 (quotS x n d)).c.g.l < 256
  hl : (St.run 20000 (quotS x n d)).c.g.h * 256 + (St.run 20000 (quotS x n d)).c.g.l = n / d
  a : (St.run 20000 (quotS x n d)).c.g.a = n % d
  b : (St.run 20000 (quotS x n d)).c.g.b = 0
  d : (St.run 20000 (quotS x n d)).c.g.d = d
end Sq
namespace Go.Proofs.YtneganpbamemmaaGreat
open Go Go.RowKit Sq
theorem run_mk {m : Mac} {w : World} (hb : Base m w) (hts : m.ts = 115) {q : Nat} (hq : Own m w q) (s : St) (c : Cp) (sl : Nat → Int) (b : Bd) (hs : s = ⟨c, sl, b⟩) (n : Nat) (hn : n < 4294967296) (ho : s.Ok) (hf : Fits n s) (T : St) (hT : T = St.run n s) : Calls Tryz.prog 14 #[.pointer (some ⟨q, 0, none⟩), .int .u32 n] (mk w m c sl b) fun e W => e = .returned (.tuple #[]) ∧ Lft w m T.c T.sl T.b W := by
  subst hT hs; exact run_any hb hts hq ⟨c, sl, b⟩ n hn ho hf
theorem regs_row {m : Mac} {w : World} (hb : Base m w) (c : Cp) (sl : Nat → Int) (b : Bd) (Z G : Array Value) : ((mk w m c sl b).alloc (.cells Z 31)).setRow w.heap.size G = mk (w.alloc (.cells G 31)) m c sl b := by
  have h := setRow_alloc_new (mk w m c sl b) Z G 31
  rw [mk_size] at h
  rw [h, mk_alloc hb]
theorem pair_mk (h l p : Int) (hp : h * 256 + l = p) (h0 : 0 ≤ h ∧ h < 256) (l0 : 0 ≤ l ∧ l < 256) (w : World) : Calls Tryz.prog 16 #[.int .u8 h, .int .u8 l] w fun e w' => e = .returned (.int .u16 p) ∧ w' = w := by
  subst hp
  refine (pair_any_ h l h0.1 h0.2 l0.1 l0.2 w).mono ?_
  rintro e W ⟨rfl, rfl⟩
  exact ⟨rfl, rfl⟩
theorem regs_new (m : Mac) (w : World) (c : Cp) (sl : Nat → Int) (b : Bd) (Z : Array Value) : ((mk w m c sl b).alloc (.cells Z 31)).heap[w.heap.size]? = some (.cells Z 31 (0, 0)) := by
  have h := heap_alloc_new (mk w m c sl b) (.cells Z 31)
  rw [mk_size] at h; exact h
theorem ext_mk {m : Mac} {w w' : World} (h : Ext w w') (hf : w.heap.size ≤ m.c ∧ w.heap.size ≤ m.s ∧ w.heap.size ≤ m.b) (c : Cp) (sl : Nat → Int) (b : Bd) : Ext w (mk w' m c sl b) := by
  rw [mk_eq]
  exact below_setRow (below_setRow (below_setRow h hf.1 _) hf.2.1 _) hf.2.2 _
theorem quot_built (h l d : Int) : Tryz.prog.built 31 [(6, .int .u8 h), (7, .int .u8 l), (4, .int .u8 d)] = some ({ zeroG with h := h, l := l, d := d } : Rg).cells := by
  kernel_rfl
theorem quotG_ok (n d : Int) (hn : 0 ≤ n ∧ n < 65536) (hd : 0 ≤ d ∧ d < 256) : (quotG n d).Ok := by
  constructor <;> simp [quotG, zeroG] <;> omega
set_option maxRecDepth 8000 in
set_option maxHeartbeats 2000000 in
theorem topQ_any (w : World) (x : Spot) (hx : -9223372036854775808 ≤ x.phase ∧ x.phase ≤ 9223372036854775807) (n d : Int) (hn0 : 0 ≤ n) (hn1 : n < 65536) (hd0 : 0 ≤ d) (hd1 : d < 256) (hp : ∀ d', 1 ≤ d' → d' < 256 → QuotPlain x n d') :
    Calls Tryz.prog 3 #[.agg x.cells, .int .u16 n, .int .u8 d] w fun e W => e = .returned (.bool true) ∧ Ext w W := by
  obtain ⟨d', hd'⟩ : ∃ d', d' = (if d < 1 then 1 else d) := ⟨_, rfl⟩
  have h1 : 1 ≤ d' := by rw [hd']; split <;> omega
  have h2 : d' < 256 := by rw [hd']; split <;> omega
  have HP := Lib.hid (hp d' h1 h2)
  have HS := Lib.hid (spot_size x)
  obtain ⟨R, hR⟩ : ∃ R, R = (quotG n d').cells := ⟨_, rfl⟩
  have HBU := Lib.hid (hR ▸ quot_built (n / 256) (n % 256) d')
  obtain ⟨W0, hW0⟩ : ∃ W0, W0 = (w.alloc (.cells x.cells 23)).alloc (.cells (quotCode.map (Value.int .u8)).toArray 5) := ⟨_, rfl⟩
  have hl : W0 = (w.alloc (.cells x.cells 23)).alloc (.cells #[.int .u8 175, .int .u8 6, .int .u8 16, .int .u8 41, .int .u8 23, .int .u8 56, .int .u8 3, .int .u8 186, .int .u8 56, .int .u8 2, .int .u8 146, .int .u8 44, .int .u8 16, .int .u8 245, .int .u8 118] 5) := hW0
  have HL := Lib.hid hl
  have HX0 := Lib.hid (show Ext w W0 by rw [hW0]; exact (Ext.alloc w _).alloc' _)
  have sz : W0.heap.size = w.heap.size + 2 := by rw [hW0]; simp
  have e4 : W0.heap[w.heap.size]? = some (.cells x.cells 23 (0, 0)) := by
    rw [hW0, RowKit.Below.heap_alloc _ _ _ (by simp)]; exact heap_alloc_new _ _
  have e7 : W0.heap[w.heap.size + 1]? = some (.cells (quotCode.map (Value.int .u8)).toArray 5 (0, 0)) := by
    rw [hW0]; simpa using heap_alloc_new (w.alloc (.cells x.cells 23)) (.cells (quotCode.map (Value.int .u8)).toArray 5)
  have HR := Lib.hid (range_of_row e4)
  have hrom : (W0.alloc (.cells romZ 5)).drew.heap[w.heap.size + 2]? = some (.cells romZ 5 (0, 0)) := by
    have h := heap_alloc_new W0 (.cells romZ 5)
    rw [sz] at h; exact h
  have HST := Lib.hid (starts_any (W0.alloc (.cells romZ 5)).drew x hx (quotG n d') (quotG_ok n d' ⟨hn0, hn1⟩ ⟨by omega, h2⟩) (w.heap.size + 2) hrom quotCode (by decide) (w.heap.size + 1) (by show (W0.alloc (.cells romZ 5)).heap[w.heap.size + 1]? = _; rw [RowKit.Below.heap_alloc _ _ _ (by omega)]; exact e7))
  rw [← hR] at HST
  obtain ⟨T, hT⟩ : ∃ T, T = St.run 20000 (quotS x n d') := ⟨_, rfl⟩
  have HT := Lib.hid hT
  have HD := Lib.hid hd'
  clear hrom hp e4 e7 hl hW0 hR hT hd'
  go_enter Tryz.func3, Tryz.ntmps3
  go_upto_region 3 with fail
  rw [← HD.out, ← HL.out]
  refine wp_region_late 9 (fun w' => w'.rangeAt w.heap.size 0 x.cells.toList) (by kernel_rfl) ((World.rangeAt_drew _ _ _ _).2 HR.out) (fun hHeld => ?_)
  refine wpAnyT_take (i := 0) (oi := { dst := some 13, op := Go.Op.load 23 (Go.Operand.tmp 3), type := 23, pos := "plain33.go:84", after := #[], guard := none }) (v := .agg x.cells) [9] rfl (by decide) (by kernel_rfl) (by kernel_rfl) (by kernel_rfl) (by kernel_rfl) (fun _ _ _ h => h) (yieldsIf_load_mid rfl _ _ rfl w.heap.size 0 rfl x.cells.toList _ (fun _ h => h) Tryz.underlying23 rfl (by rw [HS.out]; simp)) hHeld ?Lr0
  try simp only [Act.put, List.setIfInBounds_toArray, List.set_cons_zero, List.set_cons_succ]
  refine wpAnyT_pure (i := 2) (oi := { dst := some 15, op := Go.Op.move (Go.Operand.tmp 7), type := 25, pos := "plain33.go:84", after := #[], guard := none }) (v := ?Lv2) rfl (by kernel_rfl) (by kernel_rfl) (by kernel_rfl) (fun _ _ _ h => h) (Or.inl ⟨by rfl, ?Ly2⟩) ?Lr2
  case Ly2 => (intro w; go_simp; try with_reducible rfl)
  try simp only [Act.put, List.setIfInBounds_toArray, List.set_cons_zero, List.set_cons_succ]
  refine wpAnyT_pure (i := 3) (oi := { dst := some 16, op := Go.Op.move (Go.Operand.tmp 1), type := 24, pos := "plain33.go:84", after := #[], guard := none }) (v := ?Lv3) rfl (by kernel_rfl) (by kernel_rfl) (by kernel_rfl) (fun _ _ _ h => h) (Or.inl ⟨by rfl, ?Ly3⟩) ?Lr3
  case Ly3 => (intro w; go_simp; try with_reducible rfl)
  try simp only [Act.put, List.setIfInBounds_toArray, List.set_cons_zero, List.set_cons_succ]
  refine wpAnyT_pure (i := 5) (oi := { dst := some 18, op := Go.Op.move (Go.Operand.tmp 1), type := 24, pos := "plain33.go:84", after := #[], guard := none }) (v := ?Lv5) rfl (by kernel_rfl) (by kernel_rfl) (by kernel_rfl) (fun _ _ _ h => h) (Or.inl ⟨by rfl, ?Ly5⟩) ?Lr5
  case Ly5 => (intro w; go_simp; try with_reducible rfl)
  try simp only [Act.put, List.setIfInBounds_toArray, List.set_cons_zero, List.set_cons_succ]
  refine wpAnyT_pure (i := 7) (oi := { dst := some 20, op := Go.Op.move (Go.Operand.tmp 2), type := 5, pos := "plain33.go:84", after := #[], guard := none }) (v := ?Lv7) rfl (by kernel_rfl) (by kernel_rfl) (by kernel_rfl) (fun _ _ _ h => h) (Or.inl ⟨by rfl, ?Ly7⟩) ?Lr7
  case Ly7 => (intro w; go_simp; try with_reducible rfl)
  try simp only [Act.put, List.setIfInBounds_toArray, List.set_cons_zero, List.set_cons_succ]
  refine wpAnyT_one (i := 1) (o := { dst := some 14, op := Go.Op.call { callee := Go.Callee.value (Go.Operand.func 11), args := #[], argTypes := #[] }, type := 25, pos := "plain33.go:84", after := #[], guard := none }) (by kernel_rfl) rfl (by decide) (fun K hK => ?_)
  go_simp
  (go_at_call 11; refine Calls.mono (blank_any _) ?_; rintro e W ⟨rfl, rfl⟩)
  try go_wp2_with fail
  refine hK.out _ _ ?_ (fun hHeld => ?_)
  · exact (by first | exact hHeld | exact World.rangeAt_alloc hHeld _)
  clear hK K
  try simp only [Act.put, List.setIfInBounds_toArray, List.set_cons_zero, List.set_cons_succ]
  refine wpAnyT_one (i := 4) (o := { dst := some 17, op := Go.Op.call { callee := Go.Callee.value (Go.Operand.func 12), args := #[Go.Operand.tmp 16], argTypes := #[24] }, type := 5, pos := "plain33.go:84", after := #[{ on := 3, ground := Go.Ground.data }, { on := 1, ground := Go.Ground.chain }], guard := none }) (by kernel_rfl) rfl (by decide) (fun K hK => ?_)
  go_simp
  (go_at_call 12; refine Calls.mono (high_any_ n hn0 hn1 _) ?_; rintro e W ⟨rfl, rfl⟩)
  try go_wp2_with fail
  refine hK.out _ _ ?_ (fun hHeld => ?_)
  · exact (by first | exact hHeld | exact World.rangeAt_alloc hHeld _)
  clear hK K
  try simp only [Act.put, List.setIfInBounds_toArray, List.set_cons_zero, List.set_cons_succ]
  refine wpAnyT_one (i := 6) (o := { dst := some 19, op := Go.Op.call { callee := Go.Callee.value (Go.Operand.func 13), args := #[Go.Operand.tmp 18], argTypes := #[24] }, type := 5, pos := "plain33.go:84", after := #[{ on := 5, ground := Go.Ground.data }, { on := 4, ground := Go.Ground.chain }], guard := none }) (by kernel_rfl) rfl (by decide) (fun K hK => ?_)
  go_simp
  (go_at_call 13; refine Calls.mono (low_any_ n _) ?_; rintro e W ⟨rfl, rfl⟩)
  try go_wp2_with fail
  refine hK.out _ _ ?_ (fun hHeld => ?_)
  · exact (by first | exact hHeld | exact World.rangeAt_alloc hHeld _)
  clear hK K
  try simp only [Act.put, List.setIfInBounds_toArray, List.set_cons_zero, List.set_cons_succ]
  refine wpAnyT_pure (i := 8) (oi := { dst := some 21, op := Go.Op.build 31 #[(6, Go.Operand.tmp 17), (7, Go.Operand.tmp 19), (4, Go.Operand.tmp 20)], type := 31, pos := "plain33.go:84", after := #[{ on := 4, ground := Go.Ground.data }, { on := 6, ground := Go.Ground.data }, { on := 7, ground := Go.Ground.data }], guard := none }) (v := .agg R) rfl (by kernel_rfl) (by kernel_rfl) (by kernel_rfl) (fun _ _ _ h => h) (yields_build rfl _ _ rfl R (by simpa [Act.eval] using HBU.out)) ?Lr8
  try simp only [Act.put, List.setIfInBounds_toArray, List.set_cons_zero, List.set_cons_succ]
  refine wpAnyT_late (o := { dst := some 22, op := Go.Op.call { callee := Go.Callee.value (Go.Operand.func 10), args := #[Go.Operand.tmp 13, Go.Operand.tmp 14, Go.Operand.tmp 15, Go.Operand.tmp 21], argTypes := #[23, 25, 25, 31] }, type := 26, pos := "plain33.go:84", after := #[{ on := 0, ground := Go.Ground.data }, { on := 1, ground := Go.Ground.data }, { on := 2, ground := Go.Ground.data }, { on := 8, ground := Go.Ground.data }, { on := 6, ground := Go.Ground.chain }], guard := none }) (by kernel_rfl) rfl (fun K hK => ?_)
  go_simp
  (go_at_call 10; refine Calls.mono HST.out ?_; rintro e W hB; obtain ⟨q, m, w1, rfl, hx1, hf1, ht1, hb1, hq1, rfl⟩ := hB)
  try go_wp2_with fail
  refine hK.out _ _ ?_
  clear hK K
  try simp only [Act.put, List.setIfInBounds_toArray, List.set_cons_zero, List.set_cons_succ]
  refine wpAnyT_pure (i := 10) (oi := { dst := some 8, op := Go.Op.assign (Go.Operand.tmp 22), type := 26, pos := "plain33.go:84", after := #[{ on := 9, ground := Go.Ground.data }, { on := 9, ground := Go.Ground.chain }, { on := 0, ground := Go.Ground.phase }, { on := 1, ground := Go.Ground.phase }, { on := 2, ground := Go.Ground.phase }, { on := 3, ground := Go.Ground.phase }, { on := 4, ground := Go.Ground.phase }, { on := 5, ground := Go.Ground.phase }, { on := 6, ground := Go.Ground.phase }, { on := 7, ground := Go.Ground.phase }, { on := 8, ground := Go.Ground.phase }, { on := 9, ground := Go.Ground.phase }], guard := none }) (v := ?Lv10) rfl (by kernel_rfl) (by kernel_rfl) (by kernel_rfl) (fun _ _ _ h => h) (Or.inl ⟨by rfl, ?Ly10⟩) ?Lr10
  case Ly10 => (intro w; go_simp; try with_reducible rfl)
  try simp only [Act.put, List.setIfInBounds_toArray, List.set_cons_zero, List.set_cons_succ]
  refine wpAnyT_done (by kernel_rfl) ?_ _
  go_upto_region 8 with (first | (go_at_call 14; refine Calls.mono (run_mk hb1 ht1 hq1 (quotS x n d') _ _ _ rfl 20000 (by decide) HP.out.ok HP.out.fits T HT.out) ?_; rintro e W ⟨rfl, w2, hx2, hb2, rfl⟩) | (go_at_call 15; refine Calls.mono (regs_any_ hb2 (hq1.ext hx2) T.c T.sl T.b) ?_; rintro e W ⟨rfl, w3, hx3, hb3, rfl⟩) | ((with_reducible refine wpList_store_row (o := ⟨none, .store 31 _ _, _, _, _, _⟩) rfl 31 _ _ rfl w3.heap.size T.c.g.cells rfl rfl 31 zeroG.cells ?_ ?_ ?_ ?_ ?_); (· exact regs_new _ _ _ _ _ _); (· exact regs_size _); (· rfl); (· exact regs_one _)))
  rw [regs_row hb3]
  have hg := fun i v hv => newc (arr := T.c.g.cells) (t := 31) hb3 (Ext.refl _) T.c T.sl T.b i (v := v) hv
  have k26 := hg 26 (.bool T.c.g.halt) rfl
  have k6 := hg 6 (.int .u8 T.c.g.h) rfl
  have k7 := hg 7 (.int .u8 T.c.g.l) rfl
  have k0 := hg 0 (.int .u8 T.c.g.a) rfl
  have k2 := hg 2 (.int .u8 T.c.g.b) rfl
  have k4 := hg 4 (.int .u8 T.c.g.d) rfl
  rw [show T.c.g.halt = true by rw [HT.out]; exact HP.out.halt] at k26
  rw [show T.c.g.a = n % d' by rw [HT.out]; exact HP.out.a] at k0
  rw [show T.c.g.b = 0 by rw [HT.out]; exact HP.out.b] at k2
  rw [show T.c.g.d = d' by rw [HT.out]; exact HP.out.d] at k4
  have HH := Lib.hid (show 0 ≤ T.c.g.h ∧ T.c.g.h < 256 by rw [HT.out]; exact HP.out.h)
  have HLo := Lib.hid (show 0 ≤ T.c.g.l ∧ T.c.g.l < 256 by rw [HT.out]; exact HP.out.l)
  have HHL := Lib.hid (show T.c.g.h * 256 + T.c.g.l = n / d' by rw [HT.out]; exact HP.out.hl)
  clear hg
  have hz : ¬ d' = 0 := by omega
  have e1 : n.tdiv d' = n / d' := Int.tdiv_eq_ediv_of_nonneg hn0
  have e2 : n.tmod d' = n % d' := Int.tmod_eq_emod_of_nonneg hn0
  have b0 : 0 ≤ n / d' := Int.ediv_nonneg hn0 (by omega)
  have b1 : n / d' < 65536 := Int.lt_of_le_of_lt (Int.ediv_le_self _ hn0) hn1
  have ew : IntKind.u16.wrap d' = d' := u16_wrap_id d' (by omega) (by omega)
  have r0 : 0 ≤ n % d' := Int.emod_nonneg _ (by omega)
  have r1 : n % d' < 256 := Int.lt_trans (Int.emod_lt_of_pos _ (by omega)) h2
  have ew2 : IntKind.u16.wrap (n % d') = n % d' := u16_wrap_id _ r0 (by omega)
  have ew1 : IntKind.u16.wrap (n / d') = n / d' := u16_wrap_id _ b0 b1
  refine wp_region_late 35 (fun w' => w'.cell? ⟨w3.heap.size, 26, none⟩ = some (.bool true) ∧ w'.cell? ⟨w3.heap.size, 6, none⟩ = some (.int .u8 T.c.g.h) ∧ w'.cell? ⟨w3.heap.size, 7, none⟩ = some (.int .u8 T.c.g.l) ∧ w'.cell? ⟨w3.heap.size, 0, none⟩ = some ((.int .u8 (n % d'))) ∧ w'.cell? ⟨w3.heap.size, 2, none⟩ = some (.int .u8 0) ∧ w'.cell? ⟨w3.heap.size, 4, none⟩ = some ((.int .u8 d'))) (by kernel_rfl) (by simp only [World.cell?_drew]; exact ⟨k26, k6, k7, k0, k2, k4⟩) (fun hHeld => ?_)
  refine wpAnyT_pure (i := 0) (oi := { dst := some 29, op := Go.Op.fieldAddr 31 (Go.Operand.tmp 9) 26, type := 0, pos := "plain33.go:90", after := #[], guard := none }) (v := ?Mv0) rfl (by kernel_rfl) (by kernel_rfl) (by kernel_rfl) (fun _ _ _ h => h) (Or.inl ⟨by rfl, ?My0⟩) ?Mr0
  case My0 => (intro w; go_simp; try with_reducible rfl)
  try simp only [Act.put, List.setIfInBounds_toArray, List.set_cons_zero, List.set_cons_succ]
  refine wpAnyT_take (i := 1) (oi := { dst := some 30, op := Go.Op.load 4 (Go.Operand.tmp 29), type := 4, pos := "plain33.go:90", after := #[{ on := 0, ground := Go.Ground.data }], guard := none }) (v := ?Mv1) [35] rfl (by decide) (by kernel_rfl) (by kernel_rfl) (by kernel_rfl) (by kernel_rfl) (fun _ _ _ h => h) (Or.inl ⟨by rfl, ?My1⟩) hHeld ?Mr1
  case My1 => (intro w hSw; obtain ⟨s26, s6, s7, s0, s2, s4⟩ := hSw; go_simp; try with_reducible rfl)
  try simp only [Act.put, List.setIfInBounds_toArray, List.set_cons_zero, List.set_cons_succ]
  refine wpAnyT_pure (i := 2) (oi := { dst := some 31, op := Go.Op.move (Go.Operand.tmp 30), type := 4, pos := "plain33.go:90", after := #[{ on := 1, ground := Go.Ground.data }], guard := none }) (v := ?Mv2) rfl (by kernel_rfl) (by kernel_rfl) (by kernel_rfl) (fun _ _ _ h => h) (Or.inl ⟨by rfl, ?My2⟩) ?Mr2
  case My2 => (intro w; go_simp; try with_reducible rfl)
  try simp only [Act.put, List.setIfInBounds_toArray, List.set_cons_zero, List.set_cons_succ]
  refine wpAnyT_pure (i := 3) (oi := { dst := some 32, op := Go.Op.fieldAddr 31 (Go.Operand.tmp 9) 6, type := 0, pos := "plain33.go:90", after := #[{ on := 2, ground := Go.Ground.guard }], guard := some (2, true) }) (v := ?Mv3) rfl (by kernel_rfl) (by kernel_rfl) (by kernel_rfl) (fun _ _ _ h => h) (Or.inl ⟨by rfl, ?My3⟩) ?Mr3
  case My3 => (intro w; go_simp; try with_reducible rfl)
  try simp only [Act.put, List.setIfInBounds_toArray, List.set_cons_zero, List.set_cons_succ]
  refine wpAnyT_take (i := 4) (oi := { dst := some 33, op := Go.Op.load 5 (Go.Operand.tmp 32), type := 5, pos := "plain33.go:90", after := #[{ on := 3, ground := Go.Ground.data }, { on := 2, ground := Go.Ground.guard }], guard := some (2, true) }) (v := ?Mv4) [35] rfl (by decide) (by kernel_rfl) (by kernel_rfl) (by kernel_rfl) (by kernel_rfl) (fun _ _ _ h => h) (Or.inl ⟨by rfl, ?My4⟩) hHeld ?Mr4
  case My4 => (intro w hSw; obtain ⟨s26, s6, s7, s0, s2, s4⟩ := hSw; go_simp; try with_reducible rfl)
  try simp only [Act.put, List.setIfInBounds_toArray, List.set_cons_zero, List.set_cons_succ]
  refine wpAnyT_pure (i := 5) (oi := { dst := some 34, op := Go.Op.fieldAddr 31 (Go.Operand.tmp 9) 7, type := 0, pos := "plain33.go:90", after := #[{ on := 2, ground := Go.Ground.guard }], guard := some (2, true) }) (v := ?Mv5) rfl (by kernel_rfl) (by kernel_rfl) (by kernel_rfl) (fun _ _ _ h => h) (Or.inl ⟨by rfl, ?My5⟩) ?Mr5
  case My5 => (intro w; go_simp; try with_reducible rfl)
  try simp only [Act.put, List.setIfInBounds_toArray, List.set_cons_zero, List.set_cons_succ]
  refine wpAnyT_take (i := 6) (oi := { dst := some 35, op := Go.Op.load 5 (Go.Operand.tmp 34), type := 5, pos := "plain33.go:90", after := #[{ on := 5, ground := Go.Ground.data }, { on := 2, ground := Go.Ground.guard }], guard := some (2, true) }) (v := ?Mv6) [35] rfl (by decide) (by kernel_rfl) (by kernel_rfl) (by kernel_rfl) (by kernel_rfl) (fun _ _ _ h => h) (Or.inl ⟨by rfl, ?My6⟩) hHeld ?Mr6
  case My6 => (intro w hSw; obtain ⟨s26, s6, s7, s0, s2, s4⟩ := hSw; go_simp; try with_reducible rfl)
  try simp only [Act.put, List.setIfInBounds_toArray, List.set_cons_zero, List.set_cons_succ]
  refine wpAnyT_pure (i := 8) (oi := { dst := some 37, op := Go.Op.move (Go.Operand.tmp 1), type := 24, pos := "plain33.go:90", after := #[{ on := 2, ground := Go.Ground.guard }], guard := some (2, true) }) (v := ?Mv8) rfl (by kernel_rfl) (by kernel_rfl) (by kernel_rfl) (fun _ _ _ h => h) (Or.inl ⟨by rfl, ?My8⟩) ?Mr8
  case My8 => (intro w; go_simp; try with_reducible rfl)
  try simp only [Act.put, List.setIfInBounds_toArray, List.set_cons_zero, List.set_cons_succ]
  refine wpAnyT_pure (i := 9) (oi := { dst := some 38, op := Go.Op.move (Go.Operand.tmp 2), type := 5, pos := "plain33.go:90", after := #[{ on := 2, ground := Go.Ground.guard }], guard := some (2, true) }) (v := ?Mv9) rfl (by kernel_rfl) (by kernel_rfl) (by kernel_rfl) (fun _ _ _ h => h) (Or.inl ⟨by rfl, ?My9⟩) ?Mr9
  case My9 => (intro w; go_simp; try with_reducible rfl)
  try simp only [Act.put, List.setIfInBounds_toArray, List.set_cons_zero, List.set_cons_succ]
  refine wpAnyT_pure (i := 10) (oi := { dst := some 39, op := Go.Op.convert 5 24 (Go.Operand.tmp 38), type := 24, pos := "plain33.go:90", after := #[{ on := 9, ground := Go.Ground.data }, { on := 2, ground := Go.Ground.guard }], guard := some (2, true) }) (v := ?Mv10) rfl (by kernel_rfl) (by kernel_rfl) (by kernel_rfl) (fun _ _ _ h => h) (Or.inl ⟨by rfl, ?My10⟩) ?Mr10
  case My10 => (intro w; go_simp; try with_reducible rfl)
  try simp only [Act.put, List.setIfInBounds_toArray, List.set_cons_zero, List.set_cons_succ]
  refine wpAnyT_pure (i := 11) (oi := { dst := some 40, op := Go.Op.binOp Go.BinOp.quo 24 (Go.Operand.tmp 37) (Go.Operand.tmp 39) 24, type := 24, pos := "plain33.go:90", after := #[{ on := 8, ground := Go.Ground.data }, { on := 10, ground := Go.Ground.data }, { on := 2, ground := Go.Ground.guard }], guard := some (2, true) }) (v := ?Mv11) rfl (by kernel_rfl) (by kernel_rfl) (by kernel_rfl) (fun _ _ _ h => h) (Or.inl ⟨by rfl, ?My11⟩) ?Mr11
  case My11 => (intro w; go_simp; try with_reducible rfl)
  try simp only [Act.put, List.setIfInBounds_toArray, List.set_cons_zero, List.set_cons_succ]
  refine wpAnyT_one (i := 7) (o := { dst := some 36, op := Go.Op.call { callee := Go.Callee.value (Go.Operand.func 16), args := #[Go.Operand.tmp 33, Go.Operand.tmp 35], argTypes := #[5, 5] }, type := 24, pos := "plain33.go:90", after := #[{ on := 4, ground := Go.Ground.data }, { on := 6, ground := Go.Ground.data }, { on := 2, ground := Go.Ground.chain }, { on := 2, ground := Go.Ground.guard }], guard := some (2, true) }) (by kernel_rfl) rfl (by decide) (fun K hK => ?_)
  go_simp
  (go_at_call 16; refine Calls.mono (pair_mk T.c.g.h T.c.g.l (n / d') HHL.out HH.out HLo.out _) ?_; rintro e W ⟨rfl, rfl⟩)
  try go_wp2_with fail
  refine hK.out _ _ ?_ (fun hHeld => ?_)
  · exact hHeld
  clear hK K
  try simp only [Act.put, List.setIfInBounds_toArray, List.set_cons_zero, List.set_cons_succ]
  refine wpAnyT_pure (i := 12) (oi := { dst := some 41, op := Go.Op.binOp Go.BinOp.eql 24 (Go.Operand.tmp 36) (Go.Operand.tmp 40) 24, type := 4, pos := "plain33.go:90", after := #[{ on := 7, ground := Go.Ground.data }, { on := 11, ground := Go.Ground.data }, { on := 2, ground := Go.Ground.guard }], guard := some (2, true) }) (v := ?Mv12) rfl (by kernel_rfl) (by kernel_rfl) (by kernel_rfl) (fun _ _ _ h => h) (Or.inl ⟨by rfl, ?My12⟩) ?Mr12
  case My12 => (intro w; go_simp; try with_reducible rfl)
  try simp only [Act.put, List.setIfInBounds_toArray, List.set_cons_zero, List.set_cons_succ]
  refine wpAnyT_pure (i := 13) (oi := { dst := some 42, op := Go.Op.pick (Go.Operand.tmp 31) (Go.Operand.tmp 41) (Go.Operand.const (Go.Value.bool false)), type := 4, pos := "plain33.go:90", after := #[{ on := 2, ground := Go.Ground.data }, { on := 12, ground := Go.Ground.data }], guard := none }) (v := ?Mv13) rfl (by kernel_rfl) (by kernel_rfl) (by kernel_rfl) (fun _ _ _ h => h) (Or.inl ⟨by rfl, ?My13⟩) ?Mr13
  case My13 => (intro w; go_simp; try with_reducible rfl)
  try simp only [Act.put, List.setIfInBounds_toArray, List.set_cons_zero, List.set_cons_succ]
  refine wpAnyT_pure (i := 14) (oi := { dst := some 43, op := Go.Op.move (Go.Operand.tmp 42), type := 4, pos := "plain33.go:90", after := #[{ on := 13, ground := Go.Ground.data }, { on := 7, ground := Go.Ground.chain }], guard := none }) (v := ?Mv14) rfl (by kernel_rfl) (by kernel_rfl) (by kernel_rfl) (fun _ _ _ h => h) (Or.inl ⟨by rfl, ?My14⟩) ?Mr14
  case My14 => (intro w; go_simp; try with_reducible rfl)
  try simp only [Act.put, List.setIfInBounds_toArray, List.set_cons_zero, List.set_cons_succ]
  refine wpAnyT_pure (i := 15) (oi := { dst := some 44, op := Go.Op.fieldAddr 31 (Go.Operand.tmp 9) 0, type := 0, pos := "plain33.go:90", after := #[{ on := 14, ground := Go.Ground.guard }], guard := some (14, true) }) (v := ?Mv15) rfl (by kernel_rfl) (by kernel_rfl) (by kernel_rfl) (fun _ _ _ h => h) (Or.inl ⟨by rfl, ?My15⟩) ?Mr15
  case My15 => (intro w; go_simp; try with_reducible rfl)
  try simp only [Act.put, List.setIfInBounds_toArray, List.set_cons_zero, List.set_cons_succ]
  refine wpAnyT_take (i := 16) (oi := { dst := some 45, op := Go.Op.load 5 (Go.Operand.tmp 44), type := 5, pos := "plain33.go:90", after := #[{ on := 15, ground := Go.Ground.data }, { on := 14, ground := Go.Ground.guard }], guard := some (14, true) }) (v := ?Mv16) [35] rfl (by decide) (by kernel_rfl) (by kernel_rfl) (by kernel_rfl) (by kernel_rfl) (fun _ _ _ h => h) (Or.inl ⟨by rfl, ?My16⟩) hHeld ?Mr16
  case My16 => (intro w hSw; obtain ⟨s26, s6, s7, s0, s2, s4⟩ := hSw; go_simp; try with_reducible rfl)
  try simp only [Act.put, List.setIfInBounds_toArray, List.set_cons_zero, List.set_cons_succ]
  refine wpAnyT_pure (i := 17) (oi := { dst := some 46, op := Go.Op.convert 5 24 (Go.Operand.tmp 45), type := 24, pos := "plain33.go:90", after := #[{ on := 16, ground := Go.Ground.data }, { on := 14, ground := Go.Ground.guard }], guard := some (14, true) }) (v := ?Mv17) rfl (by kernel_rfl) (by kernel_rfl) (by kernel_rfl) (fun _ _ _ h => h) (Or.inl ⟨by rfl, ?My17⟩) ?Mr17
  case My17 => (intro w; go_simp; try with_reducible rfl)
  try simp only [Act.put, List.setIfInBounds_toArray, List.set_cons_zero, List.set_cons_succ]
  refine wpAnyT_pure (i := 18) (oi := { dst := some 47, op := Go.Op.move (Go.Operand.tmp 1), type := 24, pos := "plain33.go:90", after := #[{ on := 14, ground := Go.Ground.guard }], guard := some (14, true) }) (v := ?Mv18) rfl (by kernel_rfl) (by kernel_rfl) (by kernel_rfl) (fun _ _ _ h => h) (Or.inl ⟨by rfl, ?My18⟩) ?Mr18
  case My18 => (intro w; go_simp; try with_reducible rfl)
  try simp only [Act.put, List.setIfInBounds_toArray, List.set_cons_zero, List.set_cons_succ]
  refine wpAnyT_pure (i := 19) (oi := { dst := some 48, op := Go.Op.move (Go.Operand.tmp 2), type := 5, pos := "plain33.go:90", after := #[{ on := 14, ground := Go.Ground.guard }], guard := some (14, true) }) (v := ?Mv19) rfl (by kernel_rfl) (by kernel_rfl) (by kernel_rfl) (fun _ _ _ h => h) (Or.inl ⟨by rfl, ?My19⟩) ?Mr19
  case My19 => (intro w; go_simp; try with_reducible rfl)
  try simp only [Act.put, List.setIfInBounds_toArray, List.set_cons_zero, List.set_cons_succ]
  refine wpAnyT_pure (i := 20) (oi := { dst := some 49, op := Go.Op.convert 5 24 (Go.Operand.tmp 48), type := 24, pos := "plain33.go:90", after := #[{ on := 19, ground := Go.Ground.data }, { on := 14, ground := Go.Ground.guard }], guard := some (14, true) }) (v := ?Mv20) rfl (by kernel_rfl) (by kernel_rfl) (by kernel_rfl) (fun _ _ _ h => h) (Or.inl ⟨by rfl, ?My20⟩) ?Mr20
  case My20 => (intro w; go_simp; try with_reducible rfl)
  try simp only [Act.put, List.setIfInBounds_toArray, List.set_cons_zero, List.set_cons_succ]
  refine wpAnyT_pure (i := 21) (oi := { dst := some 50, op := Go.Op.binOp Go.BinOp.rem 24 (Go.Operand.tmp 47) (Go.Operand.tmp 49) 24, type := 24, pos := "plain33.go:90", after := #[{ on := 18, ground := Go.Ground.data }, { on := 20, ground := Go.Ground.data }, { on := 14, ground := Go.Ground.guard }], guard := some (14, true) }) (v := ?Mv21) rfl (by kernel_rfl) (by kernel_rfl) (by kernel_rfl) (fun _ _ _ h => h) (Or.inl ⟨by rfl, ?My21⟩) ?Mr21
  case My21 => (intro w; go_simp; try with_reducible rfl)
  try simp only [Act.put, List.setIfInBounds_toArray, List.set_cons_zero, List.set_cons_succ]
  refine wpAnyT_pure (i := 22) (oi := { dst := some 51, op := Go.Op.binOp Go.BinOp.eql 24 (Go.Operand.tmp 46) (Go.Operand.tmp 50) 24, type := 4, pos := "plain33.go:90", after := #[{ on := 17, ground := Go.Ground.data }, { on := 21, ground := Go.Ground.data }, { on := 14, ground := Go.Ground.guard }], guard := some (14, true) }) (v := ?Mv22) rfl (by kernel_rfl) (by kernel_rfl) (by kernel_rfl) (fun _ _ _ h => h) (Or.inl ⟨by rfl, ?My22⟩) ?Mr22
  case My22 => (intro w; go_simp; try with_reducible rfl)
  try simp only [Act.put, List.setIfInBounds_toArray, List.set_cons_zero, List.set_cons_succ]
  refine wpAnyT_pure (i := 23) (oi := { dst := some 52, op := Go.Op.pick (Go.Operand.tmp 43) (Go.Operand.tmp 51) (Go.Operand.const (Go.Value.bool false)), type := 4, pos := "plain33.go:90", after := #[{ on := 14, ground := Go.Ground.data }, { on := 22, ground := Go.Ground.data }], guard := none }) (v := ?Mv23) rfl (by kernel_rfl) (by kernel_rfl) (by kernel_rfl) (fun _ _ _ h => h) (Or.inl ⟨by rfl, ?My23⟩) ?Mr23
  case My23 => (intro w; go_simp; try with_reducible rfl)
  try simp only [Act.put, List.setIfInBounds_toArray, List.set_cons_zero, List.set_cons_succ]
  refine wpAnyT_pure (i := 24) (oi := { dst := some 53, op := Go.Op.move (Go.Operand.tmp 52), type := 4, pos := "plain33.go:90", after := #[{ on := 23, ground := Go.Ground.data }, { on := 14, ground := Go.Ground.chain }], guard := none }) (v := ?Mv24) rfl (by kernel_rfl) (by kernel_rfl) (by kernel_rfl) (fun _ _ _ h => h) (Or.inl ⟨by rfl, ?My24⟩) ?Mr24
  case My24 => (intro w; go_simp; try with_reducible rfl)
  try simp only [Act.put, List.setIfInBounds_toArray, List.set_cons_zero, List.set_cons_succ]
  refine wpAnyT_pure (i := 25) (oi := { dst := some 54, op := Go.Op.fieldAddr 31 (Go.Operand.tmp 9) 2, type := 0, pos := "plain33.go:90", after := #[{ on := 24, ground := Go.Ground.guard }], guard := some (24, true) }) (v := ?Mv25) rfl (by kernel_rfl) (by kernel_rfl) (by kernel_rfl) (fun _ _ _ h => h) (Or.inl ⟨by rfl, ?My25⟩) ?Mr25
  case My25 => (intro w; go_simp; try with_reducible rfl)
  try simp only [Act.put, List.setIfInBounds_toArray, List.set_cons_zero, List.set_cons_succ]
  refine wpAnyT_take (i := 26) (oi := { dst := some 55, op := Go.Op.load 5 (Go.Operand.tmp 54), type := 5, pos := "plain33.go:90", after := #[{ on := 25, ground := Go.Ground.data }, { on := 24, ground := Go.Ground.guard }], guard := some (24, true) }) (v := ?Mv26) [35] rfl (by decide) (by kernel_rfl) (by kernel_rfl) (by kernel_rfl) (by kernel_rfl) (fun _ _ _ h => h) (Or.inl ⟨by rfl, ?My26⟩) hHeld ?Mr26
  case My26 => (intro w hSw; obtain ⟨s26, s6, s7, s0, s2, s4⟩ := hSw; go_simp; try with_reducible rfl)
  try simp only [Act.put, List.setIfInBounds_toArray, List.set_cons_zero, List.set_cons_succ]
  refine wpAnyT_pure (i := 27) (oi := { dst := some 56, op := Go.Op.binOp Go.BinOp.eql 5 (Go.Operand.tmp 55) (Go.Operand.const (Go.Value.int Go.IntKind.u8 0)) 5, type := 4, pos := "plain33.go:90", after := #[{ on := 26, ground := Go.Ground.data }, { on := 24, ground := Go.Ground.guard }], guard := some (24, true) }) (v := ?Mv27) rfl (by kernel_rfl) (by kernel_rfl) (by kernel_rfl) (fun _ _ _ h => h) (Or.inl ⟨by rfl, ?My27⟩) ?Mr27
  case My27 => (intro w; go_simp; try with_reducible rfl)
  try simp only [Act.put, List.setIfInBounds_toArray, List.set_cons_zero, List.set_cons_succ]
  refine wpAnyT_pure (i := 28) (oi := { dst := some 57, op := Go.Op.pick (Go.Operand.tmp 53) (Go.Operand.tmp 56) (Go.Operand.const (Go.Value.bool false)), type := 4, pos := "plain33.go:90", after := #[{ on := 24, ground := Go.Ground.data }, { on := 27, ground := Go.Ground.data }], guard := none }) (v := ?Mv28) rfl (by kernel_rfl) (by kernel_rfl) (by kernel_rfl) (fun _ _ _ h => h) (Or.inl ⟨by rfl, ?My28⟩) ?Mr28
  case My28 => (intro w; go_simp; try with_reducible rfl)
  try simp only [Act.put, List.setIfInBounds_toArray, List.set_cons_zero, List.set_cons_succ]
  refine wpAnyT_pure (i := 29) (oi := { dst := some 58, op := Go.Op.move (Go.Operand.tmp 57), type := 4, pos := "plain33.go:90", after := #[{ on := 28, ground := Go.Ground.data }, { on := 24, ground := Go.Ground.chain }], guard := none }) (v := ?Mv29) rfl (by kernel_rfl) (by kernel_rfl) (by kernel_rfl) (fun _ _ _ h => h) (Or.inl ⟨by rfl, ?My29⟩) ?Mr29
  case My29 => (intro w; go_simp; try with_reducible rfl)
  try simp only [Act.put, List.setIfInBounds_toArray, List.set_cons_zero, List.set_cons_succ]
  refine wpAnyT_pure (i := 30) (oi := { dst := some 59, op := Go.Op.fieldAddr 31 (Go.Operand.tmp 9) 4, type := 0, pos := "plain33.go:90", after := #[{ on := 29, ground := Go.Ground.guard }], guard := some (29, true) }) (v := ?Mv30) rfl (by kernel_rfl) (by kernel_rfl) (by kernel_rfl) (fun _ _ _ h => h) (Or.inl ⟨by rfl, ?My30⟩) ?Mr30
  case My30 => (intro w; go_simp; try with_reducible rfl)
  try simp only [Act.put, List.setIfInBounds_toArray, List.set_cons_zero, List.set_cons_succ]
  refine wpAnyT_take (i := 31) (oi := { dst := some 60, op := Go.Op.load 5 (Go.Operand.tmp 59), type := 5, pos := "plain33.go:90", after := #[{ on := 30, ground := Go.Ground.data }, { on := 29, ground := Go.Ground.guard }], guard := some (29, true) }) (v := ?Mv31) [35] rfl (by decide) (by kernel_rfl) (by kernel_rfl) (by kernel_rfl) (by kernel_rfl) (fun _ _ _ h => h) (Or.inl ⟨by rfl, ?My31⟩) hHeld ?Mr31
  case My31 => (intro w hSw; obtain ⟨s26, s6, s7, s0, s2, s4⟩ := hSw; go_simp; try with_reducible rfl)
  try simp only [Act.put, List.setIfInBounds_toArray, List.set_cons_zero, List.set_cons_succ]
  refine wpAnyT_pure (i := 32) (oi := { dst := some 61, op := Go.Op.move (Go.Operand.tmp 2), type := 5, pos := "plain33.go:90", after := #[{ on := 29, ground := Go.Ground.guard }], guard := some (29, true) }) (v := ?Mv32) rfl (by kernel_rfl) (by kernel_rfl) (by kernel_rfl) (fun _ _ _ h => h) (Or.inl ⟨by rfl, ?My32⟩) ?Mr32
  case My32 => (intro w; go_simp; try with_reducible rfl)
  try simp only [Act.put, List.setIfInBounds_toArray, List.set_cons_zero, List.set_cons_succ]
  refine wpAnyT_pure (i := 33) (oi := { dst := some 62, op := Go.Op.binOp Go.BinOp.eql 5 (Go.Operand.tmp 60) (Go.Operand.tmp 61) 5, type := 4, pos := "plain33.go:90", after := #[{ on := 31, ground := Go.Ground.data }, { on := 32, ground := Go.Ground.data }, { on := 29, ground := Go.Ground.guard }], guard := some (29, true) }) (v := ?Mv33) rfl (by kernel_rfl) (by kernel_rfl) (by kernel_rfl) (fun _ _ _ h => h) (Or.inl ⟨by rfl, ?My33⟩) ?Mr33
  case My33 => (intro w; go_simp; try with_reducible rfl)
  try simp only [Act.put, List.setIfInBounds_toArray, List.set_cons_zero, List.set_cons_succ]
  refine wpAnyT_pure (i := 34) (oi := { dst := some 63, op := Go.Op.pick (Go.Operand.tmp 58) (Go.Operand.tmp 62) (Go.Operand.const (Go.Value.bool false)), type := 4, pos := "plain33.go:90", after := #[{ on := 29, ground := Go.Ground.data }, { on := 33, ground := Go.Ground.data }], guard := none }) (v := ?Mv34) rfl (by kernel_rfl) (by kernel_rfl) (by kernel_rfl) (fun _ _ _ h => h) (Or.inl ⟨by rfl, ?My34⟩) ?Mr34
  case My34 => (intro w; go_simp; try with_reducible rfl)
  try simp only [Act.put, List.setIfInBounds_toArray, List.set_cons_zero, List.set_cons_succ]
  refine wpAnyT_pure (i := 35) (oi := { dst := some 6, op := Go.Op.assign (Go.Operand.tmp 63), type := 4, pos := "plain33.go:90", after := #[{ on := 34, ground := Go.Ground.data }, { on := 29, ground := Go.Ground.chain }, { on := 0, ground := Go.Ground.phase }, { on := 1, ground := Go.Ground.phase }, { on := 2, ground := Go.Ground.phase }, { on := 3, ground := Go.Ground.phase }, { on := 4, ground := Go.Ground.phase }, { on := 5, ground := Go.Ground.phase }, { on := 6, ground := Go.Ground.phase }, { on := 7, ground := Go.Ground.phase }, { on := 8, ground := Go.Ground.phase }, { on := 9, ground := Go.Ground.phase }, { on := 10, ground := Go.Ground.phase }, { on := 11, ground := Go.Ground.phase }, { on := 12, ground := Go.Ground.phase }, { on := 13, ground := Go.Ground.phase }, { on := 14, ground := Go.Ground.phase }, { on := 15, ground := Go.Ground.phase }, { on := 16, ground := Go.Ground.phase }, { on := 17, ground := Go.Ground.phase }, { on := 18, ground := Go.Ground.phase }, { on := 19, ground := Go.Ground.phase }, { on := 20, ground := Go.Ground.phase }, { on := 21, ground := Go.Ground.phase }, { on := 22, ground := Go.Ground.phase }, { on := 23, ground := Go.Ground.phase }, { on := 24, ground := Go.Ground.phase }, { on := 25, ground := Go.Ground.phase }, { on := 26, ground := Go.Ground.phase }, { on := 27, ground := Go.Ground.phase }, { on := 28, ground := Go.Ground.phase }, { on := 29, ground := Go.Ground.phase }, { on := 30, ground := Go.Ground.phase }, { on := 31, ground := Go.Ground.phase }, { on := 32, ground := Go.Ground.phase }, { on := 33, ground := Go.Ground.phase }, { on := 34, ground := Go.Ground.phase }], guard := none }) (v := ?Mv35) rfl (by kernel_rfl) (by kernel_rfl) (by kernel_rfl) (fun _ _ _ h => h) (Or.inl ⟨by rfl, ?My35⟩) ?Mr35
  case My35 => (intro w; go_simp; try with_reducible rfl)
  try simp only [Act.put, List.setIfInBounds_toArray, List.set_cons_zero, List.set_cons_succ]
  refine wpAnyT_done (by kernel_rfl) ?_ _
  go_wp2
  go_ret
  refine ⟨rfl, ?_⟩
  have hzz : W0.heap.size ≤ (W0.alloc (.cells romZ 5)).drew.heap.size := by simp
  have hE : Ext w (w3.alloc (.cells T.c.g.cells 31)) := ((HX0.out.trans (Ext.trans ((Ext.alloc W0 _).drew') hx1)).trans ((hx2.trans hx3).alloc' _))
  first | exact ext_mk (hE) (by simp at hf1; omega) _ _ _ | exact (ext_mk (hE) (by simp at hf1; omega) _ _ _).drew' | trace_state
end Go.Proofs.YtneganpbamemmaaGreat
