/- A new machine. -/
import Derived.Test.YtneganpbamemmaaGreatZero
import Derived.Test.YtneganpbamemmaaGreatUla
import Derived.Laws.CopyOwn
import Derived.Laws.OwnMore
import Derived.Great.BuildSlice
import Derived.Test.YtneganpbamemmaaGreatLate
import Derived.Deep.MidRow
import Derived.Test.YtneganpbamemmaaGreatRun
set_option linter.unusedVariables false
set_option linter.unusedSimpArgs false
set_option linter.unusedSectionVars false
namespace Go.Proofs.YtneganpbamemmaaGreat
open Go Go.RowKit Sq

def romL : List Value := List.replicate 16384 (.int .u8 0)
def romZ : Array Value := romL.toArray
theorem mk_rom (w : World) : (Instr.makeSlice 25 (.int .i64 16384) (.int .i64 16384)).run Tryz.prog w = .ok (.slice (some ⟨w.heap.size, 0, none⟩) 16384 16384) (w.alloc (.cells romZ 5)) := by
  have h : (Tryz.prog.info? 5).map (fun i => (i.zero, i.size, i.bytes)) = some (some (.int .u8 0), 1, 1) := by kernel_rfl
  obtain ⟨i, hi, hz⟩ := Option.map_eq_some_iff.1 h
  clear h
  have hz : i.zero = some (.int .u8 0) ∧ i.size = 1 ∧ i.bytes = 1 := by simpa using hz
  have h := run_make (P := Tryz.prog) w 25 5 i (.int .u8 0) Tryz.underlying25 hi hz.1 .i64 .i64 16384 16384 (by omega) (by omega) (by rw [hz.2.2]; omega) (by omega)
  rw [h]
  have e : madeCells (Value.int .u8 0).cells ((16384 : Int).toNat * i.size) = romZ := by
    rw [hz.2.1]
    apply Array.toList_inj.1
    exact toList_madeCells_one _ _
  rw [e]
  rfl
theorem blank_any (w : World) : Calls Tryz.prog 11 #[] w fun e w' => e = .returned (.slice (some ⟨w.heap.size, 0, none⟩) 16384 16384) ∧ w.alloc (.cells romZ 5) = w' := by
  have H := fun w => mk_rom w
  go_enter Tryz.func11, Tryz.ntmps11
  go_wp2
  go_ret
  exact ⟨rfl, rfl⟩
theorem frame_any (w : World) (t : Int) (h0 : -9223372036854775808 ≤ t) (h1 : t ≤ 9223372036854775807) : Calls Tryz.prog 48 #[.int .i64 t] w fun e w' => e = .returned (.int .i64 (t % 69888)) ∧ w = w' := by
  by_cases hn : 0 ≤ t
  · have hb : 0 ≤ t % 69888 := by omega
    go_enter Tryz.func48, Tryz.ntmps48
    go_wp2
    go_ret
    exact ⟨rfl, rfl⟩
  · have hb : t.tmod 69888 = if t % 69888 = 0 then 0 else t % 69888 - 69888 := by
      rw [Int.tmod_eq_emod]
      have : ¬ 0 ≤ t := hn
      by_cases hd : (69888 : Int) ∣ t
      · rw [if_pos (.inr hd)]
        have : t % 69888 = 0 := Int.emod_eq_zero_of_dvd hd
        rw [this]; rfl
      · rw [if_neg (by omega)]
        have : t % 69888 ≠ 0 := fun h => hd (Int.dvd_of_emod_eq_zero h)
        rw [if_neg this]; rfl
    by_cases hz : t % 69888 = 0
    · have ht : t.tmod 69888 = 0 := by rw [hb, if_pos hz]
      have HZ := Lib.hid hz
      clear hb hz
      go_enter Tryz.func48, Tryz.ntmps48
      go_wp2
      go_ret
      exact ⟨ret_int HZ.out.symm, rfl⟩
    · obtain ⟨r, hr⟩ : ∃ r, t % 69888 = r := ⟨_, rfl⟩
      have hr0 : 0 < r ∧ r < 69888 := by omega
      have ht : t.tmod 69888 = r - 69888 := by rw [hb, if_neg hz, hr]
      rw [hr]
      clear hb hz hr
      go_enter Tryz.func48, Tryz.ntmps48
      go_wp2
      go_ret
      exact ⟨rfl, rfl⟩
theorem frame_bd (t : Int) : 0 ≤ t % 69888 ∧ t % 69888 < 69888 := by omega
theorem rom_same (w : World) (f : Int) : (w.alloc (.cells (newB f).arr 74)).setRow w.heap.size ((newB f).arr.toList.take 0 ++ (romL ++ (newB f).arr.toList.drop (0 + romL.length))).toArray = w.alloc (.cells (newB f).arr 74) := by
  have e : ((newB f).arr.toList.take 0 ++ (romL ++ (newB f).arr.toList.drop (0 + romL.length))).toArray = (newB f).arr := by
    apply Array.toList_inj.1
    rw [List.toList_toArray, List.take_zero, List.nil_append]
    have hl : romL.length = 16384 := List.length_replicate
    rw [hl]
    apply List.ext_getElem?
    intro i
    by_cases h : i < 16384
    · rw [List.getElem?_append_left (by rw [hl]; exact h), Array.getElem?_toList (xs := (newB f).arr), bdArr_get i (by omega)]
      have e1 : romL[i]? = some (.int .u8 0) := List.getElem?_replicate_of_lt h
      rw [e1]
      unfold Bd.at_ newB
      rw [if_pos (by omega)]
    · rw [List.getElem?_append_right (by rw [hl]; omega), hl, List.getElem?_drop, show 0 + 16384 + (i - 16384) = i from by omega]
  rw [e]
  exact setRow_self _ _ _ 74 (0, 0) (by show (w.heap.push _)[w.heap.size]? = _; simp)
theorem romL_len : romL.length = 16384 := List.length_replicate
theorem rom_src (w : World) (r : Nat) (hr : w.heap[r]? = some (.cells romZ 5 (0, 0))) (o : Obj) : ∀ (j : Nat) (v : Value), romL[j]? = some v → (w.alloc o).cell? ((⟨r, 0, none⟩ : Addr).add j) = some v := by
  intro j v hj
  have hlt : r < w.heap.size := by
    rcases Nat.lt_or_ge r w.heap.size with h | h
    · exact h
    · rw [Array.getElem?_eq_none h] at hr; cases hr
  rw [Addr.add_lit, Nat.zero_add]
  rw [cell_of_row (w.alloc o) r j romZ 5 (0, 0) (by rw [RowKit.Below.heap_alloc _ _ _ hlt]; exact hr)]
  show romL.toArray[j]? = some v
  rw [List.getElem?_toArray]
  exact hj
theorem arr_size (b : Bd) : b.arr.size = 77842 := by unfold Bd.arr; exact Array.size_ofFn
theorem rom_fit (f : Int) : 0 + romL.length ≤ (newB f).arr.size := by rw [romL_len, arr_size]; omega
theorem rom_one : ∀ v ∈ romL, v.oneCell' = true := by
  intro v hv
  have h : v = .int .u8 0 := List.eq_of_mem_replicate hv
  subst h; rfl
set_option maxRecDepth 8000 in
theorem bnew_any (w : World) (r : Nat) (hr : w.heap[r]? = some (.cells romZ 5 (0, 0))) (t : Int) (h0 : -9223372036854775808 ≤ t) (h1 : t ≤ 9223372036854775807) : Calls Tryz.prog 40 #[.slice (some ⟨r, 0, none⟩) 16384 16384, .slice none 0 0, .int .i64 t] w fun e w' => e = .returned (.tuple #[.pointer (some ⟨w.heap.size, 0, none⟩), .int .i64 0]) ∧ w.alloc (.cells (newB (t % 69888)).arr 74) = w' := by
  obtain ⟨f, hf⟩ : ∃ f, t % 69888 = f := ⟨_, rfl⟩
  have HFr := fun w => frame_any w t h0 h1
  rw [hf] at HFr ⊢
  have HF := Lib.hid HFr
  have HR := Lib.hid hr
  clear hf hr HFr
  go_enter Tryz.func40, Tryz.ntmps40
  go_wp2_with (first | (go_at_call 48; refine (HF.out _).mono ?_; rintro e w' ⟨rfl, rfl⟩) | ((with_reducible refine wpList_buildTo (o := ⟨some 19, _, _, _, _, _⟩) rfl _ _ rfl _ rfl (newB f).arr ?_ ?_); (· simpa [Act.eval] using newB_built f)) | ((with_reducible refine wpList_copy_own (o := ⟨some 26, _, _, _, _, _⟩) rfl _ _ _ _ rfl 5 Tryz.underlying25 ?_ w.heap.size 0 65536 65536 ⟨r, 0, none⟩ 16384 16384 rfl rfl (newB f).arr 74 ?_ romL ?_ ?_ ?_ ?_ ?_); (· kernel_rfl); (· show (w.heap.push _)[w.heap.size]? = _; simp); (· rw [romL_len]; rfl); (· exact rom_src w r HR.out _); (· exact rom_fit f); (· exact rom_one); rw [rom_same, romL_len]) | ((with_reducible refine wpList_copy_nothing (o := ⟨some 32, _, _, _, _, _⟩) rfl _ _ _ _ rfl 5 Tryz.underlying25 ?_ _ _ _ _ _ _ rfl rfl rfl ?_); (· kernel_rfl)))
  go_ret2
  exact ⟨rfl, rfl⟩
end Go.Proofs.YtneganpbamemmaaGreat
/- A new processor. -/
namespace Sq
open Go
/-- The registers' cells. -/
def Rg.cells (g : Rg) : Array Value := #[.int .u8 g.a, .int .u8 g.f, .int .u8 g.b, .int .u8 g.c, .int .u8 g.d, .int .u8 g.e, .int .u8 g.h, .int .u8 g.l, .int .u8 g.a2, .int .u8 g.f2, .int .u8 g.b2, .int .u8 g.c2, .int .u8 g.d2, .int .u8 g.e2, .int .u8 g.h2, .int .u8 g.l2, .int .u8 g.i, .int .u8 g.r, .int .u8 g.q, .int .u16 g.ix, .int .u16 g.iy, .int .u16 g.sp, .int .u16 g.pc, .int .u16 g.wz, .bool g.iff1, .bool g.iff2, .bool g.halt, .bool g.hold, .int .u8 g.im, .int .u8 g.pre]
def zeroG : Rg := { a := 0, f := 0, b := 0, c := 0, d := 0, e := 0, h := 0, l := 0, a2 := 0, f2 := 0, b2 := 0, c2 := 0, d2 := 0, e2 := 0, h2 := 0, l2 := 0, i := 0, r := 0, q := 0, ix := 0, iy := 0, sp := 0, pc := 0, wz := 0, iff1 := false, iff2 := false, halt := false, hold := false, im := 0, pre := 0 }
def newG : Rg := { zeroG with a := 255, f := 255, sp := 65535 }
def newC (g : Rg) : Cp := { g := g, len := 0, at_ := 0, code := 0, ix := 0, second := 0, ahead := false, lo := 0, hi := 0, ea := 0, out := 0, wrote := false, nmi := false, kind := -1, port := false, what := 0, addr := 0, n := 0, t := 0, wait := 0, held := false }
end Sq
namespace Go.Proofs.YtneganpbamemmaaGreat
open Go Go.RowKit Sq
theorem regs_size (g : Rg) : (Tryz.prog.info? 31).map (·.size) = some g.cells.size := by
  show _ = some 30
  kernel_rfl
theorem regs_one (g : Rg) : g.cells.all (·.oneCell') = true := by simp [Rg.cells, Value.oneCell']
theorem regs_under : ∃ fs, Tryz.prog.underlying 31 = some (.struct fs) := ⟨_, Tryz.underlying31⟩
theorem ext_new (w : World) (A : Array Value) (t : TypeId) (B : Array Value) : Ext w ((w.alloc (.cells A t)).setRow w.heap.size B) :=
  below_setRow (Ext.alloc w _) (Nat.le_refl _) B
set_option maxRecDepth 8000 in
theorem begin0_any (w : World) : Calls Tryz.prog 42 #[] w fun e w' => e = .returned (.agg newG.cells) ∧ Ext w w' := by
  go_enter Tryz.func42, Tryz.ntmps42
  go_wp2_with (first | ((with_reducible refine wpList_buildTo (o := ⟨some 1, _, _, _, _, _⟩) rfl _ _ rfl _ rfl newG.cells ?_ ?_); (· kernel_rfl)) | ((with_reducible refine wpList_store_row (o := ⟨none, .store 31 _ _, _, _, _, _⟩) rfl 31 _ _ rfl w.heap.size newG.cells rfl rfl 31 zeroG.cells ?_ ?_ ?_ ?_ ?_); (· exact heap_alloc_new _ _); (· exact regs_size _); (· rfl); (· exact regs_one _)))
  exact bodyPost_ret (v := .agg newG.cells) (results_cell_row rfl _ _ w.heap.size 31 newG.cells (0, 0) _ rfl (setRow_heap _ _ _ _ _ _ (heap_alloc_new _ _)) Tryz.underlying31 rfl (regs_size _)) rfl ⟨rfl, ext_new w _ _ _⟩
theorem mk_steps (w : World) : (Instr.makeSlice 76 (.int .i64 0) (.int .i64 16)).run Tryz.prog w = .ok (.slice (some ⟨w.heap.size, 0, none⟩) 0 16) (w.alloc (.cells (slArr (fun _ => 0)) 115)) := by
  have h : (Tryz.prog.info? 115).map (fun i => (i.zero, i.size, i.bytes)) = some (some (.agg #[.int .i64 0, .int .i64 0, .int .i64 0, .int .i64 0]), 4, 32) := by kernel_rfl
  obtain ⟨i, hi, hz⟩ := Option.map_eq_some_iff.1 h
  clear h
  have hz : i.zero = some (.agg #[.int .i64 0, .int .i64 0, .int .i64 0, .int .i64 0]) ∧ i.size = 4 ∧ i.bytes = 32 := by simpa using hz
  have h := run_make (P := Tryz.prog) w 76 115 i _ Tryz.underlying76 hi hz.1 .i64 .i64 0 16 (by omega) (by omega) (by rw [hz.2.2]; omega) (by omega)
  rw [h, hz.2.1]
  have e : madeCells (Value.agg #[.int .i64 0, .int .i64 0, .int .i64 0, .int .i64 0]).cells ((16 : Int).toNat * 4) = slArr (fun _ => 0) := by kernel_rfl
  rw [e]
  rfl
theorem newC_built (g : Rg) (s : Nat) : Tryz.prog.built 79 [(0, .agg g.cells), (13, .int .i64 (-1)), (1, .slice (some ⟨s, 0, none⟩) 0 16)] = some ((newC g).arr ⟨0, s, 0, 0, 0, 0, 0⟩) := by
  kernel_rfl
theorem yields_build {P : Program} {ops : Array Oper} {o : Oper} {a : Act} (hw : Region.wanted o (yielded ops a.tmps) = true) (t : TypeId) (parts : Array (Nat × Operand)) (ho : o.op = .build t parts)
    (cells : Array Value) (hf : P.built t (parts.map fun (i, x) => (i, a.eval x)).toList = some cells) : Yields P ops o (.agg cells) a :=
  .inl ⟨hw, fun w => by
    unfold execOp
    simp only [ho, Sem.run_bind, run_build w t _ cells hf, Result.andThen_ok]
    rfl⟩
/-- What a new processor leaves. -/
def CNew (w : World) (g : Rg) (e : Ending) (w' : World) : Prop :=
  ∃ k s, e = .returned (.pointer (some ⟨k, 0, none⟩)) ∧ Ext w w' ∧ w.heap.size ≤ k ∧ w.heap.size ≤ s ∧ k ≠ s ∧ k < w'.heap.size ∧ s < w'.heap.size ∧ w'.heap[s]? = some (.cells (slArr (fun _ => 0)) 115 (0, 0)) ∧ w'.heap[k]? = some (.cells ((newC g).arr ⟨0, s, 0, 0, 0, 0, 0⟩) 79 (0, 0))
theorem cnew_post (w : World) (g : Rg) (A B : Array Value) (tA : TypeId) (hA : A = slArr (fun _ => 0)) (hB : B = (newC g).arr ⟨0, w.heap.size + 1, 0, 0, 0, 0, 0⟩) (C : Array Value) :
    CNew w g (.returned (.pointer (some ⟨w.heap.size + 1 + 1, 0, none⟩))) ((((w.alloc (.cells C tA)).alloc (.cells A 115)).alloc (.cells B 79)).drew) := by
  subst hA hB
  refine ⟨w.heap.size + 1 + 1, w.heap.size + 1, rfl, (((Ext.alloc w _).alloc' _).alloc' _).drew', by omega, by omega, by omega, by simp, by simp, ?_, ?_⟩
  · show (((w.alloc (.cells C tA)).alloc (.cells (slArr (fun _ => 0)) 115)).alloc (.cells ((newC g).arr ⟨0, w.heap.size + 1, 0, 0, 0, 0, 0⟩) 79)).heap[w.heap.size + 1]? = _
    rw [RowKit.Below.heap_alloc _ _ _ (by simp)]
    have := heap_alloc_new (w.alloc (.cells C tA)) (.cells (slArr (fun _ => 0)) 115)
    simpa using this
  · show (((w.alloc (.cells C tA)).alloc (.cells (slArr (fun _ => 0)) 115)).alloc (.cells ((newC g).arr ⟨0, w.heap.size + 1, 0, 0, 0, 0, 0⟩) 79)).heap[w.heap.size + 1 + 1]? = _
    have := heap_alloc_new ((w.alloc (.cells C tA)).alloc (.cells (slArr (fun _ => 0)) 115)) (.cells ((newC g).arr ⟨0, w.heap.size + 1, 0, 0, 0, 0, 0⟩) 79)
    simpa using this
set_option maxRecDepth 8000 in
theorem cnew_any (w : World) (g : Rg) : Calls Tryz.prog 41 #[.agg g.cells] w (CNew w g) := by
  have HM := fun w => mk_steps w
  obtain ⟨A, hA⟩ : ∃ A, A = slArr (fun _ => 0) := ⟨_, rfl⟩
  rw [← hA] at HM
  obtain ⟨B, hB⟩ : ∃ B, B = (newC g).arr ⟨0, w.heap.size + 1, 0, 0, 0, 0, 0⟩ := ⟨_, rfl⟩
  have HB := Lib.hid (hB ▸ newC_built g (w.heap.size + 1))
  obtain ⟨C, hC⟩ : ∃ C, C = g.cells := ⟨_, rfl⟩
  have HS := Lib.hid (hC ▸ regs_size g)
  rw [← hC] at HB ⊢
  have HA := Lib.hid hA
  have HB2 := Lib.hid hB
  clear hA hB hC
  go_enter Tryz.func41, Tryz.ntmps41
  go_wp2
  refine wp_region_late 4 (fun w' => w'.rangeAt w.heap.size 0 C.toList) (by kernel_rfl) ?h0 (fun hHeld => ?h1)
  case h0 => exact (World.rangeAt_drew _ _ _ _).2 (fun j v hj => by rw [Nat.zero_add, World.cell?_alloc_new]; simpa using hj)
  refine wpAnyT_take (i := 0) (oi := { dst := some 3, op := Go.Op.load 31 (Go.Operand.tmp 1), type := 31, pos := "cpu.go:72", after := #[], guard := none }) (v := .agg C) [2, 3, 4] rfl (by decide) (by kernel_rfl) (by kernel_rfl) (by kernel_rfl) (by kernel_rfl) (fun _ _ _ h => h) (yieldsIf_load_mid rfl _ _ rfl w.heap.size 0 rfl C.toList _ (fun _ h => h) Tryz.underlying31 rfl (by rw [HS.out]; simp)) hHeld ?h2
  try simp only [Act.put, List.setIfInBounds_toArray, List.set_cons_zero, List.set_cons_succ]
  refine wpAnyT_one (i := 1) (o := { dst := some 4, op := Go.Op.makeSlice 76 (Go.Operand.const (Go.Value.int Go.IntKind.i64 0)) (Go.Operand.const (Go.Value.int Go.IntKind.i64 16)), type := 76, pos := "cpu.go:72", after := #[], guard := none }) (by kernel_rfl) rfl (by decide) (fun K hK => ?_)
  go_simp
  refine hK.out _ _ ?_ (fun hHeld => ?_)
  · exact World.rangeAt_alloc hHeld _
  clear hK K
  try simp only [Act.put, List.setIfInBounds_toArray, List.set_cons_zero, List.set_cons_succ]
  refine wpAnyT_pure (i := 2) (oi := { dst := some 5, op := Go.Op.build 79 #[(0, Go.Operand.tmp 3), (13, Go.Operand.const (Go.Value.int Go.IntKind.i64 (-1))), (1, Go.Operand.tmp 4)], type := 79, pos := "cpu.go:72", after := #[{ on := 0, ground := Go.Ground.data }, { on := 1, ground := Go.Ground.data }], guard := none }) (v := .agg B) rfl (by kernel_rfl) (by kernel_rfl) (by kernel_rfl) (fun _ _ _ h => h) (yields_build rfl _ _ rfl B (by simpa [Act.eval] using HB.out)) ?_
  try simp only [Act.put, List.setIfInBounds_toArray, List.set_cons_zero, List.set_cons_succ]
  refine wpAnyT_one (i := 3) (o := { dst := some 6, op := Go.Op.box 79 (Go.Operand.tmp 5), type := 60, pos := "cpu.go:72", after := #[{ on := 2, ground := Go.Ground.data }], guard := none }) (by kernel_rfl) rfl (by decide) (fun K hK => ?_)
  go_simp
  refine hK.out _ _ ?_ (fun hHeld => ?_)
  · exact World.rangeAt_alloc hHeld _
  clear hK K
  try simp only [Act.put, List.setIfInBounds_toArray, List.set_cons_zero, List.set_cons_succ]
  refine wpAnyT_pure (i := 4) (oi := { dst := some 2, op := Go.Op.assign (Go.Operand.tmp 6), type := 60, pos := "cpu.go:72", after := #[{ on := 3, ground := Go.Ground.data }, { on := 0, ground := Go.Ground.phase }, { on := 1, ground := Go.Ground.phase }, { on := 2, ground := Go.Ground.phase }, { on := 3, ground := Go.Ground.phase }], guard := none }) (v := ?v4) rfl (by kernel_rfl) (by kernel_rfl) (by kernel_rfl) (fun _ _ _ h => h) (Or.inl ⟨by rfl, ?y4⟩) ?r4
  case y4 => (intro w; go_simp; try with_reducible rfl)
  try simp only [Act.put, List.setIfInBounds_toArray, List.set_cons_zero, List.set_cons_succ]
  refine wpAnyT_done (by kernel_rfl) ?_ _
  go_wp2
  go_ret
  exact cnew_post w g A B _ HA.out HB2.out C
end Go.Proofs.YtneganpbamemmaaGreat
/- A new machine. -/
namespace Go.Proofs.YtneganpbamemmaaGreat
open Go Go.RowKit Sq
theorem mk_self {w : World} {m : Mac} {c : Cp} {sl : Nat → Int} {b : Bd} {tc ts tb : TypeId} (hc : w.heap[m.c]? = some (.cells (c.arr m) tc (0, 0))) (hs : w.heap[m.s]? = some (.cells (slArr sl) ts (0, 0))) (hb : w.heap[m.b]? = some (.cells b.arr tb (0, 0))) : mk w m c sl b = w := by
  rw [mk_eq, setRow_self _ _ _ _ _ hc, setRow_self _ _ _ _ _ hs, setRow_self _ _ _ _ _ hb]
/-- What a new machine leaves. -/
def MNew (w : World) (f : Int) (e : Ending) (W : World) : Prop :=
  ∃ q m, e = .returned (.tuple #[.pointer (some ⟨q, 0, none⟩), .int .i64 0]) ∧ Ext w W ∧ (w.heap.size ≤ m.c ∧ w.heap.size ≤ m.s ∧ w.heap.size ≤ m.b) ∧ m.ts = 115 ∧ Base m W ∧ Own m W q ∧ W = mk W m (newC newG) (fun _ => 0) { newB f with slow := true }
theorem machine_built (k b : Nat) : Tryz.prog.built 64 [(0, .pointer (some ⟨k, 0, none⟩)), (1, .pointer (some ⟨b, 0, none⟩))] = some #[.pointer (some ⟨k, 0, none⟩), .pointer (some ⟨b, 0, none⟩), .pointer none, .slice none 0 0, .bool false, .int .u64 0, .int .i64 0, .bool false] := by
  kernel_rfl
theorem mnew_post {w W : World} {f : Int} {k s bB q : Nat} {e : Ending} (he : e = .returned (.tuple #[.pointer (some ⟨q, 0, none⟩), .int .i64 0])) (hx : Ext w W)
    (hb : W.heap[bB]? = some (.cells { newB f with slow := true : Bd }.arr 74 (0, 0))) (hs : W.heap[s]? = some (.cells (slArr (fun _ => 0)) 115 (0, 0))) (hk : W.heap[k]? = some (.cells ((newC newG).arr ⟨0, s, 0, 0, 0, 0, 0⟩) 79 (0, 0)))
    (hq : W.heap[q]? = some (.cells #[.pointer (some ⟨k, 0, none⟩), .pointer (some ⟨bB, 0, none⟩), .pointer none, .slice none 0 0, .bool false, .int .u64 0, .int .i64 0, .bool false] 64 (0, 0)))
    (h0 : w.heap.size ≤ bB) (h1 : bB < s) (h2 : bB < k) (h3 : k ≠ s) (h4 : s < q) (h5 : k < q) (h6 : q < W.heap.size) : MNew w f e W := by
  refine ⟨q, ⟨k, s, bB, q, 79, 115, 74⟩, he, hx, ⟨by show w.heap.size ≤ k; omega, by show w.heap.size ≤ s; omega, h0⟩, rfl, ?_, ?_, ?_⟩
  · exact ⟨h3, by show k ≠ bB; omega, by show s ≠ bB; omega, h5, h4, by show bB < q; omega, by show q ≤ W.heap.size; omega, ⟨_, hk⟩, ⟨_, hs⟩, ⟨_, hb⟩⟩
  · exact ⟨h6, by show q ≠ k; omega, by show q ≠ s; omega, by show q ≠ bB; omega, hq⟩
  · exact (mk_self (m := ⟨k, s, bB, q, 79, 115, 74⟩) hk hs hb).symm
theorem setRow_alloc_new (w : World) (A B : Array Value) (t : TypeId) : (w.alloc (.cells A t)).setRow w.heap.size B = w.alloc (.cells B t) := by
  unfold World.setRow World.alloc
  congr 1
  apply Array.ext_getElem?
  intro k
  simp only [Array.getElem?_modify, Array.getElem?_push]
  by_cases hk : k = w.heap.size
  · subst hk; simp
  · simp [hk, Ne.symm hk]
theorem slow_set (w : World) (f : Int) : (w.alloc (.cells (newB f).arr 74)).setCell ⟨w.heap.size, 65544, none⟩ (.bool true) = w.alloc (.cells { newB f with slow := true : Bd }.arr 74) := by
  rw [setCell_eq_setRow _ _ _ _ _ _ _ (heap_alloc_new w _)]
  have h := bdArr_set (b := newB f) 65544 (.bool true) { newB f with slow := true } (fun _ => rfl) (fun j hj => by unfold Bd.at_; simp only [hj, if_false])
  rw [h, setRow_alloc_new]
set_option maxRecDepth 8000 in
theorem mnew_any (w : World) (r : Nat) (hr : w.heap[r]? = some (.cells romZ 5 (0, 0))) (t : Int) (h0 : -9223372036854775808 ≤ t) (h1 : t ≤ 9223372036854775807) : Calls Tryz.prog 28 #[.slice (some ⟨r, 0, none⟩) 16384 16384, .slice none 0 0, .int .i64 t] w (MNew w (t % 69888)) := by
  have HB := Lib.hid (bnew_any w r hr t h0 h1)
  obtain ⟨f, hf⟩ : ∃ f, t % 69888 = f := ⟨_, rfl⟩
  rw [hf] at HB ⊢
  clear hf hr
  have hfz : (w.alloc (.cells (newB f).arr 74)).frozen? ⟨w.heap.size, 65544, none⟩ = false := frozen_of_row _ _ _ _ _ (heap_alloc_new w _)
  have hcz : (w.alloc (.cells (newB f).arr 74)).cell? ⟨w.heap.size, 65544, none⟩ = some (.bool false) := by
    rw [cell_of_row _ _ _ _ _ _ (heap_alloc_new w _), bdArr_get _ (by omega)]; rfl
  have hst := slow_set w f
  go_enter Tryz.func28, Tryz.ntmps28
  go_wp2_with (first | (go_at_call 40; refine HB.out.mono ?_; rintro e w' ⟨rfl, rfl⟩) | (go_at_call 42; refine (begin0_any _).mono ?_; rintro e w2 ⟨rfl, hx2⟩) | (go_at_call 41; refine (cnew_any _ _).mono ?_; rintro e w3 ⟨k, s, rfl, hx3, hk1, hs1, hks, hk2, hs2, hsh, hkh⟩) | ((with_reducible refine wpList_buildTo (o := ⟨some 26, _, _, _, _, _⟩) rfl _ _ rfl _ rfl _ ?_ ?_); (· simpa [Act.eval] using machine_built _ _)))
  go_ret2
  have hz1 := hx2.size
  have hz2 := hx3.size
  simp only [World.size_alloc] at hz1
  have eb : w3.heap[w.heap.size]? = some (.cells { newB f with slow := true : Bd }.arr 74 (0, 0)) := by
    rw [hx3.block _ (by omega), hx2.block _ (by simp)]
    exact heap_alloc_new _ _
  exact mnew_post rfl ((Ext.alloc w _).trans (hx2.trans (hx3.alloc' _))) (by rw [RowKit.Below.heap_alloc _ _ _ (by omega)]; exact eb) (by rw [RowKit.Below.heap_alloc _ _ _ hs2]; exact hsh) (by rw [RowKit.Below.heap_alloc _ _ _ hk2]; exact hkh) (heap_alloc_new _ _) (Nat.le_refl _) (by omega) (by omega) hks hs2 hk2 (by simp)
end Go.Proofs.YtneganpbamemmaaGreat
