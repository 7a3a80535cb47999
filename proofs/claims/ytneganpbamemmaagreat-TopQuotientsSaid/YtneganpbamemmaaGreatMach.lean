/- The model of the machine's memory: a record for the processor, one for the board, and the world in which their blocks hold them. -/
import Derived.WalkKit
import Derived.WalkSpells
import Derived.Deep.QuietTactic
import Derived.BigQuiet
import Derived.Lib.Hide
set_option linter.unusedVariables false
set_option linter.unusedSimpArgs false
set_option linter.unusedSectionVars false
namespace Sq
open Go

structure Rg where
  a : Int
  f : Int
  b : Int
  c : Int
  d : Int
  e : Int
  h : Int
  l : Int
  a2 : Int
  f2 : Int
  b2 : Int
  c2 : Int
  d2 : Int
  e2 : Int
  h2 : Int
  l2 : Int
  i : Int
  r : Int
  q : Int
  ix : Int
  iy : Int
  sp : Int
  pc : Int
  wz : Int
  iff1 : Bool
  iff2 : Bool
  halt : Bool
  hold : Bool
  im : Int
  pre : Int

structure Cp where
  g : Rg
  len : Nat
  at_ : Int
  code : Int
  ix : Int
  second : Int
  ahead : Bool
  lo : Int
  hi : Int
  ea : Int
  out : Int
  wrote : Bool
  nmi : Bool
  kind : Int
  port : Bool
  what : Int
  addr : Int
  n : Int
  t : Int
  wait : Int
  held : Bool

structure Bd where
  mem : Nat → Int
  keys : Nat → Int
  slow : Bool
  ear : Bool
  log : Bool
  t : Int
  frame : Int
  border : Int
  mic : Bool
  spk : Bool
  acts : Value
  edges : Value
  seen : Nat → Int

/-- Where the blocks are. -/
structure Mac where
  c : Nat
  s : Nat
  b : Nat
  top : Nat
  tc : Nat
  ts : Nat
  tb : Nat

/-- A number put at a place. -/
def upd (f : Nat → Int) (i : Nat) (v : Int) : Nat → Int := fun j => if j = i then v else f j

def Rg.vals (g : Rg) : List Value := [.int .u8 g.a, .int .u8 g.f, .int .u8 g.b, .int .u8 g.c, .int .u8 g.d, .int .u8 g.e, .int .u8 g.h, .int .u8 g.l, .int .u8 g.a2, .int .u8 g.f2, .int .u8 g.b2, .int .u8 g.c2, .int .u8 g.d2, .int .u8 g.e2, .int .u8 g.h2, .int .u8 g.l2, .int .u8 g.i, .int .u8 g.r, .int .u8 g.q, .int .u16 g.ix, .int .u16 g.iy, .int .u16 g.sp, .int .u16 g.pc, .int .u16 g.wz, .bool g.iff1, .bool g.iff2, .bool g.halt, .bool g.hold, .int .u8 g.im, .int .u8 g.pre]
def Cp.arr (c : Cp) (m : Mac) : Array Value := #[.int .u8 c.g.a, .int .u8 c.g.f, .int .u8 c.g.b, .int .u8 c.g.c, .int .u8 c.g.d, .int .u8 c.g.e, .int .u8 c.g.h, .int .u8 c.g.l, .int .u8 c.g.a2, .int .u8 c.g.f2, .int .u8 c.g.b2, .int .u8 c.g.c2, .int .u8 c.g.d2, .int .u8 c.g.e2, .int .u8 c.g.h2, .int .u8 c.g.l2, .int .u8 c.g.i, .int .u8 c.g.r, .int .u8 c.g.q, .int .u16 c.g.ix, .int .u16 c.g.iy, .int .u16 c.g.sp, .int .u16 c.g.pc, .int .u16 c.g.wz, .bool c.g.iff1, .bool c.g.iff2, .bool c.g.halt, .bool c.g.hold, .int .u8 c.g.im, .int .u8 c.g.pre, .slice (some ⟨m.s, 0, none⟩) c.len 16, .int .i64 c.at_, .int .u8 c.code, .int .i64 c.ix, .int .i64 c.second, .bool c.ahead, .int .u8 c.lo, .int .u8 c.hi, .int .u16 c.ea, .int .u8 c.out, .bool c.wrote, .bool c.nmi, .int .i64 c.kind, .bool c.port, .int .i64 c.what, .int .u16 c.addr, .int .i64 c.n, .int .i64 c.t, .int .i64 c.wait, .bool c.held]
def slArr (sl : Nat → Int) : Array Value := Array.ofFn fun i : Fin 64 => .int .i64 (sl i.val)
def Bd.at_ (x : Bd) (i : Nat) : Value :=
  if i < 65536 then .int .u8 (x.mem i)
  else if i < 65544 then .int .u8 (x.keys (i - 65536))
  else if i = 65544 then .bool x.slow
  else if i = 65545 then .bool x.ear
  else if i = 65546 then .bool x.log
  else if i = 65547 then .int .u64 x.t
  else if i = 65548 then .int .i64 x.frame
  else if i = 65549 then .int .u8 x.border
  else if i = 65550 then .bool x.mic
  else if i = 65551 then .bool x.spk
  else if i = 65552 then x.acts
  else if i = 65553 then x.edges
  else .int .u8 (x.seen (i - 65554))
def Bd.arr (x : Bd) : Array Value := Array.ofFn fun i : Fin 77842 => x.at_ i.val

/-- The world with the machine's blocks filled. -/
theorem mk_ex (w : World) (m : Mac) (c : Cp) (sl : Nat → Int) (b : Bd) : ∃ x, x = ((w.setRow m.c (c.arr m)).setRow m.s (slArr sl)).setRow m.b b.arr := ⟨_, rfl⟩
noncomputable def mk (w : World) (m : Mac) (c : Cp) (sl : Nat → Int) (b : Bd) : World := Classical.choose (mk_ex w m c sl b)
theorem mk_eq (w : World) (m : Mac) (c : Cp) (sl : Nat → Int) (b : Bd) : mk w m c sl b = ((w.setRow m.c (c.arr m)).setRow m.s (slArr sl)).setRow m.b b.arr := Classical.choose_spec (mk_ex w m c sl b)

structure Base (m : Mac) (w : World) : Prop where
  cs : m.c ≠ m.s
  cb : m.c ≠ m.b
  sb : m.s ≠ m.b
  ct : m.c < m.top
  st : m.s < m.top
  bt : m.b < m.top
  le : m.top ≤ w.heap.size
  hc : ∃ x, w.heap[m.c]? = some (.cells x m.tc (0, 0))
  hs : ∃ x, w.heap[m.s]? = some (.cells x m.ts (0, 0))
  hb : ∃ x, w.heap[m.b]? = some (.cells x m.tb (0, 0))

section
variable {m : Mac} {w : World} {c : Cp} {sl : Nat → Int} {b : Bd}

theorem mk_size : (mk w m c sl b).heap.size = w.heap.size := by simp [mk_eq]
theorem mk_os : (mk w m c sl b).os = w.os := by rw [mk_eq]; rfl
theorem mk_tape : (mk w m c sl b).tape = w.tape := by rw [mk_eq]; rfl
theorem mk_drawn : (mk w m c sl b).drawn = w.drawn := by rw [mk_eq]; rfl
theorem mk_output : (mk w m c sl b).output = w.output := by rw [mk_eq]; rfl

theorem mk_heap_c (h : Base m w) : (mk w m c sl b).heap[m.c]? = some (.cells (c.arr m) m.tc (0, 0)) := by
  obtain ⟨x, hx⟩ := h.hc
  simp only [mk_eq]
  rw [setRow_other _ _ _ _ h.cb, setRow_other _ _ _ _ h.cs, setRow_heap _ _ _ _ _ _ hx]
theorem mk_heap_s (h : Base m w) : (mk w m c sl b).heap[m.s]? = some (.cells (slArr sl) m.ts (0, 0)) := by
  obtain ⟨x, hx⟩ := h.hs
  simp only [mk_eq]
  rw [setRow_other _ _ _ _ h.sb, setRow_heap _ _ x _ m.ts (0, 0) (by rw [setRow_other _ _ _ _ h.cs.symm]; exact hx)]
theorem mk_heap_b (h : Base m w) : (mk w m c sl b).heap[m.b]? = some (.cells b.arr m.tb (0, 0)) := by
  obtain ⟨x, hx⟩ := h.hb
  simp only [mk_eq]
  rw [setRow_heap _ _ x _ m.tb (0, 0) (by rw [setRow_other _ _ _ _ h.sb.symm, setRow_other _ _ _ _ h.cb.symm]; exact hx)]
theorem mk_heap_o {k : Nat} (h1 : k ≠ m.c) (h2 : k ≠ m.s) (h3 : k ≠ m.b) : (mk w m c sl b).heap[k]? = w.heap[k]? := by
  simp only [mk_eq]
  rw [setRow_other _ _ _ _ h3, setRow_other _ _ _ _ h2, setRow_other _ _ _ _ h1]
theorem mk_cell_c (h : Base m w) (k : Nat) : (mk w m c sl b).cell? ⟨m.c, k, none⟩ = (c.arr m)[k]? := cell_of_row _ _ _ _ _ _ (mk_heap_c h)
theorem mk_cell_s (h : Base m w) (k : Nat) : (mk w m c sl b).cell? ⟨m.s, k, none⟩ = (slArr sl)[k]? := cell_of_row _ _ _ _ _ _ (mk_heap_s h)
theorem mk_cell_b (h : Base m w) (k : Nat) : (mk w m c sl b).cell? ⟨m.b, k, none⟩ = b.arr[k]? := cell_of_row _ _ _ _ _ _ (mk_heap_b h)
theorem mk_frozen_c (h : Base m w) (k : Nat) : (mk w m c sl b).frozen? ⟨m.c, k, none⟩ = false := frozen_of_row _ _ _ _ _ (mk_heap_c h)
theorem mk_frozen_s (h : Base m w) (k : Nat) : (mk w m c sl b).frozen? ⟨m.s, k, none⟩ = false := frozen_of_row _ _ _ _ _ (mk_heap_s h)
theorem mk_frozen_b (h : Base m w) (k : Nat) : (mk w m c sl b).frozen? ⟨m.b, k, none⟩ = false := frozen_of_row _ _ _ _ _ (mk_heap_b h)

theorem setRow_comm (w : World) {g k : Nat} (h : g ≠ k) (x y : Array Value) : (w.setRow g x).setRow k y = (w.setRow k y).setRow g x := by
  unfold World.setRow
  congr 1
  apply Array.ext
  · simp
  · intro i h1 h2
    simp only [Array.getElem_modify]
    by_cases e1 : k = i <;> by_cases e2 : g = i <;> simp [e1, e2]
    subst e1; exact absurd e2 h

theorem mk_set_c (h : Base m w) (k : Nat) (v : Value) : (mk w m c sl b).setCell ⟨m.c, k, none⟩ v = ((w.setRow m.c ((c.arr m).setIfInBounds k v)).setRow m.s (slArr sl)).setRow m.b b.arr := by
  rw [setCell_eq_setRow _ _ _ _ _ _ _ (mk_heap_c h)]
  simp only [mk_eq]
  rw [setRow_comm _ h.cb.symm, setRow_comm _ h.cs.symm, setRow_setRow]
theorem mk_set_s (h : Base m w) (k : Nat) (v : Value) : (mk w m c sl b).setCell ⟨m.s, k, none⟩ v = ((w.setRow m.c (c.arr m)).setRow m.s ((slArr sl).setIfInBounds k v)).setRow m.b b.arr := by
  rw [setCell_eq_setRow _ _ _ _ _ _ _ (mk_heap_s h)]
  simp only [mk_eq]
  rw [setRow_comm _ h.sb.symm, setRow_setRow]
theorem mk_set_b (h : Base m w) (k : Nat) (v : Value) : (mk w m c sl b).setCell ⟨m.b, k, none⟩ v = ((w.setRow m.c (c.arr m)).setRow m.s (slArr sl)).setRow m.b (b.arr.setIfInBounds k v) := by
  rw [setCell_eq_setRow _ _ _ _ _ _ _ (mk_heap_b h)]
  simp only [mk_eq]
  rw [setRow_setRow]

theorem cell_0 (h : Base m w) : (mk w m c sl b).cell? ⟨m.c, 0, none⟩ = some (.int .u8 c.g.a) := by rw [mk_cell_c h]; rfl
theorem set_0 (h : Base m w) (v : Int) : (mk w m c sl b).setCell ⟨m.c, 0, none⟩ (.int .u8 v) = mk w m { c with g := { c.g with a := v } } sl b := by rw [mk_set_c h, mk_eq]; rfl
theorem cell_1 (h : Base m w) : (mk w m c sl b).cell? ⟨m.c, 1, none⟩ = some (.int .u8 c.g.f) := by rw [mk_cell_c h]; rfl
theorem set_1 (h : Base m w) (v : Int) : (mk w m c sl b).setCell ⟨m.c, 1, none⟩ (.int .u8 v) = mk w m { c with g := { c.g with f := v } } sl b := by rw [mk_set_c h, mk_eq]; rfl
theorem cell_2 (h : Base m w) : (mk w m c sl b).cell? ⟨m.c, 2, none⟩ = some (.int .u8 c.g.b) := by rw [mk_cell_c h]; rfl
theorem set_2 (h : Base m w) (v : Int) : (mk w m c sl b).setCell ⟨m.c, 2, none⟩ (.int .u8 v) = mk w m { c with g := { c.g with b := v } } sl b := by rw [mk_set_c h, mk_eq]; rfl
theorem cell_3 (h : Base m w) : (mk w m c sl b).cell? ⟨m.c, 3, none⟩ = some (.int .u8 c.g.c) := by rw [mk_cell_c h]; rfl
theorem set_3 (h : Base m w) (v : Int) : (mk w m c sl b).setCell ⟨m.c, 3, none⟩ (.int .u8 v) = mk w m { c with g := { c.g with c := v } } sl b := by rw [mk_set_c h, mk_eq]; rfl
theorem cell_4 (h : Base m w) : (mk w m c sl b).cell? ⟨m.c, 4, none⟩ = some (.int .u8 c.g.d) := by rw [mk_cell_c h]; rfl
theorem set_4 (h : Base m w) (v : Int) : (mk w m c sl b).setCell ⟨m.c, 4, none⟩ (.int .u8 v) = mk w m { c with g := { c.g with d := v } } sl b := by rw [mk_set_c h, mk_eq]; rfl
theorem cell_5 (h : Base m w) : (mk w m c sl b).cell? ⟨m.c, 5, none⟩ = some (.int .u8 c.g.e) := by rw [mk_cell_c h]; rfl
theorem set_5 (h : Base m w) (v : Int) : (mk w m c sl b).setCell ⟨m.c, 5, none⟩ (.int .u8 v) = mk w m { c with g := { c.g with e := v } } sl b := by rw [mk_set_c h, mk_eq]; rfl
theorem cell_6 (h : Base m w) : (mk w m c sl b).cell? ⟨m.c, 6, none⟩ = some (.int .u8 c.g.h) := by rw [mk_cell_c h]; rfl
theorem set_6 (h : Base m w) (v : Int) : (mk w m c sl b).setCell ⟨m.c, 6, none⟩ (.int .u8 v) = mk w m { c with g := { c.g with h := v } } sl b := by rw [mk_set_c h, mk_eq]; rfl
theorem cell_7 (h : Base m w) : (mk w m c sl b).cell? ⟨m.c, 7, none⟩ = some (.int .u8 c.g.l) := by rw [mk_cell_c h]; rfl
theorem set_7 (h : Base m w) (v : Int) : (mk w m c sl b).setCell ⟨m.c, 7, none⟩ (.int .u8 v) = mk w m { c with g := { c.g with l := v } } sl b := by rw [mk_set_c h, mk_eq]; rfl
theorem cell_8 (h : Base m w) : (mk w m c sl b).cell? ⟨m.c, 8, none⟩ = some (.int .u8 c.g.a2) := by rw [mk_cell_c h]; rfl
theorem set_8 (h : Base m w) (v : Int) : (mk w m c sl b).setCell ⟨m.c, 8, none⟩ (.int .u8 v) = mk w m { c with g := { c.g with a2 := v } } sl b := by rw [mk_set_c h, mk_eq]; rfl
theorem cell_9 (h : Base m w) : (mk w m c sl b).cell? ⟨m.c, 9, none⟩ = some (.int .u8 c.g.f2) := by rw [mk_cell_c h]; rfl
theorem set_9 (h : Base m w) (v : Int) : (mk w m c sl b).setCell ⟨m.c, 9, none⟩ (.int .u8 v) = mk w m { c with g := { c.g with f2 := v } } sl b := by rw [mk_set_c h, mk_eq]; rfl
theorem cell_10 (h : Base m w) : (mk w m c sl b).cell? ⟨m.c, 10, none⟩ = some (.int .u8 c.g.b2) := by rw [mk_cell_c h]; rfl
theorem set_10 (h : Base m w) (v : Int) : (mk w m c sl b).setCell ⟨m.c, 10, none⟩ (.int .u8 v) = mk w m { c with g := { c.g with b2 := v } } sl b := by rw [mk_set_c h, mk_eq]; rfl
theorem cell_11 (h : Base m w) : (mk w m c sl b).cell? ⟨m.c, 11, none⟩ = some (.int .u8 c.g.c2) := by rw [mk_cell_c h]; rfl
theorem set_11 (h : Base m w) (v : Int) : (mk w m c sl b).setCell ⟨m.c, 11, none⟩ (.int .u8 v) = mk w m { c with g := { c.g with c2 := v } } sl b := by rw [mk_set_c h, mk_eq]; rfl
theorem cell_12 (h : Base m w) : (mk w m c sl b).cell? ⟨m.c, 12, none⟩ = some (.int .u8 c.g.d2) := by rw [mk_cell_c h]; rfl
theorem set_12 (h : Base m w) (v : Int) : (mk w m c sl b).setCell ⟨m.c, 12, none⟩ (.int .u8 v) = mk w m { c with g := { c.g with d2 := v } } sl b := by rw [mk_set_c h, mk_eq]; rfl
theorem cell_13 (h : Base m w) : (mk w m c sl b).cell? ⟨m.c, 13, none⟩ = some (.int .u8 c.g.e2) := by rw [mk_cell_c h]; rfl
theorem set_13 (h : Base m w) (v : Int) : (mk w m c sl b).setCell ⟨m.c, 13, none⟩ (.int .u8 v) = mk w m { c with g := { c.g with e2 := v } } sl b := by rw [mk_set_c h, mk_eq]; rfl
theorem cell_14 (h : Base m w) : (mk w m c sl b).cell? ⟨m.c, 14, none⟩ = some (.int .u8 c.g.h2) := by rw [mk_cell_c h]; rfl
theorem set_14 (h : Base m w) (v : Int) : (mk w m c sl b).setCell ⟨m.c, 14, none⟩ (.int .u8 v) = mk w m { c with g := { c.g with h2 := v } } sl b := by rw [mk_set_c h, mk_eq]; rfl
theorem cell_15 (h : Base m w) : (mk w m c sl b).cell? ⟨m.c, 15, none⟩ = some (.int .u8 c.g.l2) := by rw [mk_cell_c h]; rfl
theorem set_15 (h : Base m w) (v : Int) : (mk w m c sl b).setCell ⟨m.c, 15, none⟩ (.int .u8 v) = mk w m { c with g := { c.g with l2 := v } } sl b := by rw [mk_set_c h, mk_eq]; rfl
theorem cell_16 (h : Base m w) : (mk w m c sl b).cell? ⟨m.c, 16, none⟩ = some (.int .u8 c.g.i) := by rw [mk_cell_c h]; rfl
theorem set_16 (h : Base m w) (v : Int) : (mk w m c sl b).setCell ⟨m.c, 16, none⟩ (.int .u8 v) = mk w m { c with g := { c.g with i := v } } sl b := by rw [mk_set_c h, mk_eq]; rfl
theorem cell_17 (h : Base m w) : (mk w m c sl b).cell? ⟨m.c, 17, none⟩ = some (.int .u8 c.g.r) := by rw [mk_cell_c h]; rfl
theorem set_17 (h : Base m w) (v : Int) : (mk w m c sl b).setCell ⟨m.c, 17, none⟩ (.int .u8 v) = mk w m { c with g := { c.g with r := v } } sl b := by rw [mk_set_c h, mk_eq]; rfl
theorem cell_18 (h : Base m w) : (mk w m c sl b).cell? ⟨m.c, 18, none⟩ = some (.int .u8 c.g.q) := by rw [mk_cell_c h]; rfl
theorem set_18 (h : Base m w) (v : Int) : (mk w m c sl b).setCell ⟨m.c, 18, none⟩ (.int .u8 v) = mk w m { c with g := { c.g with q := v } } sl b := by rw [mk_set_c h, mk_eq]; rfl
theorem cell_19 (h : Base m w) : (mk w m c sl b).cell? ⟨m.c, 19, none⟩ = some (.int .u16 c.g.ix) := by rw [mk_cell_c h]; rfl
theorem set_19 (h : Base m w) (v : Int) : (mk w m c sl b).setCell ⟨m.c, 19, none⟩ (.int .u16 v) = mk w m { c with g := { c.g with ix := v } } sl b := by rw [mk_set_c h, mk_eq]; rfl
theorem cell_20 (h : Base m w) : (mk w m c sl b).cell? ⟨m.c, 20, none⟩ = some (.int .u16 c.g.iy) := by rw [mk_cell_c h]; rfl
theorem set_20 (h : Base m w) (v : Int) : (mk w m c sl b).setCell ⟨m.c, 20, none⟩ (.int .u16 v) = mk w m { c with g := { c.g with iy := v } } sl b := by rw [mk_set_c h, mk_eq]; rfl
theorem cell_21 (h : Base m w) : (mk w m c sl b).cell? ⟨m.c, 21, none⟩ = some (.int .u16 c.g.sp) := by rw [mk_cell_c h]; rfl
theorem set_21 (h : Base m w) (v : Int) : (mk w m c sl b).setCell ⟨m.c, 21, none⟩ (.int .u16 v) = mk w m { c with g := { c.g with sp := v } } sl b := by rw [mk_set_c h, mk_eq]; rfl
theorem cell_22 (h : Base m w) : (mk w m c sl b).cell? ⟨m.c, 22, none⟩ = some (.int .u16 c.g.pc) := by rw [mk_cell_c h]; rfl
theorem set_22 (h : Base m w) (v : Int) : (mk w m c sl b).setCell ⟨m.c, 22, none⟩ (.int .u16 v) = mk w m { c with g := { c.g with pc := v } } sl b := by rw [mk_set_c h, mk_eq]; rfl
theorem cell_23 (h : Base m w) : (mk w m c sl b).cell? ⟨m.c, 23, none⟩ = some (.int .u16 c.g.wz) := by rw [mk_cell_c h]; rfl
theorem set_23 (h : Base m w) (v : Int) : (mk w m c sl b).setCell ⟨m.c, 23, none⟩ (.int .u16 v) = mk w m { c with g := { c.g with wz := v } } sl b := by rw [mk_set_c h, mk_eq]; rfl
theorem cell_24 (h : Base m w) : (mk w m c sl b).cell? ⟨m.c, 24, none⟩ = some (.bool c.g.iff1) := by rw [mk_cell_c h]; rfl
theorem set_24 (h : Base m w) (v : Bool) : (mk w m c sl b).setCell ⟨m.c, 24, none⟩ (.bool v) = mk w m { c with g := { c.g with iff1 := v } } sl b := by rw [mk_set_c h, mk_eq]; rfl
theorem cell_25 (h : Base m w) : (mk w m c sl b).cell? ⟨m.c, 25, none⟩ = some (.bool c.g.iff2) := by rw [mk_cell_c h]; rfl
theorem set_25 (h : Base m w) (v : Bool) : (mk w m c sl b).setCell ⟨m.c, 25, none⟩ (.bool v) = mk w m { c with g := { c.g with iff2 := v } } sl b := by rw [mk_set_c h, mk_eq]; rfl
theorem cell_26 (h : Base m w) : (mk w m c sl b).cell? ⟨m.c, 26, none⟩ = some (.bool c.g.halt) := by rw [mk_cell_c h]; rfl
theorem set_26 (h : Base m w) (v : Bool) : (mk w m c sl b).setCell ⟨m.c, 26, none⟩ (.bool v) = mk w m { c with g := { c.g with halt := v } } sl b := by rw [mk_set_c h, mk_eq]; rfl
theorem cell_27 (h : Base m w) : (mk w m c sl b).cell? ⟨m.c, 27, none⟩ = some (.bool c.g.hold) := by rw [mk_cell_c h]; rfl
theorem set_27 (h : Base m w) (v : Bool) : (mk w m c sl b).setCell ⟨m.c, 27, none⟩ (.bool v) = mk w m { c with g := { c.g with hold := v } } sl b := by rw [mk_set_c h, mk_eq]; rfl
theorem cell_28 (h : Base m w) : (mk w m c sl b).cell? ⟨m.c, 28, none⟩ = some (.int .u8 c.g.im) := by rw [mk_cell_c h]; rfl
theorem set_28 (h : Base m w) (v : Int) : (mk w m c sl b).setCell ⟨m.c, 28, none⟩ (.int .u8 v) = mk w m { c with g := { c.g with im := v } } sl b := by rw [mk_set_c h, mk_eq]; rfl
theorem cell_29 (h : Base m w) : (mk w m c sl b).cell? ⟨m.c, 29, none⟩ = some (.int .u8 c.g.pre) := by rw [mk_cell_c h]; rfl
theorem set_29 (h : Base m w) (v : Int) : (mk w m c sl b).setCell ⟨m.c, 29, none⟩ (.int .u8 v) = mk w m { c with g := { c.g with pre := v } } sl b := by rw [mk_set_c h, mk_eq]; rfl
theorem cell_30 (h : Base m w) : (mk w m c sl b).cell? ⟨m.c, 30, none⟩ = some (.slice (some ⟨m.s, 0, none⟩) c.len 16) := by rw [mk_cell_c h]; rfl
theorem set_30 (h : Base m w) (v : Nat) : (mk w m c sl b).setCell ⟨m.c, 30, none⟩ (.slice (some ⟨m.s, 0, none⟩) v 16) = mk w m { c with len := v } sl b := by rw [mk_set_c h, mk_eq]; rfl
theorem cell_31 (h : Base m w) : (mk w m c sl b).cell? ⟨m.c, 31, none⟩ = some (.int .i64 c.at_) := by rw [mk_cell_c h]; rfl
theorem set_31 (h : Base m w) (v : Int) : (mk w m c sl b).setCell ⟨m.c, 31, none⟩ (.int .i64 v) = mk w m { c with at_ := v } sl b := by rw [mk_set_c h, mk_eq]; rfl
theorem cell_32 (h : Base m w) : (mk w m c sl b).cell? ⟨m.c, 32, none⟩ = some (.int .u8 c.code) := by rw [mk_cell_c h]; rfl
theorem set_32 (h : Base m w) (v : Int) : (mk w m c sl b).setCell ⟨m.c, 32, none⟩ (.int .u8 v) = mk w m { c with code := v } sl b := by rw [mk_set_c h, mk_eq]; rfl
theorem cell_33 (h : Base m w) : (mk w m c sl b).cell? ⟨m.c, 33, none⟩ = some (.int .i64 c.ix) := by rw [mk_cell_c h]; rfl
theorem set_33 (h : Base m w) (v : Int) : (mk w m c sl b).setCell ⟨m.c, 33, none⟩ (.int .i64 v) = mk w m { c with ix := v } sl b := by rw [mk_set_c h, mk_eq]; rfl
theorem cell_34 (h : Base m w) : (mk w m c sl b).cell? ⟨m.c, 34, none⟩ = some (.int .i64 c.second) := by rw [mk_cell_c h]; rfl
theorem set_34 (h : Base m w) (v : Int) : (mk w m c sl b).setCell ⟨m.c, 34, none⟩ (.int .i64 v) = mk w m { c with second := v } sl b := by rw [mk_set_c h, mk_eq]; rfl
theorem cell_35 (h : Base m w) : (mk w m c sl b).cell? ⟨m.c, 35, none⟩ = some (.bool c.ahead) := by rw [mk_cell_c h]; rfl
theorem set_35 (h : Base m w) (v : Bool) : (mk w m c sl b).setCell ⟨m.c, 35, none⟩ (.bool v) = mk w m { c with ahead := v } sl b := by rw [mk_set_c h, mk_eq]; rfl
theorem cell_36 (h : Base m w) : (mk w m c sl b).cell? ⟨m.c, 36, none⟩ = some (.int .u8 c.lo) := by rw [mk_cell_c h]; rfl
theorem set_36 (h : Base m w) (v : Int) : (mk w m c sl b).setCell ⟨m.c, 36, none⟩ (.int .u8 v) = mk w m { c with lo := v } sl b := by rw [mk_set_c h, mk_eq]; rfl
theorem cell_37 (h : Base m w) : (mk w m c sl b).cell? ⟨m.c, 37, none⟩ = some (.int .u8 c.hi) := by rw [mk_cell_c h]; rfl
theorem set_37 (h : Base m w) (v : Int) : (mk w m c sl b).setCell ⟨m.c, 37, none⟩ (.int .u8 v) = mk w m { c with hi := v } sl b := by rw [mk_set_c h, mk_eq]; rfl
theorem cell_38 (h : Base m w) : (mk w m c sl b).cell? ⟨m.c, 38, none⟩ = some (.int .u16 c.ea) := by rw [mk_cell_c h]; rfl
theorem set_38 (h : Base m w) (v : Int) : (mk w m c sl b).setCell ⟨m.c, 38, none⟩ (.int .u16 v) = mk w m { c with ea := v } sl b := by rw [mk_set_c h, mk_eq]; rfl
theorem cell_39 (h : Base m w) : (mk w m c sl b).cell? ⟨m.c, 39, none⟩ = some (.int .u8 c.out) := by rw [mk_cell_c h]; rfl
theorem set_39 (h : Base m w) (v : Int) : (mk w m c sl b).setCell ⟨m.c, 39, none⟩ (.int .u8 v) = mk w m { c with out := v } sl b := by rw [mk_set_c h, mk_eq]; rfl
theorem cell_40 (h : Base m w) : (mk w m c sl b).cell? ⟨m.c, 40, none⟩ = some (.bool c.wrote) := by rw [mk_cell_c h]; rfl
theorem set_40 (h : Base m w) (v : Bool) : (mk w m c sl b).setCell ⟨m.c, 40, none⟩ (.bool v) = mk w m { c with wrote := v } sl b := by rw [mk_set_c h, mk_eq]; rfl
theorem cell_41 (h : Base m w) : (mk w m c sl b).cell? ⟨m.c, 41, none⟩ = some (.bool c.nmi) := by rw [mk_cell_c h]; rfl
theorem set_41 (h : Base m w) (v : Bool) : (mk w m c sl b).setCell ⟨m.c, 41, none⟩ (.bool v) = mk w m { c with nmi := v } sl b := by rw [mk_set_c h, mk_eq]; rfl
theorem cell_42 (h : Base m w) : (mk w m c sl b).cell? ⟨m.c, 42, none⟩ = some (.int .i64 c.kind) := by rw [mk_cell_c h]; rfl
theorem set_42 (h : Base m w) (v : Int) : (mk w m c sl b).setCell ⟨m.c, 42, none⟩ (.int .i64 v) = mk w m { c with kind := v } sl b := by rw [mk_set_c h, mk_eq]; rfl
theorem cell_43 (h : Base m w) : (mk w m c sl b).cell? ⟨m.c, 43, none⟩ = some (.bool c.port) := by rw [mk_cell_c h]; rfl
theorem set_43 (h : Base m w) (v : Bool) : (mk w m c sl b).setCell ⟨m.c, 43, none⟩ (.bool v) = mk w m { c with port := v } sl b := by rw [mk_set_c h, mk_eq]; rfl
theorem cell_44 (h : Base m w) : (mk w m c sl b).cell? ⟨m.c, 44, none⟩ = some (.int .i64 c.what) := by rw [mk_cell_c h]; rfl
theorem set_44 (h : Base m w) (v : Int) : (mk w m c sl b).setCell ⟨m.c, 44, none⟩ (.int .i64 v) = mk w m { c with what := v } sl b := by rw [mk_set_c h, mk_eq]; rfl
theorem cell_45 (h : Base m w) : (mk w m c sl b).cell? ⟨m.c, 45, none⟩ = some (.int .u16 c.addr) := by rw [mk_cell_c h]; rfl
theorem set_45 (h : Base m w) (v : Int) : (mk w m c sl b).setCell ⟨m.c, 45, none⟩ (.int .u16 v) = mk w m { c with addr := v } sl b := by rw [mk_set_c h, mk_eq]; rfl
theorem cell_46 (h : Base m w) : (mk w m c sl b).cell? ⟨m.c, 46, none⟩ = some (.int .i64 c.n) := by rw [mk_cell_c h]; rfl
theorem set_46 (h : Base m w) (v : Int) : (mk w m c sl b).setCell ⟨m.c, 46, none⟩ (.int .i64 v) = mk w m { c with n := v } sl b := by rw [mk_set_c h, mk_eq]; rfl
theorem cell_47 (h : Base m w) : (mk w m c sl b).cell? ⟨m.c, 47, none⟩ = some (.int .i64 c.t) := by rw [mk_cell_c h]; rfl
theorem set_47 (h : Base m w) (v : Int) : (mk w m c sl b).setCell ⟨m.c, 47, none⟩ (.int .i64 v) = mk w m { c with t := v } sl b := by rw [mk_set_c h, mk_eq]; rfl
theorem cell_48 (h : Base m w) : (mk w m c sl b).cell? ⟨m.c, 48, none⟩ = some (.int .i64 c.wait) := by rw [mk_cell_c h]; rfl
theorem set_48 (h : Base m w) (v : Int) : (mk w m c sl b).setCell ⟨m.c, 48, none⟩ (.int .i64 v) = mk w m { c with wait := v } sl b := by rw [mk_set_c h, mk_eq]; rfl
theorem cell_49 (h : Base m w) : (mk w m c sl b).cell? ⟨m.c, 49, none⟩ = some (.bool c.held) := by rw [mk_cell_c h]; rfl
theorem set_49 (h : Base m w) (v : Bool) : (mk w m c sl b).setCell ⟨m.c, 49, none⟩ (.bool v) = mk w m { c with held := v } sl b := by rw [mk_set_c h, mk_eq]; rfl

theorem slArr_get (k : Nat) (hk : k < 64) : (slArr sl)[k]? = some (.int .i64 (sl k)) := by simp [slArr, hk]
theorem slArr_set (k : Nat) (v : Int) : (slArr sl).setIfInBounds k (.int .i64 v) = slArr (upd sl k v) := by
  apply Array.ext_getElem?
  intro i
  rw [Array.getElem?_setIfInBounds]
  simp only [slArr, Array.getElem?_ofFn, Array.size_ofFn, upd]
  by_cases e : k = i
  · subst e; simp
  · simp [e, Ne.symm e]
theorem cell_s (h : Base m w) (k : Nat) (hk : k < 64) : (mk w m c sl b).cell? ⟨m.s, k, none⟩ = some (.int .i64 (sl k)) := by rw [mk_cell_s h, slArr_get k hk]
theorem set_s (h : Base m w) (k : Nat) (v : Int) : (mk w m c sl b).setCell ⟨m.s, k, none⟩ (.int .i64 v) = mk w m c (upd sl k v) b := by rw [mk_set_s h, slArr_set, mk_eq]

theorem bdArr_get (k : Nat) (hk : k < 77842) : b.arr[k]? = some (b.at_ k) := by simp [Bd.arr, hk]
theorem bdArr_set (k : Nat) (v : Value) (b' : Bd) (hv : k < 77842 → b'.at_ k = v) (ho : ∀ j, j ≠ k → b'.at_ j = b.at_ j) : b.arr.setIfInBounds k v = b'.arr := by
  apply Array.ext_getElem?
  intro i
  rw [Array.getElem?_setIfInBounds]
  simp only [Bd.arr, Array.getElem?_ofFn, Array.size_ofFn]
  by_cases e : k = i
  · subst e
    by_cases h : k < 77842
    · simp [h, hv h]
    · simp [h]
  · simp [e, ho i (Ne.symm e)]
theorem set_b (h : Base m w) (k : Nat) (v : Value) (b' : Bd) (hv : k < 77842 → b'.at_ k = v) (ho : ∀ j, j ≠ k → b'.at_ j = b.at_ j) : (mk w m c sl b).setCell ⟨m.b, k, none⟩ v = mk w m c sl b' := by
  rw [mk_set_b h, bdArr_set k v b' hv ho, mk_eq]
theorem cell_mem (h : Base m w) (k : Nat) (hk : k < 65536) : (mk w m c sl b).cell? ⟨m.b, k, none⟩ = some (.int .u8 (b.mem k)) := by
  rw [mk_cell_b h, bdArr_get k (by omega)]; simp [Bd.at_, hk]
theorem cell_keys (h : Base m w) (k : Nat) (hk : k < 8) : (mk w m c sl b).cell? ⟨m.b, 65536 + k, none⟩ = some (.int .u8 (b.keys k)) := by
  rw [mk_cell_b h, bdArr_get _ (by omega), Bd.at_, if_neg (by omega), if_pos (by omega), Nat.add_sub_cancel_left]
theorem cell_seen (h : Base m w) (k : Nat) (hk : k < 12288) : (mk w m c sl b).cell? ⟨m.b, 65554 + k, none⟩ = some (.int .u8 (b.seen k)) := by
  rw [mk_cell_b h, bdArr_get _ (by omega)]
  unfold Bd.at_
  rw [if_neg (by omega), if_neg (by omega), if_neg (by omega), if_neg (by omega), if_neg (by omega), if_neg (by omega), if_neg (by omega), if_neg (by omega), if_neg (by omega), if_neg (by omega), if_neg (by omega), if_neg (by omega), Nat.add_sub_cancel_left]
theorem set_mem (h : Base m w) (k : Nat) (v : Int) (hk : k < 65536) : (mk w m c sl b).setCell ⟨m.b, k, none⟩ (.int .u8 v) = mk w m c sl { b with mem := upd b.mem k v } := by
  refine set_b h _ _ _ (fun _ => ?_) fun j hj => ?_
  · simp [Bd.at_, hk, upd]
  · simp [Bd.at_, upd, hj]
theorem set_keys (h : Base m w) (k : Nat) (v : Int) (hk : k < 8) : (mk w m c sl b).setCell ⟨m.b, 65536 + k, none⟩ (.int .u8 v) = mk w m c sl { b with keys := upd b.keys k v } := by
  refine set_b h _ _ _ (fun _ => ?_) fun j hj => ?_
  · unfold Bd.at_
    rw [if_neg (by omega), if_pos (by omega), Nat.add_sub_cancel_left]
    simp [upd]
  · unfold Bd.at_ upd
    by_cases h1 : j < 65536
    · simp [h1]
    · by_cases h2 : j < 65544
      · have : j - 65536 ≠ k := by omega
        simp [h1, h2, this]
      · simp [h1, h2]
theorem set_seen (h : Base m w) (k : Nat) (v : Int) : (mk w m c sl b).setCell ⟨m.b, 65554 + k, none⟩ (.int .u8 v) = mk w m c sl { b with seen := upd b.seen k v } := by
  refine set_b h _ _ _ (fun _ => ?_) fun j hj => ?_
  · unfold Bd.at_
    rw [if_neg (by omega), if_neg (by omega), if_neg (by omega), if_neg (by omega), if_neg (by omega), if_neg (by omega), if_neg (by omega), if_neg (by omega), if_neg (by omega), if_neg (by omega), if_neg (by omega), if_neg (by omega), Nat.add_sub_cancel_left]
    simp [upd]
  · unfold Bd.at_
    simp only [upd]
    by_cases h2 : j < 65554
    · have e : ∀ (x y : Value), (if j < 65536 then Value.int .u8 (b.mem j) else if j < 65544 then .int .u8 (b.keys (j - 65536)) else if j = 65544 then .bool b.slow else if j = 65545 then .bool b.ear
          else if j = 65546 then .bool b.log else if j = 65547 then .int .u64 b.t else if j = 65548 then .int .i64 b.frame else if j = 65549 then .int .u8 b.border else if j = 65550 then .bool b.mic
          else if j = 65551 then .bool b.spk else if j = 65552 then b.acts else if j = 65553 then b.edges else x) = (if j < 65536 then Value.int .u8 (b.mem j) else if j < 65544 then .int .u8 (b.keys (j - 65536)) else if j = 65544 then .bool b.slow else if j = 65545 then .bool b.ear
          else if j = 65546 then .bool b.log else if j = 65547 then .int .u64 b.t else if j = 65548 then .int .i64 b.frame else if j = 65549 then .int .u8 b.border else if j = 65550 then .bool b.mic
          else if j = 65551 then .bool b.spk else if j = 65552 then b.acts else if j = 65553 then b.edges else y) := by
        intro x y
        by_cases g0 : j < 65536
        · rw [if_pos g0, if_pos g0]
        rw [if_neg g0, if_neg g0]
        by_cases g1 : j < 65544
        · rw [if_pos g1, if_pos g1]
        rw [if_neg g1, if_neg g1]
        have : j = 65544 ∨ j = 65545 ∨ j = 65546 ∨ j = 65547 ∨ j = 65548 ∨ j = 65549 ∨ j = 65550 ∨ j = 65551 ∨ j = 65552 ∨ j = 65553 := by omega
        rcases this with rfl | rfl | rfl | rfl | rfl | rfl | rfl | rfl | rfl | rfl <;> rfl
      exact e _ _
    · have : j - 65554 ≠ k := by omega
      simp only [this, if_false]

theorem cell_slow (h : Base m w) : (mk w m c sl b).cell? ⟨m.b, 65544, none⟩ = some (.bool b.slow) := by rw [mk_cell_b h, bdArr_get _ (by omega)]; rfl
theorem set_slow (h : Base m w) (v : Bool) : (mk w m c sl b).setCell ⟨m.b, 65544, none⟩ (.bool v) = mk w m c sl { b with slow := v } := by
  refine set_b h _ _ _ (fun _ => rfl) fun j hj => ?_
  unfold Bd.at_
  simp only [hj, if_false]
theorem cell_ear (h : Base m w) : (mk w m c sl b).cell? ⟨m.b, 65545, none⟩ = some (.bool b.ear) := by rw [mk_cell_b h, bdArr_get _ (by omega)]; rfl
theorem set_ear (h : Base m w) (v : Bool) : (mk w m c sl b).setCell ⟨m.b, 65545, none⟩ (.bool v) = mk w m c sl { b with ear := v } := by
  refine set_b h _ _ _ (fun _ => rfl) fun j hj => ?_
  unfold Bd.at_
  simp only [hj, if_false]
theorem cell_log (h : Base m w) : (mk w m c sl b).cell? ⟨m.b, 65546, none⟩ = some (.bool b.log) := by rw [mk_cell_b h, bdArr_get _ (by omega)]; rfl
theorem set_log (h : Base m w) (v : Bool) : (mk w m c sl b).setCell ⟨m.b, 65546, none⟩ (.bool v) = mk w m c sl { b with log := v } := by
  refine set_b h _ _ _ (fun _ => rfl) fun j hj => ?_
  unfold Bd.at_
  simp only [hj, if_false]
theorem cell_t (h : Base m w) : (mk w m c sl b).cell? ⟨m.b, 65547, none⟩ = some (.int .u64 b.t) := by rw [mk_cell_b h, bdArr_get _ (by omega)]; rfl
theorem set_t (h : Base m w) (v : Int) : (mk w m c sl b).setCell ⟨m.b, 65547, none⟩ (.int .u64 v) = mk w m c sl { b with t := v } := by
  refine set_b h _ _ _ (fun _ => rfl) fun j hj => ?_
  unfold Bd.at_
  simp only [hj, if_false]
theorem cell_frame (h : Base m w) : (mk w m c sl b).cell? ⟨m.b, 65548, none⟩ = some (.int .i64 b.frame) := by rw [mk_cell_b h, bdArr_get _ (by omega)]; rfl
theorem set_frame (h : Base m w) (v : Int) : (mk w m c sl b).setCell ⟨m.b, 65548, none⟩ (.int .i64 v) = mk w m c sl { b with frame := v } := by
  refine set_b h _ _ _ (fun _ => rfl) fun j hj => ?_
  unfold Bd.at_
  simp only [hj, if_false]
theorem cell_border (h : Base m w) : (mk w m c sl b).cell? ⟨m.b, 65549, none⟩ = some (.int .u8 b.border) := by rw [mk_cell_b h, bdArr_get _ (by omega)]; rfl
theorem set_border (h : Base m w) (v : Int) : (mk w m c sl b).setCell ⟨m.b, 65549, none⟩ (.int .u8 v) = mk w m c sl { b with border := v } := by
  refine set_b h _ _ _ (fun _ => rfl) fun j hj => ?_
  unfold Bd.at_
  simp only [hj, if_false]
theorem cell_mic (h : Base m w) : (mk w m c sl b).cell? ⟨m.b, 65550, none⟩ = some (.bool b.mic) := by rw [mk_cell_b h, bdArr_get _ (by omega)]; rfl
theorem set_mic (h : Base m w) (v : Bool) : (mk w m c sl b).setCell ⟨m.b, 65550, none⟩ (.bool v) = mk w m c sl { b with mic := v } := by
  refine set_b h _ _ _ (fun _ => rfl) fun j hj => ?_
  unfold Bd.at_
  simp only [hj, if_false]
theorem cell_spk (h : Base m w) : (mk w m c sl b).cell? ⟨m.b, 65551, none⟩ = some (.bool b.spk) := by rw [mk_cell_b h, bdArr_get _ (by omega)]; rfl
theorem set_spk (h : Base m w) (v : Bool) : (mk w m c sl b).setCell ⟨m.b, 65551, none⟩ (.bool v) = mk w m c sl { b with spk := v } := by
  refine set_b h _ _ _ (fun _ => rfl) fun j hj => ?_
  unfold Bd.at_
  simp only [hj, if_false]
theorem cell_acts (h : Base m w) : (mk w m c sl b).cell? ⟨m.b, 65552, none⟩ = some b.acts := by rw [mk_cell_b h, bdArr_get _ (by omega)]; rfl
theorem set_acts (h : Base m w) (v : Value) : (mk w m c sl b).setCell ⟨m.b, 65552, none⟩ v = mk w m c sl { b with acts := v } := by
  refine set_b h _ _ _ (fun _ => rfl) fun j hj => ?_
  unfold Bd.at_
  simp only [hj, if_false]
theorem cell_edges (h : Base m w) : (mk w m c sl b).cell? ⟨m.b, 65553, none⟩ = some b.edges := by rw [mk_cell_b h, bdArr_get _ (by omega)]; rfl
theorem set_edges (h : Base m w) (v : Value) : (mk w m c sl b).setCell ⟨m.b, 65553, none⟩ v = mk w m c sl { b with edges := v } := by
  refine set_b h _ _ _ (fun _ => rfl) fun j hj => ?_
  unfold Bd.at_
  simp only [hj, if_false]

theorem Base.alloc (h : Base m w) (o : Obj) : Base m (w.alloc o) := by
  obtain ⟨x, hx⟩ := h.hc; obtain ⟨y, hy⟩ := h.hs; obtain ⟨z, hz⟩ := h.hb
  have h1 := h.ct; have h2 := h.st; have h3 := h.bt; have h4 := h.le
  exact ⟨h.cs, h.cb, h.sb, h1, h2, h3, by simp; omega, ⟨x, by rw [RowKit.Below.heap_alloc _ _ _ (by omega)]; exact hx⟩, ⟨y, by rw [RowKit.Below.heap_alloc _ _ _ (by omega)]; exact hy⟩, ⟨z, by rw [RowKit.Below.heap_alloc _ _ _ (by omega)]; exact hz⟩⟩
theorem Base.drew (h : Base m w) : Base m w.drew := ⟨h.cs, h.cb, h.sb, h.ct, h.st, h.bt, h.le, h.hc, h.hs, h.hb⟩
theorem Base.c_lt (h : Base m w) : m.c < w.heap.size := Nat.lt_of_lt_of_le h.ct h.le
theorem Base.s_lt (h : Base m w) : m.s < w.heap.size := Nat.lt_of_lt_of_le h.st h.le
theorem Base.b_lt (h : Base m w) : m.b < w.heap.size := Nat.lt_of_lt_of_le h.bt h.le
theorem setRow_alloc (w : World) (o : Obj) (g : Nat) (x : Array Value) (h : g < w.heap.size) : (w.alloc o).setRow g x = (w.setRow g x).alloc o := by
  unfold World.setRow World.alloc
  congr 1
  apply Array.ext_getElem?
  intro k
  simp only [Array.getElem?_modify, Array.getElem?_push, Array.size_modify]
  by_cases hk : k = w.heap.size
  · subst hk
    simp [Nat.ne_of_lt h]
  · simp [hk]
/-- A new block behind the machine is one below it. -/
theorem mk_alloc (h : Base m w) (o : Obj) : (mk w m c sl b).alloc o = mk (w.alloc o) m c sl b := by
  simp only [mk_eq]
  rw [setRow_alloc _ _ _ _ h.c_lt, setRow_alloc _ _ _ _ (by simpa using h.s_lt), setRow_alloc _ _ _ _ (by simpa using h.b_lt)]
theorem setRow_drew (w : World) (g : Nat) (x : Array Value) : w.drew.setRow g x = (w.setRow g x).drew := rfl
theorem mk_drew : (mk w m c sl b).drew = mk w.drew m c sl b := by simp only [mk_eq]; rw [setRow_drew, setRow_drew, setRow_drew]
end

theorem mk_drewN {m : Mac} {w : World} {c : Cp} {sl : Nat → Int} {b : Bd} (n : Nat) : (mk w m c sl b).drewN n = mk (w.drewN n) m c sl b := by
  induction n generalizing w with
  | zero => rfl
  | succ n ih => exact (congrArg World.drew ih).trans mk_drew
theorem Base.drewN {m : Mac} {w : World} (h : Base m w) (n : Nat) : Base m (w.drewN n) := by
  induction n with
  | zero => exact h
  | succ n ih => exact ih.drew

/-- A later world has all blocks of the earlier one. -/
def Ext (w w' : World) : Prop := RowKit.Below w.heap.size w w'
theorem Ext.refl (w : World) : Ext w w := RowKit.Below.refl _ _
theorem Ext.trans {a b c : World} (h : Ext a b) (k : Ext b c) : Ext a c := RowKit.Below.trans h (RowKit.Below.mono k h.size)
theorem Ext.alloc (w : World) (o : Obj) : Ext w (w.alloc o) := (RowKit.Below.refl _ _).alloc (Nat.le_refl _) o
theorem Ext.drew (w : World) : Ext w w.drew := (RowKit.Below.refl _ _).drew
theorem Ext.drew' {a w : World} (h : Ext a w) : Ext a w.drew := h.trans (Ext.drew w)
theorem Ext.drewN' {a w : World} (h : Ext a w) (n : Nat) : Ext a (w.drewN n) := by
  induction n with
  | zero => exact h
  | succ n ih => exact ih.drew'
theorem Ext.alloc' {a w : World} (h : Ext a w) (o : Obj) : Ext a (w.alloc o) := h.trans (Ext.alloc w o)
theorem Ext.base {m : Mac} {w w' : World} (h : Ext w w') (hb : Base m w) : Base m w' := by
  obtain ⟨x, hx⟩ := hb.hc; obtain ⟨y, hy⟩ := hb.hs; obtain ⟨z, hz⟩ := hb.hb
  exact ⟨hb.cs, hb.cb, hb.sb, hb.ct, hb.st, hb.bt, Nat.le_trans hb.le h.size, ⟨x, by rw [h.block _ hb.c_lt]; exact hx⟩, ⟨y, by rw [h.block _ hb.s_lt]; exact hy⟩, ⟨z, by rw [h.block _ hb.b_lt]; exact hz⟩⟩


/-- What a call leaves that only reads: the machine's blocks as they were, behind some draws. -/
def Qt (w : World) (m : Mac) (c : Cp) (sl : Nat → Int) (b : Bd) (W : World) : Prop := ∃ n, W = mk (w.drewN n) m c sl b
/-- What a call leaves that writes: the machine's blocks hold these, and nothing else that was there has turned. -/
def Lft (w : World) (m : Mac) (c : Cp) (sl : Nat → Int) (b : Bd) (W : World) : Prop := ∃ w1, Ext w w1 ∧ Base m w1 ∧ W = mk w1 m c sl b
theorem Lft.same {w : World} {m : Mac} {c : Cp} {sl : Nat → Int} {b : Bd} (hb : Base m w) : Lft w m c sl b (mk w m c sl b) := ⟨w, Ext.refl w, hb, rfl⟩
theorem Lft.mk' {w : World} {m : Mac} {c : Cp} {sl : Nat → Int} {b : Bd} {w1 : World} (hb : Base m w1) (h : Ext w w1) : Lft w m c sl b (mk w1 m c sl b) := ⟨w1, h, hb, rfl⟩
theorem Lft.drew {w : World} {m : Mac} {c : Cp} {sl : Nat → Int} {b : Bd} {W : World} (h : Lft w m c sl b W) : Lft w m c sl b W.drew := by
  obtain ⟨w1, h1, hb, rfl⟩ := h
  exact ⟨w1.drew, h1.trans (Ext.drew _), hb.drew, mk_drew⟩
theorem Lft.drewN {w : World} {m : Mac} {c : Cp} {sl : Nat → Int} {b : Bd} {W : World} (h : Lft w m c sl b W) (n : Nat) : Lft w m c sl b (W.drewN n) := by
  obtain ⟨w1, h1, hb, rfl⟩ := h
  exact ⟨w1.drewN n, h1.drewN' n, hb.drewN n, mk_drewN n⟩
theorem Lft.alloc {w : World} {m : Mac} {c : Cp} {sl : Nat → Int} {b : Bd} {W : World} (h : Lft w m c sl b W) (o : Obj) : Lft w m c sl b (W.alloc o) := by
  obtain ⟨w1, h1, hb, rfl⟩ := h
  exact ⟨w1.alloc o, h1.trans (Ext.alloc _ _), hb.alloc o, mk_alloc hb o⟩
theorem Lft.trans {w w1 : World} {m : Mac} {c c' : Cp} {sl sl' : Nat → Int} {b b' : Bd} {W : World} (h : Ext w w1) (h' : Lft w1 m c' sl' b' W) : Lft w m c' sl' b' W := by
  obtain ⟨w2, h1, hb, rfl⟩ := h'
  exact ⟨w2, h.trans h1, hb, rfl⟩
theorem Qt.left {w : World} {m : Mac} {c : Cp} {sl : Nat → Int} {b : Bd} {W : World} (hb : Base m w) (h : Qt w m c sl b W) : Lft w m c sl b W := by
  obtain ⟨n, rfl⟩ := h
  exact ⟨_, (Ext.refl w).drewN' n, hb.drewN n, rfl⟩
theorem Qt.mk' {w : World} {m : Mac} {c : Cp} {sl : Nat → Int} {b : Bd} (n : Nat) : Qt w m c sl b (mk (w.drewN n) m c sl b) := ⟨n, rfl⟩
theorem Qt.zero {w : World} {m : Mac} {c : Cp} {sl : Nat → Int} {b : Bd} : Qt w m c sl b (mk w m c sl b) := ⟨0, rfl⟩
theorem Qt.region {w : World} {m : Mac} {c : Cp} {sl : Nat → Int} {b : Bd} (n : Nat) : Qt w m c sl b ((mk w m c sl b).drewN n) := ⟨n, mk_drewN n⟩
/-- A contract over any world, met in a region that draws its order. -/
theorem quiet_p {P : Program} {f : FuncId} {args : Array Value} {w : World} {n : Nat} {v : Value}
    (h : Calls P f args (w.drewN n) fun e w' => e = .returned v ∧ w.drewN n = w') : Calls P f args (w.drewN n) fun e w'' => e = .returned v ∧ ∃ k, w'' = w.drewN k :=
  h.mono fun _ _ ⟨he, hw⟩ => ⟨he, n, hw.symm⟩
/-- A contract over the machine's world, met in such a region. -/
theorem quiet_q {P : Program} {f : FuncId} {args : Array Value} {w : World} {m : Mac} {c : Cp} {sl : Nat → Int} {b : Bd} {n : Nat} {v : Value}
    (h : Calls P f args (mk (w.drewN n) m c sl b) fun e W => e = .returned v ∧ Qt (w.drewN n) m c sl b W) :
    Calls P f args ((mk w m c sl b).drewN n) fun e w'' => e = .returned v ∧ ∃ k, w'' = (mk w m c sl b).drewN k := by
  rw [mk_drewN]
  refine h.mono ?_
  rintro e W ⟨he, k, rfl⟩
  exact ⟨he, n + k, by rw [mk_drewN, World.drewN_drewN]⟩
/-- A contract over any world that makes blocks of its own, met in the machine's world. -/
theorem lift0 {w : World} {m : Mac} {c : Cp} {sl : Nat → Int} {b : Bd} (hb : Base m w) {W : World} (h : Ext (mk w m c sl b) W) : ∃ w1, Ext w w1 ∧ W = mk w1 m c sl b := by
  obtain ⟨x, hx⟩ := hb.hc; obtain ⟨y, hy⟩ := hb.hs; obtain ⟨z, hz⟩ := hb.hb
  have ec := (h.block m.c (by rw [mk_size]; exact hb.c_lt)).trans (mk_heap_c hb)
  have es := (h.block m.s (by rw [mk_size]; exact hb.s_lt)).trans (mk_heap_s hb)
  have eb := (h.block m.b (by rw [mk_size]; exact hb.b_lt)).trans (mk_heap_b hb)
  refine ⟨((W.setRow m.c x).setRow m.s y).setRow m.b z, ⟨h.os.trans mk_os, h.tape.trans mk_tape, h.output.trans mk_output, ?_, fun k hk => ?_⟩, ?_⟩
  · have := h.size; rw [mk_size] at this; simpa using this
  · by_cases k1 : k = m.b
    · subst k1
      rw [hz]
      exact setRow_heap _ _ _ _ _ _ (by rw [setRow_other _ _ _ _ hb.sb.symm, setRow_other _ _ _ _ hb.cb.symm]; exact eb)
    rw [setRow_other _ _ _ _ k1]
    by_cases k2 : k = m.s
    · subst k2
      rw [hy]
      exact setRow_heap _ _ _ _ _ _ (by rw [setRow_other _ _ _ _ hb.cs.symm]; exact es)
    rw [setRow_other _ _ _ _ k2]
    by_cases k3 : k = m.c
    · subst k3
      rw [hx]
      exact setRow_heap _ _ _ _ _ _ ec
    rw [setRow_other _ _ _ _ k3, h.block k (by rw [mk_size]; exact hk), mk_heap_o k3 k2 k1]
  · have e1 : (((W.setRow m.c x).setRow m.s y).setRow m.b z).setRow m.c (c.arr m) = (W.setRow m.s y).setRow m.b z := by
      rw [setRow_comm _ hb.cb.symm, setRow_comm _ hb.cs.symm, setRow_setRow, setRow_self _ _ _ _ _ ec]
    have e2 : ((W.setRow m.s y).setRow m.b z).setRow m.s (slArr sl) = W.setRow m.b z := by
      rw [setRow_comm _ hb.sb.symm, setRow_setRow, setRow_self _ _ _ _ _ es]
    rw [mk_eq, e1, e2, setRow_setRow, setRow_self _ _ _ _ _ eb]
theorem lift {w : World} {m : Mac} {c : Cp} {sl : Nat → Int} {b : Bd} (hb : Base m w) {W : World} (h : Ext (mk w m c sl b) W) : Lft w m c sl b W := by
  obtain ⟨w1, h1, e⟩ := lift0 hb h
  exact ⟨w1, h1, h1.base hb, e⟩
theorem ret_int {k : IntKind} {a b : Int} (h : a = b) : Ending.returned (.int k a) = .returned (.int k b) := by rw [h]
theorem ret_bool {a b : Bool} (h : a = b) : Ending.returned (.bool a) = .returned (.bool b) := by rw [h]

attribute [go_sem] cell_0 cell_1 cell_2 cell_3 cell_4 cell_5 cell_6 cell_7 cell_8 cell_9 cell_10 cell_11 cell_12 cell_13 cell_14 cell_15 cell_16 cell_17 cell_18 cell_19 cell_20 cell_21 cell_22 cell_23 cell_24 cell_25 cell_26 cell_27 cell_28 cell_29 cell_30 cell_31 cell_32 cell_33 cell_34 cell_35 cell_36 cell_37 cell_38 cell_39 cell_40 cell_41 cell_42 cell_43 cell_44 cell_45 cell_46 cell_47 cell_48 cell_49 set_0 set_1 set_2 set_3 set_4 set_5 set_6 set_7 set_8 set_9 set_10 set_11 set_12 set_13 set_14 set_15 set_16 set_17 set_18 set_19 set_20 set_21 set_22 set_23 set_24 set_25 set_26 set_27 set_28 set_29 set_30 set_31 set_32 set_33 set_34 set_35 set_36 set_37 set_38 set_39 set_40 set_41 set_42 set_43 set_44 set_45 set_46 set_47 set_48 set_49 cell_s set_s cell_mem set_mem cell_slow cell_ear cell_log cell_t cell_frame cell_border cell_mic cell_spk cell_acts cell_edges set_slow set_ear set_log set_t set_frame set_border set_mic set_spk set_acts set_edges mk_frozen_c mk_frozen_s mk_frozen_b mk_size mk_tape mk_os mk_output mk_drawn Base.c_lt Base.s_lt Base.b_lt Base.alloc Base.drew Base.drewN
end Sq
