/- What the processor's functions reckon, as plain functions on the records of the machine's memory; no program is in sight. -/
import Derived.Test.YtneganpbamemmaaGreatMach
import Derived.Lib.BitFns
set_option linter.unusedVariables false
set_option linter.unusedSimpArgs false
set_option linter.unusedSectionVars false
namespace Sq
open Go

def wd (hi lo : Int) : Int := hi * 256 + lo
def whi (w : Int) : Int := w / 256
def wlo (w : Int) : Int := w % 256
def wplus (w d : Int) : Int := (w + (if d < 128 then d else d - 256)) % 65536

def cx (c : Int) : Int := c / 64
def cy (c : Int) : Int := c / 8 % 8
def cz (c : Int) : Int := c % 8
def cp (c : Int) : Int := c / 16 % 4
def cq (c : Int) : Int := c / 8 % 2

/-- Flags. -/
def fOf (b : Int) : Int := if b = 0 then bits .or .u8 (bits .and .u8 b 168) 64 else bits .and .u8 b 168
def fWith (f bit : Int) (on : Bool) : Int := if on then bits .or .u8 f bit else bits .andNot .u8 f bit
def fHas (f bit : Int) : Bool := bits .and .u8 f bit != 0
def fEven (b : Int) : Bool := (Lib.onesCount b.toNat : Int) % 2 == 0
def fOfP (b : Int) : Int := fWith (fOf b) 4 (fEven b)
def fCond (f k : Int) : Bool :=
  if k = 0 ∨ k = 1 then fHas f 64 == (k == 1)
  else if k = 2 ∨ k = 3 then fHas f 1 == (k == 3)
  else if k = 4 ∨ k = 5 then fHas f 4 == (k == 5)
  else if k = 6 ∨ k = 7 then fHas f 128 == (k == 7)
  else false

/-- Registers by their numbers. -/
def Rg.byte (g : Rg) (k ix : Int) : Int :=
  if k = 0 then g.b else if k = 1 then g.c else if k = 2 then g.d else if k = 3 then g.e
  else if k = 4 then (if ix = 1 then whi g.ix else if ix = 2 then whi g.iy else g.h)
  else if k = 5 then (if ix = 1 then wlo g.ix else if ix = 2 then wlo g.iy else g.l)
  else if k = 7 then g.a else 0
def Rg.putByte (g : Rg) (k ix v : Int) : Rg :=
  if k = 0 then { g with b := v } else if k = 1 then { g with c := v } else if k = 2 then { g with d := v } else if k = 3 then { g with e := v }
  else if k = 4 then (if ix = 1 then { g with ix := wd v (wlo g.ix) } else if ix = 2 then { g with iy := wd v (wlo g.iy) } else { g with h := v })
  else if k = 5 then (if ix = 1 then { g with ix := wd (whi g.ix) v } else if ix = 2 then { g with iy := wd (whi g.iy) v } else { g with l := v })
  else if k = 7 then { g with a := v } else g
def Rg.pair (g : Rg) (k ix : Int) : Int :=
  if k = 0 then wd g.b g.c else if k = 1 then wd g.d g.e
  else if k = 2 then (if ix = 1 then g.ix else if ix = 2 then g.iy else wd g.h g.l)
  else if k = 3 then g.sp else 0
def Rg.putPair (g : Rg) (k ix w : Int) : Rg :=
  if k = 0 then { g with b := whi w, c := wlo w } else if k = 1 then { g with d := whi w, e := wlo w }
  else if k = 2 then (if ix = 1 then { g with ix := w } else if ix = 2 then { g with iy := w } else { g with h := whi w, l := wlo w })
  else if k = 3 then { g with sp := w } else g
def Rg.tick (g : Rg) : Rg := { g with r := g.r / 128 * 128 + (g.r + 1) % 128 }
def Rg.exAf (g : Rg) : Rg := { g with a := g.a2, a2 := g.a, f := g.f2, f2 := g.f }
def Rg.exx (g : Rg) : Rg := { g with b := g.b2, b2 := g.b, c := g.c2, c2 := g.c, d := g.d2, d2 := g.d, e := g.e2, e2 := g.e, h := g.h2, h2 := g.h, l := g.l2, l2 := g.l }
def Rg.exDe (g : Rg) : Rg := { g with d := g.h, h := g.d, e := g.l, l := g.e }

/-- The bounds of the registers' numbers. -/
structure Rg.Ok (g : Rg) : Prop where
  a : 0 ≤ g.a ∧ g.a < 256
  f : 0 ≤ g.f ∧ g.f < 256
  b : 0 ≤ g.b ∧ g.b < 256
  c : 0 ≤ g.c ∧ g.c < 256
  d : 0 ≤ g.d ∧ g.d < 256
  e : 0 ≤ g.e ∧ g.e < 256
  h : 0 ≤ g.h ∧ g.h < 256
  l : 0 ≤ g.l ∧ g.l < 256
  a2 : 0 ≤ g.a2 ∧ g.a2 < 256
  f2 : 0 ≤ g.f2 ∧ g.f2 < 256
  b2 : 0 ≤ g.b2 ∧ g.b2 < 256
  c2 : 0 ≤ g.c2 ∧ g.c2 < 256
  d2 : 0 ≤ g.d2 ∧ g.d2 < 256
  e2 : 0 ≤ g.e2 ∧ g.e2 < 256
  h2 : 0 ≤ g.h2 ∧ g.h2 < 256
  l2 : 0 ≤ g.l2 ∧ g.l2 < 256
  i : 0 ≤ g.i ∧ g.i < 256
  r : 0 ≤ g.r ∧ g.r < 256
  q : 0 ≤ g.q ∧ g.q < 256
  ix : 0 ≤ g.ix ∧ g.ix < 65536
  iy : 0 ≤ g.iy ∧ g.iy < 65536
  sp : 0 ≤ g.sp ∧ g.sp < 65536
  pc : 0 ≤ g.pc ∧ g.pc < 65536
  wz : 0 ≤ g.wz ∧ g.wz < 65536
  im : 0 ≤ g.im ∧ g.im ≤ 2
  pre : 0 ≤ g.pre ∧ g.pre ≤ 2
end Sq
/- What packages alu, wide, turn and bulk reckon, as plain functions. -/
namespace Sq
open Go
def fSet (f : Int) (l : List (Int × Bool)) : Int := l.foldl (fun f p => fWith f p.1 p.2) f
def one (c : Bool) : Int := if c then 1 else 0
/-- A byte, and a word, as a number with a sign. -/
def s8 (x : Int) : Int := if x < 128 then x else x - 256
def s16 (x : Int) : Int := if x < 32768 then x else x - 65536
def over8 (n : Int) : Bool := decide (n < -128) || decide (127 < n)
def over16 (n : Int) : Bool := decide (n < -32768) || decide (32767 < n)
def aAddR (a b : Int) (c : Bool) : Int := (a + b + one c) % 256
def aAddF (a b : Int) (c : Bool) : Int := fSet (fOf (aAddR a b c)) [(16, decide (15 < a % 16 + b % 16 + one c)), (4, over8 (s8 a + s8 b + one c)), (1, decide (255 < a + b + one c))]
def aSubR (a b : Int) (c : Bool) : Int := (a - b - one c) % 256
def aSubF (a b : Int) (c : Bool) : Int := fSet (bits .or .u8 (fOf (aSubR a b c)) 2) [(16, decide (a % 16 - b % 16 - one c < 0)), (4, over8 (s8 a - s8 b - one c)), (1, decide (a - b - one c < 0))]
def aCp (a b : Int) : Int := bits .or .u8 (bits .andNot .u8 (aSubF a b false) 40) (bits .and .u8 b 40)
def aDo (k a b f : Int) : Int × Int :=
  if k = 0 then (aAddR a b false, aAddF a b false)
  else if k = 1 then (aAddR a b (fHas f 1), aAddF a b (fHas f 1))
  else if k = 2 then (aSubR a b false, aSubF a b false)
  else if k = 3 then (aSubR a b (fHas f 1), aSubF a b (fHas f 1))
  else if k = 4 then (bits .and .u8 a b, bits .or .u8 (fOfP (bits .and .u8 a b)) 16)
  else if k = 5 then (bits .xor .u8 a b, fOfP (bits .xor .u8 a b))
  else if k = 6 then (bits .or .u8 a b, fOfP (bits .or .u8 a b))
  else (a, aCp a b)
def keepC (g f : Int) : Int := bits .or .u8 (bits .andNot .u8 g 1) (bits .and .u8 f 1)
def aInc (a f : Int) : Int × Int := (aAddR a 1 false, keepC (aAddF a 1 false) f)
def aDec (a f : Int) : Int × Int := (aSubR a 1 false, keepC (aSubF a 1 false) f)
def aCpl (a f : Int) : Int × Int := (bits .xor .u8 255 a, bits .or .u8 (bits .or .u8 (bits .or .u8 (bits .andNot .u8 f 40) (bits .and .u8 (bits .xor .u8 255 a) 40)) 16) 2)
def daaC (a f : Int) : Bool := fHas f 1 || decide (153 < a)
def daaD (a f : Int) : Int := ((if fHas f 16 = true ∨ 9 < a % 16 then 6 else 0) + (if daaC a f = true then 96 else 0)) % 256
def daaR (a f : Int) : Int := if fHas f 2 then (a - daaD a f) % 256 else (a + daaD a f) % 256
def daaH (a f : Int) : Bool := if fHas f 2 then fHas f 16 && decide (a % 16 < 6) else decide (9 < a % 16)
def aDaa (a f : Int) : Int × Int := (daaR a f, fSet (fOfP (daaR a f)) [(2, fHas f 2), (16, daaH a f), (1, daaC a f)])
def aScf (a f q : Int) : Int := bits .or .u8 (bits .or .u8 (bits .and .u8 f 196) (bits .and .u8 (bits .or .u8 (bits .xor .u8 q f) a) 40)) 1
def aCcf (a f q : Int) : Int := fSet (bits .or .u8 (bits .and .u8 f 196) (bits .and .u8 (bits .or .u8 (bits .xor .u8 q f) a) 40)) [(16, fHas f 1), (1, !fHas f 1)]

/-- Words. -/
def wFlags (h o c : Bool) : Int := if h = false ∧ o = false ∧ c = false then 0 else fWith (fWith (fWith 0 16 h) 4 o) 1 c
def wAdd (a b f : Int) : Int × Int :=
  ((a + b) % 65536, bits .or .u8 (bits .or .u8 (bits .and .u8 f 196) (bits .and .u8 (whi ((a + b) % 65536)) 40)) (bits .andNot .u8 (wFlags (decide (4095 < a % 4096 + b % 4096)) (over16 (s16 a + s16 b)) (decide (65535 < a + b))) 4))
def wAll (r : Int) : Int := fWith (bits .and .u8 (whi r) 168) 64 (r == 0)
def wAdc (a b f : Int) : Int × Int :=
  ((a + b + f % 2) % 65536, bits .or .u8 (wAll ((a + b + f % 2) % 65536)) (wFlags (decide (4095 < a % 4096 + b % 4096 + f % 2)) (over16 (s16 a + s16 b + f % 2)) (decide (65535 < a + b + f % 2))))
def wSbc (a b f : Int) : Int × Int :=
  ((a - b - f % 2) % 65536, bits .or .u8 (bits .or .u8 (wAll ((a - b - f % 2) % 65536)) (wFlags (decide (a % 4096 - b % 4096 - f % 2 < 0)) (over16 (s16 a - s16 b - f % 2)) (decide (a - b - f % 2 < 0)))) 2)

/-- Turns. -/
def turned (k b f : Int) : Int × Int :=
  if k = 0 then (b * 2 % 256 + b / 128, b / 128)
  else if k = 1 then (b / 2 + b % 2 * 128, b % 2)
  else if k = 2 then (b * 2 % 256 + f % 2, b / 128)
  else if k = 3 then (b / 2 + f % 2 * 128, b % 2)
  else if k = 4 then (b * 2 % 256, b / 128)
  else if k = 5 then (b / 2 + b / 128 * 128, b % 2)
  else if k = 6 then (b * 2 % 256 + 1, b / 128)
  else (b / 2, b % 2)
def tDo (k b f : Int) : Int × Int := ((turned k b f).1, bits .or .u8 (fOfP (turned k b f).1) (turned k b f).2)
def tAcc (k a f : Int) : Int × Int := ((turned k a f).1, bits .or .u8 (bits .or .u8 (bits .and .u8 f 196) (bits .and .u8 (turned k a f).1 40)) (turned k a f).2)
def tBitG (fr f : Int) : Int := bits .or .u8 (bits .or .u8 (bits .and .u8 f 1) 16) (bits .and .u8 fr 40)
def tBit (n b fr f : Int) : Int :=
  if bits .and .u8 (b / 2 ^ n.toNat) 1 == 1 then fWith (tBitG fr f) 128 (n == 7) else bits .or .u8 (bits .or .u8 (tBitG fr f) 64) 4
def tSet (n b : Int) : Int := bits .or .u8 b (2 ^ n.toNat)
def tRes (n b : Int) : Int := bits .andNot .u8 b (2 ^ n.toNat)
def tRldA (a m : Int) : Int := bits .or .u8 (bits .andNot .u8 a 15) (m / 16)
def tRld (a m f : Int) : Int × Int × Int := (tRldA a m, bits .or .u8 (m * 16 % 256) (a % 16), bits .or .u8 (fOfP (tRldA a m)) (bits .and .u8 f 1))
def tRrdA (a m : Int) : Int := bits .or .u8 (bits .andNot .u8 a 15) (m % 16)
def tRrd (a m f : Int) : Int × Int × Int := (tRrdA a m, bits .or .u8 (a * 16 % 256) (m / 16), bits .or .u8 (fOfP (tRrdA a m)) (bits .and .u8 f 1))

/-- Does a plain code go to memory at HL? -/
def opMem (k : Int) : Bool :=
  if cx k = 0 then cy k == 6 && decide (4 ≤ cz k) && decide (cz k ≤ 6)
  else if cx k = 1 then k != 118 && (cy k == 6 || cz k == 6)
  else if cx k = 2 then cz k == 6 else false

/-- Blocks. -/
def bSum (n : Int) : Int := fWith (fWith 0 32 (bits .and .u8 (n / 2) 1 == 1)) 8 (bits .and .u8 (n / 8) 1 == 1)
def bCopy (a v bc f : Int) : Int := fWith (bits .or .u8 (bits .and .u8 f 193) (bSum ((a + v) % 256))) 4 (bc != 0)
def bAgain (f pc : Int) : Int := bits .or .u8 (bits .andNot .u8 f 40) (bits .and .u8 (pc / 256) 40)
end Sq
/- The list of steps in its block, and what append does to it; no program is in sight. -/
namespace Sq
open Go

structure Stp where
  k : Int
  at_ : Int
  wh : Int
  n : Int
def Stp.ints (s : Stp) : List Int := [s.k, s.at_, s.wh, s.n]
def flat (l : List Stp) : List Int := l.flatMap Stp.ints
theorem flat_nil : flat [] = [] := rfl
theorem flat_cons (s : Stp) (l : List Stp) : flat (s :: l) = s.k :: s.at_ :: s.wh :: s.n :: flat l := rfl
theorem flat_append (a b : List Stp) : flat (a ++ b) = flat a ++ flat b := List.flatMap_append
theorem flat_length (l : List Stp) : (flat l).length = 4 * l.length := by
  induction l with
  | nil => rfl
  | cons s l ih => rw [flat_cons]; simp only [List.length_cons, ih]; omega

/-- Numbers written from a place on. -/
def puts (sl : Nat → Int) (o : Nat) (xs : List Int) : Nat → Int := fun j => if o ≤ j ∧ j < o + xs.length then (xs[j - o]?).getD 0 else sl j
theorem puts_nil (sl : Nat → Int) (o : Nat) : puts sl o [] = sl := by
  funext j; unfold puts; rw [if_neg (by simp only [List.length_nil]; omega)]
theorem puts_puts (sl : Nat → Int) (o : Nat) (xs ys : List Int) : puts (puts sl o xs) (o + xs.length) ys = puts sl o (xs ++ ys) := by
  funext j
  unfold puts
  simp only [List.length_append]
  by_cases h1 : j < o
  · rw [if_neg (by omega), if_neg (by omega), if_neg (by omega)]
  · by_cases h2 : j < o + xs.length
    · rw [if_neg (by omega), if_pos (by omega), if_pos (by omega), List.getElem?_append_left (by omega)]
    · by_cases h3 : j < o + xs.length + ys.length
      · rw [if_pos (by omega), if_pos (by omega), List.getElem?_append_right (by omega), show j - (o + xs.length) = j - o - xs.length from by omega]
      · rw [if_neg (by omega), if_neg (by omega), if_neg (by omega)]

/-- Steps put behind so many. -/
def app (sl : Nat → Int) (n : Nat) (l : List Stp) : Nat → Int := puts sl (4 * n) (flat l)
theorem app_nil (sl : Nat → Int) (n : Nat) : app sl n [] = sl := puts_nil _ _
theorem app_app (sl : Nat → Int) (n : Nat) (a b : List Stp) : app (app sl n a) (n + a.length) b = app sl n (a ++ b) := by
  unfold app
  rw [flat_append, ← puts_puts, flat_length, Nat.mul_add]

theorem slArr_toList (sl : Nat → Int) : (slArr sl).toList = (List.range 64).map fun i => Value.int .i64 (sl i) := by
  apply List.ext_getElem?
  intro i
  rw [Array.getElem?_toList]
  by_cases h : i < 64
  · rw [slArr_get i h]; simp [h]
  · simp [slArr, h]
theorem slArr_puts (sl : Nat → Int) (o : Nat) (xs : List Int) (h : o + xs.length ≤ 64) :
    ((slArr sl).toList.take o ++ xs.map (Value.int .i64) ++ (slArr sl).toList.drop (o + xs.length)).toArray = slArr (puts sl o xs) := by
  apply Array.ext_getElem?
  intro i
  rw [slArr_toList, List.getElem?_toArray, ← Array.getElem?_toList, slArr_toList, List.append_assoc]
  by_cases h1 : i < o
  · rw [List.getElem?_append_left (by simp; omega)]
    simp only [List.getElem?_take, List.getElem?_map, h1, if_true]
    rw [List.getElem?_range (by omega)]
    simp only [Option.map_some, puts]
    rw [if_neg (by omega)]
  · rw [List.getElem?_append_right (by simp; omega)]
    have e : (((List.range 64).map fun i => Value.int .i64 (sl i)).take o).length = o := by simp; omega
    rw [e]
    by_cases h2 : i < o + xs.length
    · rw [List.getElem?_append_left (by simp; omega), List.getElem?_map, List.getElem?_map, List.getElem?_range (by omega)]
      simp only [Option.map_some, puts]
      rw [if_pos (by omega), List.getElem?_eq_getElem (by omega)]
      rfl
    · rw [List.getElem?_append_right (by simp; omega), List.getElem?_drop, List.length_map]
      rw [show o + xs.length + (i - o - xs.length) = i from by omega]
      simp only [List.getElem?_map]
      by_cases h3 : i < 64
      · rw [List.getElem?_range h3]
        simp only [Option.map_some, puts]
        rw [if_neg (by omega)]
      · rw [List.getElem?_eq_none (by simp; omega)]
        rfl

section
variable {m : Mac} {w : World} {c : Cp} {sl : Nat → Int} {b : Bd}
theorem mk_setRow_s (h : Base m w) (sl' : Nat → Int) : (mk w m c sl b).setRow m.s (slArr sl') = mk w m c sl' b := by
  rw [mk_eq, mk_eq, setRow_comm _ h.sb.symm, setRow_setRow]

/-- append of steps that lie in a block, where there is room. -/
theorem wpList_append_steps {P : Program} {ops : Array Oper} {rest : List Oper} {o : Oper} {a : Act} {Q : Exit → Act → World → Prop}
    (hb : Base m w) (hg : o.guard = none) (s x : Operand) (t : TypeId) (hop : o.op = Op.call { callee := Callee.builtin Builtin.append, args := #[s, x], argTypes := #[t, t] })
    (h1 : P.underlying t = some (.slice m.ts)) (h2 : (P.info? m.ts).map (·.size) = some 4)
    (n k cap : Nat) (hs : a.eval s = .slice (some ⟨m.s, 0, none⟩) n 16) (ad : Addr) (hx : a.eval x = .slice (some ad) k cap) (l : List Stp) (hl : l.length = k)
    (hc : ∀ (j : Nat) (u : Value), ((flat l).map (Value.int .i64))[j]? = some u → (mk w m c sl b).cell? (ad.add j) = some u) (hr : n + k ≤ 16)
    (h : wpList P ops Q rest (a.put o.dst (.slice (some ⟨m.s, 0, none⟩) (n + k) 16)) (mk w m c (app sl n l) b)) :
    wpList P ops Q (o :: rest) a (mk w m c sl b) := by
  subst hl
  cases hi : P.info? m.ts with
  | none => simp [hi] at h2
  | some i =>
    simp only [hi, Option.map_some, Option.some.injEq] at h2
    refine wpList_plain hg fun K hK => ?_
    have hrun := run_append_room (P := P) (mk w m c sl b) t o.type m.ts i h1 hi m.s n 16 (slArr sl) (mk_heap_s hb) ad l.length cap ((flat l).map (Value.int .i64))
      (by rw [List.length_map, flat_length, h2, Nat.mul_comm]) hc (fun u hu => by obtain ⟨z, _, rfl⟩ := List.mem_map.1 hu; rfl) hr
      (by rw [List.length_map, flat_length, h2]; simp [slArr]; omega)
    rw [List.length_map, h2, Nat.mul_comm n 4, slArr_puts sl (4 * n) (flat l) (by rw [flat_length]; omega), mk_setRow_s hb] at hrun
    unfold Oper.wp
    simp [execOp, hop, resolve, invoke, builtin, hs, hx, hrun, Result.andThen]
    exact hK _ _ h
/-- A block behind the machine's, read through it. -/
theorem mk_cell_new (h : Base m w) (o : Obj) (i : Nat) : (mk (w.alloc o) m c sl b).cell? ⟨w.heap.size, i, none⟩ = (w.alloc o).cell? ⟨w.heap.size, i, none⟩ := by
  refine World.cell?_of_block ?_
  have h1 := h.ct; have h2 := h.st; have h3 := h.bt; have h4 := h.le
  exact mk_heap_o (by show w.heap.size ≠ m.c; omega) (by show w.heap.size ≠ m.s; omega) (by show w.heap.size ≠ m.b; omega)
theorem steps_new (h : Base m w) (l : List Stp) (t : TypeId) (arr : Array Value) (ha : arr = ((flat l).map (Value.int .i64)).toArray) :
    ∀ (j : Nat) (u : Value), ((flat l).map (Value.int .i64))[j]? = some u → (mk (w.alloc (.cells arr t)) m c sl b).cell? ((⟨w.heap.size, 0, none⟩ : Addr).add j) = some u := by
  intro j u hj
  subst ha
  rw [Addr.add_lit, Nat.zero_add, mk_cell_new h, World.cell?_alloc_new]
  simpa using hj
end
end Sq
/- The processor's own functions, as plain functions on its record. -/
namespace Sq
open Go

def Cp.word (c : Cp) : Int := wd c.hi c.lo
def Cp.setF (c : Cp) (f : Int) : Cp := { c with g := { c.g with f := f }, wrote := true }
def Cp.plain (c : Cp) : Int := if opMem c.code then 0 else c.ix
def Cp.pushed (c : Cp) : Int := if cp c.code = 3 then wd c.g.a c.g.f else c.g.pair (cp c.code) c.ix
def Cp.popped (c : Cp) : Cp :=
  if cp c.code = 3 then { c with g := { c.g with a := whi c.word, f := wlo c.word } } else { c with g := c.g.putPair (cp c.code) c.ix c.word }
def Cp.byteOf (c : Cp) (w : Int) : Int :=
  if w = 0 then c.lo else if w = 1 then c.hi else if w = 2 then c.g.a
  else if w = 3 then whi (c.g.pair 2 c.ix) else if w = 4 then wlo (c.g.pair 2 c.ix)
  else if w = 6 then c.g.byte (cz c.code) 0
  else if w = 7 then whi c.g.pc else if w = 8 then wlo c.g.pc
  else if w = 9 then whi (c.g.pair (cp c.code) 0) else if w = 10 then wlo (c.g.pair (cp c.code) 0)
  else if w = 11 then whi c.pushed else if w = 12 then wlo c.pushed
  else c.g.byte (cy c.code) 0
def Cp.met (c : Cp) (w : Int) : Bool :=
  if w = 0 then fCond c.g.f (cy c.code) else if w = 1 then fCond c.g.f (cy c.code - 4) else if w = 2 then c.g.b != 0
  else if cz c.code = 0 then c.g.pair 0 0 != 0
  else if cz c.code = 1 then c.g.pair 0 0 != 0 && !fHas c.g.f 64
  else c.g.b != 0
def Cp.acc (c : Cp) : Int × Int :=
  if cy c.code = 4 then aDaa c.g.a c.g.f else if cy c.code = 5 then aCpl c.g.a c.g.f
  else if cy c.code = 6 then (c.g.a, aScf c.g.a c.g.f c.g.q) else if cy c.code = 7 then (c.g.a, aCcf c.g.a c.g.f c.g.q)
  else tAcc (cy c.code) c.g.a c.g.f
def Cp.bitsV (c : Cp) (v : Int) : Int :=
  if cx c.code = 0 then (tDo (cy c.code) v c.g.f).1 else if cx c.code = 1 then v
  else if cx c.code = 2 then tRes (cy c.code) v else tSet (cy c.code) v
def Cp.bitsC (c : Cp) (v fr : Int) : Cp :=
  if cx c.code = 0 then c.setF (tDo (cy c.code) v c.g.f).2 else if cx c.code = 1 then c.setF (tBit (cy c.code) v fr c.g.f) else c
def Cp.loaded (c : Cp) : Int := fWith (bits .or .u8 (fOf c.g.a) (bits .and .u8 c.g.f 1)) 4 c.g.iff2
def Cp.along (c : Cp) : Int := if cy c.code % 2 = 1 then 65535 else 1
def Cp.again (c : Cp) : Cp := { c with g := { c.g with pc := (c.g.pc - 2) % 65536, wz := ((c.g.pc - 2) % 65536 + 1) % 65536 } }
def Cp.start (c : Cp) (kind addr n : Int) : Cp := { c with kind := kind, addr := addr, n := n, t := 0, held := false }

structure Cp.Ok (c : Cp) : Prop where
  g : c.g.Ok
  code : 0 ≤ c.code ∧ c.code < 256
  ix : 0 ≤ c.ix ∧ c.ix ≤ 2
  lo : 0 ≤ c.lo ∧ c.lo < 256
  hi : 0 ≤ c.hi ∧ c.hi < 256
  ea : 0 ≤ c.ea ∧ c.ea < 65536
  out : 0 ≤ c.out ∧ c.out < 256
  addr : 0 ≤ c.addr ∧ c.addr < 65536

theorem wd_bd {x y : Int} (hx : 0 ≤ x ∧ x < 256) (hy : 0 ≤ y ∧ y < 256) : 0 ≤ wd x y ∧ wd x y < 65536 := by unfold wd; omega
theorem whi_bd {x : Int} (hx : 0 ≤ x ∧ x < 65536) : 0 ≤ whi x ∧ whi x < 256 := by unfold whi; omega
theorem wlo_bd {x : Int} (_ : 0 ≤ x ∧ x < 65536) : 0 ≤ wlo x ∧ wlo x < 256 := by unfold wlo; omega
theorem cx_bd {k : Int} (h : 0 ≤ k ∧ k < 256) : 0 ≤ cx k ∧ cx k < 4 := by unfold cx; omega
theorem cy_bd (k : Int) : 0 ≤ cy k ∧ cy k < 8 := by unfold cy; omega
theorem cz_bd (k : Int) : 0 ≤ cz k ∧ cz k < 8 := by unfold cz; omega
theorem cp_bd (k : Int) : 0 ≤ cp k ∧ cp k < 4 := by unfold cp; omega
theorem Rg.Ok.pair {g : Rg} (h : g.Ok) (k ix : Int) : 0 ≤ g.pair k ix ∧ g.pair k ix < 65536 := by
  unfold Rg.pair
  repeat' split
  · exact wd_bd h.b h.c
  · exact wd_bd h.d h.e
  · exact h.ix
  · exact h.iy
  · exact wd_bd h.h h.l
  · exact h.sp
  · omega
theorem Rg.Ok.byte {g : Rg} (h : g.Ok) (k ix : Int) : 0 ≤ g.byte k ix ∧ g.byte k ix < 256 := by
  unfold Rg.byte
  repeat' split
  · exact h.b
  · exact h.c
  · exact h.d
  · exact h.e
  · exact whi_bd h.ix
  · exact whi_bd h.iy
  · exact h.h
  · exact wlo_bd h.ix
  · exact wlo_bd h.iy
  · exact h.l
  · exact h.a
  · omega
theorem Cp.Ok.word {c : Cp} (h : c.Ok) : 0 ≤ c.word ∧ c.word < 65536 := wd_bd h.hi h.lo
theorem Cp.Ok.pushed {c : Cp} (h : c.Ok) : 0 ≤ c.pushed ∧ c.pushed < 65536 := by
  unfold Cp.pushed
  split
  · exact wd_bd h.g.a h.g.f
  · exact h.g.pair _ _
theorem Cp.Ok.plain {c : Cp} (h : c.Ok) : 0 ≤ c.plain ∧ c.plain ≤ 2 := by
  unfold Cp.plain
  split
  · omega
  · exact h.ix
theorem Rg.Ok.putByte {g : Rg} (h : g.Ok) (k ix v : Int) (hv : 0 ≤ v ∧ v < 256) : (g.putByte k ix v).Ok := by
  have h1 := wd_bd hv (wlo_bd h.ix); have h2 := wd_bd hv (wlo_bd h.iy); have h3 := wd_bd (whi_bd h.ix) hv; have h4 := wd_bd (whi_bd h.iy) hv
  unfold Rg.putByte
  repeat' split
  all_goals first | exact h | exact { h with b := hv } | exact { h with c := hv } | exact { h with d := hv } | exact { h with e := hv } | exact { h with h := hv } | exact { h with l := hv } | exact { h with a := hv } | exact { h with ix := h1 } | exact { h with iy := h2 } | exact { h with ix := h3 } | exact { h with iy := h4 }
theorem Rg.Ok.putPair {g : Rg} (h : g.Ok) (k ix v : Int) (hv : 0 ≤ v ∧ v < 65536) : (g.putPair k ix v).Ok := by
  have h1 := whi_bd hv; have h2 := wlo_bd hv
  unfold Rg.putPair
  repeat' split
  all_goals first | exact h | exact { h with b := h1, c := h2 } | exact { h with d := h1, e := h2 } | exact { h with h := h1, l := h2 } | exact { h with ix := hv } | exact { h with iy := hv } | exact { h with sp := hv }
end Sq
/- The works of a code, as plain functions on the processor's record. -/
namespace Sq
open Go
def Cp.first (c : Cp) (k : Int) : Cp :=
  if k = 0 then { c with g := c.g.exAf }
  else if k = 1 then { c with g := { c.g with b := (c.g.b - 1) % 256 } }
  else if k = 2 then { c with g := { c.g with pc := wplus c.g.pc c.lo, wz := wplus c.g.pc c.lo } }
  else if k = 3 then { c with g := c.g.putPair (cp c.code) c.ix c.word }
  else if k = 4 then ({ c with g := ({ c.g with wz := (c.g.pair 2 c.ix + 1) % 65536 }).putPair 2 c.ix (wAdd (c.g.pair 2 c.ix) (c.g.pair (cp c.code) c.ix) c.g.f).1 }).setF (wAdd (c.g.pair 2 c.ix) (c.g.pair (cp c.code) c.ix) c.g.f).2
  else if k = 5 then { c with g := { c.g with wz := wd c.g.a (wlo c.g.wz) } }
  else if k = 6 then { c with g := { c.g with wz := (c.g.wz + 1) % 65536 } }
  else if k = 7 then { c with g := { c.g with wz := (c.g.pair (cp c.code) 0 + 1) % 65536 } }
  else if k = 8 then { c with g := { c.g with wz := c.word } }
  else if k = 9 then { c with g := { c.g with a := c.lo } }
  else if k = 10 then { c with g := c.g.putPair 2 c.ix c.word }
  else if k = 11 then { c with g := c.g.putPair (cp c.code) c.ix ((c.g.pair (cp c.code) c.ix + 1) % 65536) }
  else if k = 12 then { c with g := c.g.putPair (cp c.code) c.ix ((c.g.pair (cp c.code) c.ix - 1) % 65536) }
  else if k = 18 then { c with ea := wplus (c.g.pair 2 c.ix) c.lo, g := { c.g with wz := wplus (c.g.pair 2 c.ix) c.lo } }
  else if k = 24 then { c with g := { c.g with pc := c.word, wz := c.word } }
  else if k = 25 then c.popped
  else if k = 26 then { c with g := c.g.exx }
  else if k = 27 then { c with g := { c.g with pc := c.g.pair 2 c.ix } }
  else if k = 28 then { c with g := { c.g with sp := c.g.pair 2 c.ix } }
  else if k = 29 then { c with g := { c.g with pc := c.g.wz } }
  else if k = 30 then { c with g := { c.g with wz := wd c.g.a c.lo } }
  else { c with g := { (c.g.putPair 2 c.ix c.word) with wz := c.word } }
def Cp.counts (c : Cp) (k : Int) : Cp :=
  if k = 13 then ({ c with g := c.g.putByte (cy c.code) c.ix (aInc (c.g.byte (cy c.code) c.ix) c.g.f).1 }).setF (aInc (c.g.byte (cy c.code) c.ix) c.g.f).2
  else if k = 14 then ({ c with g := c.g.putByte (cy c.code) c.ix (aDec (c.g.byte (cy c.code) c.ix) c.g.f).1 }).setF (aDec (c.g.byte (cy c.code) c.ix) c.g.f).2
  else if k = 15 then ({ c with lo := (aInc c.lo c.g.f).1 }).setF (aInc c.lo c.g.f).2
  else if k = 16 then ({ c with lo := (aDec c.lo c.g.f).1 }).setF (aDec c.lo c.g.f).2
  else if k = 17 then { c with g := c.g.putByte (cy c.code) c.plain c.lo }
  else if k = 19 then ({ c with g := { c.g with a := c.acc.1 } }).setF c.acc.2
  else if k = 20 then { c with g := { c.g with halt := true } }
  else if k = 21 then { c with g := c.g.putByte (cy c.code) c.ix (c.g.byte (cz c.code) c.ix) }
  else if k = 22 then ({ c with g := { c.g with a := (aDo (cy c.code) c.g.a c.lo c.g.f).1 } }).setF (aDo (cy c.code) c.g.a c.lo c.g.f).2
  else ({ c with g := { c.g with a := (aDo (cy c.code) c.g.a (c.g.byte (cz c.code) c.ix) c.g.f).1 } }).setF (aDo (cy c.code) c.g.a (c.g.byte (cz c.code) c.ix) c.g.f).2
def Cp.other (c : Cp) (k : Int) : Cp :=
  if k = 32 then { c with g := c.g.exDe }
  else if k = 33 then { c with g := { c.g with iff1 := false, iff2 := false } }
  else if k = 34 then { c with g := { c.g with iff1 := true, iff2 := true, hold := true } }
  else if k = 35 then { c with g := { c.g with pc := bits .and .u8 c.code 56, wz := bits .and .u8 c.code 56 } }
  else if k = 36 then { c.bitsC c.lo (whi c.g.wz) with lo := c.bitsV c.lo }
  else if k = 37 then { c.bitsC (c.g.byte (cz c.code) 0) (c.g.byte (cz c.code) 0) with g := (c.bitsC (c.g.byte (cz c.code) 0) (c.g.byte (cz c.code) 0)).g.putByte (cz c.code) 0 (c.bitsV (c.g.byte (cz c.code) 0)) }
  else { c with g := c.g.putByte (cz c.code) 0 c.lo }
def Cp.more (c : Cp) (k : Int) : Cp :=
  if k = 39 then ({ c with g := c.g.putByte (cy c.code) 0 c.lo }).setF (bits .or .u8 (fOfP c.lo) (bits .and .u8 c.g.f 1))
  else if k = 41 then ({ c with g := { (c.g.putPair 2 0 (wSbc (c.g.pair 2 0) (c.g.pair (cp c.code) 0) c.g.f).1) with wz := (c.g.pair 2 0 + 1) % 65536 } }).setF (wSbc (c.g.pair 2 0) (c.g.pair (cp c.code) 0) c.g.f).2
  else if k = 42 then ({ c with g := { (c.g.putPair 2 0 (wAdc (c.g.pair 2 0) (c.g.pair (cp c.code) 0) c.g.f).1) with wz := (c.g.pair 2 0 + 1) % 65536 } }).setF (wAdc (c.g.pair 2 0) (c.g.pair (cp c.code) 0) c.g.f).2
  else if k = 43 then ({ c with g := { c.g with a := aSubR 0 c.g.a false } }).setF (aSubF 0 c.g.a false)
  else if k = 48 then ({ c with g := { c.g with a := c.g.i } }).setF ({ c with g := { c.g with a := c.g.i } } : Cp).loaded
  else if k = 49 then ({ c with g := { c.g with a := c.g.r } }).setF ({ c with g := { c.g with a := c.g.r } } : Cp).loaded
  else if k = 50 then ({ c with lo := (tRrd c.g.a c.lo c.g.f).2.1, g := { c.g with a := (tRrd c.g.a c.lo c.g.f).1, wz := (c.g.pair 2 0 + 1) % 65536 } }).setF (tRrd c.g.a c.lo c.g.f).2.2
  else ({ c with lo := (tRld c.g.a c.lo c.g.f).2.1, g := { c.g with a := (tRld c.g.a c.lo c.g.f).1, wz := (c.g.pair 2 0 + 1) % 65536 } }).setF (tRld c.g.a c.lo c.g.f).2.2
def mode (k : Int) : Int := if k = 2 then 1 else if k = 3 then 2 else 0
def Cp.copied (c : Cp) : Rg := ((c.g.putPair 0 0 ((c.g.pair 0 0 - 1) % 65536)).putPair 1 0 ((c.g.pair 1 0 + c.along) % 65536)).putPair 2 0 ((c.g.pair 2 0 + c.along) % 65536)
def Cp.blocks (c : Cp) (k : Int) : Cp :=
  if k = 40 then { c with g := { c.g with wz := (c.g.pair 0 0 + 1) % 65536 } }
  else if k = 44 then { c with g := { c.g with iff1 := c.g.iff2 } }
  else if k = 45 then { c with g := { c.g with im := mode (cy c.code % 4) } }
  else if k = 46 then { c with g := { c.g with i := c.g.a } }
  else if k = 47 then { c with g := { c.g with r := c.g.a } }
  else if k = 52 then ({ c with g := c.copied }).setF (bCopy c.g.a c.lo ((c.g.pair 0 0 - 1) % 65536) c.g.f)
  else if k = 55 then { c with g := { c.g with b := (c.g.b - 1) % 256 } }
  else c.again.setF (bAgain c.g.f c.again.g.pc)
end Sq
/- The steps of each code, as plain lists. -/
namespace Sq
open Go

def sRead (p w : Int) : Stp := ⟨1, p, w, 3⟩
def sWrite (p w : Int) : Stp := ⟨2, p, w, 3⟩
def sWait (n p : Int) : Stp := ⟨0, p, 0, n⟩
def sWork (w : Int) : Stp := ⟨5, 0, w, 0⟩
def sUnless (w : Int) : Stp := ⟨6, 0, w, 0⟩
def mPlace (ix : Int) : List Stp := if ix = 0 then [] else [sRead 0 0, sWait 5 9, sWork 18]
def mWord : List Stp := [sRead 0 0, sRead 0 1]
def mCall : List Stp := [sWait 1 9, sWrite 5 7, sWrite 5 8, sWork 29]
def mJumps (c : Int) : List Stp :=
  if cy c = 0 then [] else if cy c = 1 then [sWork 0] else if cy c = 2 then [sWait 1 8, sWork 1, sRead 0 0, sUnless 2, sWait 5 9, sWork 2] else if cy c = 3 then [sRead 0 0, sWait 5 9, sWork 2] else [sRead 0 0, sUnless 1, sWait 5 9, sWork 2]
def mMoves (c : Int) : List Stp :=
  if cp c = 0 then (if cq c = 0 then [sWrite 2 2, sWork 7, sWork 5] else [sRead 2 0, sWork 7, sWork 9])
  else if cp c = 1 then (if cq c = 0 then [sWrite 3 2, sWork 7, sWork 5] else [sRead 3 0, sWork 7, sWork 9])
  else if cp c = 2 then (if cq c = 0 then [sRead 0 0, sRead 0 1, sWork 8, sWrite 7 4, sWork 6, sWrite 7 3] else [sRead 0 0, sRead 0 1, sWork 8, sRead 7 0, sWork 6, sRead 7 1, sWork 10])
  else (if cq c = 0 then [sRead 0 0, sRead 0 1, sWork 8, sWrite 7 2, sWork 6, sWork 5] else [sRead 0 0, sRead 0 1, sWork 8, sRead 7 0, sWork 6, sWork 9])
def mReturns (c : Int) : List Stp :=
  if cp c = 0 then [sRead 4 0, sRead 4 1, sWork 24] else if cp c = 1 then [sWork 26] else if cp c = 2 then [sWork 27] else [sWait 2 8, sWork 28]
def mPorts (c : Int) : List Stp :=
  if cy c = 0 then [sRead 0 0, sRead 0 1, sWork 8, sWork 29] else if cy c = 2 then [sRead 0 0, sWork 30, ⟨4, 7, 2, 4⟩, sWork 6, sWork 5] else if cy c = 3 then [sRead 0 0, sWork 30, ⟨3, 7, 0, 4⟩, sWork 6, sWork 9]
  else if cy c = 4 then [sRead 4 0, sRead 6 1, sWait 1 9, sWrite 6 3, sWrite 5 4, sWait 2 9, sWork 31] else if cy c = 5 then [sWork 32] else if cy c = 6 then [sWork 33] else if cy c = 7 then [sWork 34] else []
def mSpecials (c : Int) : List Stp :=
  if cy c < 4 then [sWait 1 8, sWork (46 + cy c)] else if cy c = 4 then [sRead 1 0, sWait 4 9, sWork 50, sWrite 1 0] else if cy c = 5 then [sRead 1 0, sWait 4 9, sWork 51, sWrite 1 0] else []
def mBlocks (c : Int) : List Stp :=
  if cz c = 0 then (if cy c < 6 then [sRead 1 0, sWrite 3 0, sWait 2 9, sWork 52] else [sRead 1 0, sWrite 3 0, sWait 2 9, sWork 52, sUnless 3, sWait 5 9, sWork 57]) else if cz c = 1 then (if cy c < 6 then [sRead 1 0, sWait 5 9, sWork 53] else [sRead 1 0, sWait 5 9, sWork 53, sUnless 3, sWait 5 9, sWork 57])
  else if cz c = 2 then (if cy c < 6 then [sWait 1 8, ⟨3, 2, 0, 4⟩, sWrite 1 0, sWork 54] else [sWait 1 8, ⟨3, 2, 0, 4⟩, sWrite 1 0, sWork 54, sUnless 3, sWait 5 9, sWork 58]) else (if cy c < 6 then [sWait 1 8, sRead 1 0, sWork 55, ⟨4, 2, 0, 4⟩, sWork 56] else [sWait 1 8, sRead 1 0, sWork 55, ⟨4, 2, 0, 4⟩, sWork 56, sUnless 3, sWait 5 9, sWork 58])
def mFirst (ix c : Int) : List Stp :=
  if cz c = 0 then mJumps c
  else if cz c = 1 then (if cq c = 0 then [sRead 0 0, sRead 0 1, sWork 3] else [sWait 7 8, sWork 4])
  else if cz c = 2 then mMoves c
  else if cz c = 3 then [sWait 2 8, sWork (11 + cq c)]
  else if cz c = 4 ∨ cz c = 5 then (if cy c = 6 then mPlace ix ++ [sRead 1 0, sWait 1 9, sWork (15 + (cz c - 4)), sWrite 1 0] else [sWork (13 + (cz c - 4))])
  else if cz c = 6 then (if cy c = 6 then (if ix = 0 then [sRead 0 0, sWrite 1 0] else [sRead 0 0, sRead 0 1, sWait 2 9, sWork 18, sWrite 1 1]) else [sRead 0 0, sWork 17])
  else [sWork 19]
def mLoads (ix c : Int) : List Stp :=
  if c = 118 then [sWork 20] else if cz c = 6 then mPlace ix ++ [sRead 1 0, sWork 17] else if cy c = 6 then mPlace ix ++ [sWrite 1 6] else [sWork 21]
def mSums (ix c : Int) : List Stp :=
  if cz c = 6 then mPlace ix ++ [sRead 1 0, sWork 22] else [sWork 23]
def mLast (c : Int) : List Stp :=
  if cz c = 0 then [sWait 1 8, sUnless 0, sRead 4 0, sRead 4 1, sWork 24]
  else if cz c = 1 then (if cq c = 0 then [sRead 4 0, sRead 4 1, sWork 25] else mReturns c)
  else if cz c = 2 then [sRead 0 0, sRead 0 1, sWork 8, sUnless 0, sWork 29]
  else if cz c = 3 then mPorts c
  else if cz c = 4 then [sRead 0 0, sRead 0 1, sWork 8, sUnless 0] ++ mCall
  else if cz c = 5 then (if cq c = 0 then [sWait 1 8, sWrite 5 11, sWrite 5 12] else if cp c = 0 then [sRead 0 0, sRead 0 1, sWork 8] ++ mCall else [])
  else if cz c = 6 then [sRead 0 0, sWork 22]
  else [sWait 1 8, sWrite 5 7, sWrite 5 8, sWork 35]
def mBits (c : Int) : List Stp :=
  if cz c = 6 then (if cx c = 1 then [sRead 1 0, sWait 1 9, sWork 36] else [sRead 1 0, sWait 1 9, sWork 36, sWrite 1 0]) else [sWork 37]
def mIndexed (c : Int) : List Stp :=
  if cx c = 1 then [sRead 1 0, sWait 1 9, sWork 36] else [sRead 1 0, sWait 1 9, sWork 36, sWork 38, sWrite 1 0]
def mSecond (c : Int) : List Stp :=
  if cx c = 2 ∧ 4 ≤ cy c ∧ cz c ≤ 3 then mBlocks c
  else if ¬ cx c = 1 then []
  else if cz c = 0 then [⟨3, 2, 0, 4⟩, sWork 40, sWork 39] else if cz c = 1 then [⟨4, 2, 13, 4⟩, sWork 40]
  else if cz c = 2 then (if cq c = 0 then [sWait 7 8, sWork 41] else [sWait 7 8, sWork 42])
  else if cz c = 3 then (if cq c = 0 then [sRead 0 0, sRead 0 1, sWork 8, sWrite 7 10, sWork 6, sWrite 7 9] else [sRead 0 0, sRead 0 1, sWork 8, sRead 7 0, sWork 6, sRead 7 1, sWork 3])
  else if cz c = 4 then [sWork 43] else if cz c = 5 then [sRead 4 0, sRead 4 1, sWork 24, sWork 44] else if cz c = 6 then [sWork 45] else mSpecials c
end Sq
/- One T-state of the machine, as a plain function on the records. -/
namespace Sq
open Go

/-- The machine: the processor, its steps' cells, the board. -/
structure St where
  c : Cp
  sl : Nat → Int
  b : Bd

def stp (sl : Nat → Int) (i : Nat) : Stp := ⟨sl (4 * i), sl (4 * i + 1), sl (4 * i + 2), sl (4 * i + 3)⟩
def mProg (set ix code : Int) : List Stp :=
  if set = 0 then (if cx code = 0 then mFirst ix code else if cx code = 1 then mLoads ix code else if cx code = 2 then mSums ix code else mLast code)
  else if set = 1 then mBits code else if set = 2 then mSecond code else if set = 3 then mIndexed code else []
def Cp.prog (c : Cp) (set ix code : Int) : Cp :=
  { c with code := code, ix := ix, at_ := 0, len := (mProg set ix code).length, ea := if ix = 0 then c.g.pair 2 0 else c.ea }
def Cp.latch (c : Cp) (v : Int) : Cp := if c.what = 1 then { c with hi := v } else { c with lo := v }
def isCount (k : Int) : Bool := (decide (13 ≤ k) && decide (k ≤ 17)) || (decide (19 ≤ k) && decide (k ≤ 23))
def isMore (k : Int) : Bool := k == 39 || k == 41 || k == 42 || k == 43 || (decide (48 ≤ k) && decide (k ≤ 51))
def Cp.work (c : Cp) (k : Int) : Cp :=
  if k ≤ 31 then (if isCount k = true then c.counts k else c.first k)
  else if k ≤ 38 then c.other k
  else if isMore k = true then c.more k else c.blocks k
def Cp.placeA (c : Cp) (p : Int) : Int :=
  if p = 0 then c.g.pc else if p = 1 then c.ea else if p = 2 then c.g.pair 0 0 else if p = 3 then c.g.pair 1 0
  else if p = 4 then c.g.sp else if p = 5 then (c.g.sp - 1) % 65536 else if p = 6 then c.g.sp else if p = 7 then c.g.wz
  else if p = 8 then wd c.g.i c.g.r else c.addr
def Cp.placeC (c : Cp) (p : Int) : Cp :=
  if p = 0 then { c with g := { c.g with pc := (c.g.pc + 1) % 65536 } } else if p = 4 then { c with g := { c.g with sp := (c.g.sp + 1) % 65536 } }
  else if p = 5 then { c with g := { c.g with sp := (c.g.sp - 1) % 65536 } } else c
/-- A step's cycle begins; steps that go to a port are not of these. -/
def Cp.cycle (c : Cp) (s : Stp) : Cp :=
  if s.k = 0 then ({ c.placeC s.at_ with what := s.wh, port := false } : Cp).start 4 (c.placeA s.at_) s.n
  else if s.k = 1 then ({ c.placeC s.at_ with what := s.wh, port := false } : Cp).start 1 (c.placeA s.at_) s.n
  else ({ c.placeC s.at_ with what := s.wh, port := false, out := ({ c.placeC s.at_ with what := s.wh, port := false } : Cp).byteOf s.wh } : Cp).start 2 (c.placeA s.at_) s.n
def Cp.ends (c : Cp) : Cp := { c with kind := -1, g := { c.g with q := if c.wrote then c.g.f else 0 } }
/-- On to the next cycle, or the end; by so many rounds. -/
def nextF : Nat → Cp → (Nat → Int) → Cp
  | 0, c, _ => c
  | n + 1, c, sl =>
    if (c.len : Int) ≤ c.at_ then c.ends
    else if (stp sl c.at_.toNat).k = 5 then nextF n (({ c with at_ := c.at_ + 1 } : Cp).work (stp sl c.at_.toNat).wh) sl
    else if (stp sl c.at_.toNat).k = 6 then
      (if ({ c with at_ := c.at_ + 1 } : Cp).met (stp sl c.at_.toNat).wh = true then nextF n { c with at_ := c.at_ + 1 } sl else nextF n { c with at_ := (c.len : Int) } sl)
    else ({ c with at_ := c.at_ + 1 } : Cp).cycle (stp sl c.at_.toNat)
def Cp.next (c : Cp) (sl : Nat → Int) : Cp := if 0 < c.second then c.start 0 c.g.pc 4 else nextF 40 c sl
def Cp.counted (c : Cp) : Cp := { c with g := { c.g.tick with pc := (c.g.pc + 1) % 65536 } }
/-- A code has come (no index's prefix). -/
def Cp.fetched (c : Cp) (v : Int) : Cp :=
  if c.g.halt = true then { c with g := c.g.tick }
  else if 0 < c.second then ({ c.counted with second := 0 } : Cp).prog c.second 0 v
  else if v = 237 then { c.counted with second := 2 }
  else if v = 203 then { c.counted with second := 1 }
  else c.counted.prog 0 0 v
def Cp.fetchedS (c : Cp) (sl : Nat → Int) (v : Int) : Nat → Int :=
  if c.g.halt = true then sl
  else if 0 < c.second then app sl 0 (mProg c.second 0 v)
  else if v = 237 then sl else if v = 203 then sl
  else app sl 0 (mProg 0 0 v)
def Bd.write (b : Bd) (a v : Int) : Bd := if 16384 ≤ a then { b with mem := upd b.mem a.toNat v } else b
def St.finish (s : St) : St :=
  if s.c.kind = 0 then ⟨(s.c.fetched (s.b.mem s.c.addr.toNat)).next (s.c.fetchedS s.sl (s.b.mem s.c.addr.toNat)), s.c.fetchedS s.sl (s.b.mem s.c.addr.toNat), s.b⟩
  else if s.c.kind = 1 then ⟨(s.c.latch (s.b.mem s.c.addr.toNat)).next s.sl, s.sl, s.b⟩
  else if s.c.kind = 2 then ⟨s.c.next s.sl, s.sl, s.b.write s.c.addr s.c.out⟩
  else ⟨s.c.next s.sl, s.sl, s.b⟩
def Cp.begin (c : Cp) : Cp := { ({ c with len := 0, at_ := 0, second := 0, wrote := false } : Cp).start 0 c.g.pc 4 with g := { c.g with hold := false } }

/-- The picture's times: the line, the cell and the half that is fetched. -/
def cellOk (t : Int) : Bool := decide (14338 ≤ t) && decide ((t - 14338) / 224 < 192) && decide ((t - 14338) % 224 < 128) && decide ((t - 14338) % 224 % 8 ≤ 3)
def cellL (t : Int) : Int := (t - 14338) / 224
def cellC (t : Int) : Int := 2 * ((t - 14338) % 224 / 8) + (t - 14338) % 224 % 8 / 2
def cellH (t : Int) : Int := (t - 14338) % 224 % 8 % 2
def pixA (l c : Int) : Int := 16384 + l / 64 * 2048 + l % 8 * 256 + l / 8 % 8 * 32 + c
def colA (l c : Int) : Int := 22528 + l / 8 * 32 + c
def fetchA (t : Int) : Int := if cellH t = 0 then pixA (cellL t) (cellC t) else colA (cellL t) (cellC t)
def seenAt (t : Int) : Int := 2 * (32 * cellL t + cellC t) + cellH t
def waitT (t : Int) : Int :=
  if 14335 ≤ t ∧ (t - 14335) / 224 < 192 ∧ (t - 14335) % 224 < 128 then (if (t - 14335) % 224 % 8 < 6 then 6 - (t - 14335) % 224 % 8 else 0) else 0
def slowA (a : Int) : Bool := decide (16384 ≤ a) && decide (a < 32768)
def Bd.hold (b : Bd) (kind addr k : Int) : Int :=
  if b.slow = true ∧ slowA addr = true ∧ (kind = 4 ∨ k = 0) then waitT b.frame else 0
def Bd.next (b : Bd) : Bd :=
  { b with seen := if cellOk b.frame = true then upd b.seen (seenAt b.frame).toNat (b.mem (fetchA b.frame).toNat) else b.seen,
           t := (b.t + 1) % 18446744073709551616, frame := if b.frame + 1 = 69888 then 0 else b.frame + 1 }

/-- One T-state of the processor. -/
def St.begun (s : St) : St := if s.c.kind = -1 then { s with c := s.c.begin } else s
def St.asked (s : St) : St := if s.c.held = true then s else { s with c := { s.c with wait := s.b.hold s.c.kind s.c.addr s.c.t, held := true } }
def St.went (s : St) : St :=
  { s with c := if s.c.kind = 4 then { s.c with held := false, n := s.c.n - 1, t := 0 } else { s.c with held := false, t := s.c.t + 1 } }
def St.done (s : St) : St := if s.c.t = s.c.n then s.finish else s
def St.tickA (s : St) : St := if 0 < s.c.wait then { s with c := { s.c with wait := s.c.wait - 1 } } else s.went.done
def St.tick (s : St) : St := s.begun.asked.tickA
/-- One T-state of the machine, with no tape. -/
def St.step (s : St) : St := { ({ s with b := { s.b with ear := false } } : St).tick with b := ({ s with b := { s.b with ear := false } } : St).tick.b.next }
def St.run : Nat → St → St
  | 0, s => s
  | n + 1, s => St.run n s.step

/-- The steps of which the walk speaks. -/
def okWork (k : Int) : Bool := (decide (0 ≤ k) && decide (k ≤ 38)) || k == 41 || k == 42 || k == 43 || k == 48 || k == 49 || k == 52 || k == 57
def okStp (s : Stp) : Bool :=
  decide (0 ≤ s.at_) && decide (s.at_ ≤ 9) && decide (0 ≤ s.wh) &&
  (((s.k == 0 || s.k == 1 || s.k == 2) && decide (1 ≤ s.n) && decide (s.n ≤ 7) && decide (s.wh ≤ 13)) || (s.k == 5 && okWork s.wh) || (s.k == 6 && decide (s.wh ≤ 3)))
def okCode (set v : Int) : Bool := v != 221 && v != 253 && decide ((mProg set 0 v).length ≤ 8) && (mProg set 0 v).all okStp

structure Bd.Ok (b : Bd) : Prop where
  mem : ∀ i, 0 ≤ b.mem i ∧ b.mem i < 256
  frame : 0 ≤ b.frame ∧ b.frame < 69888
  t : 0 ≤ b.t ∧ b.t < 18446744073709551616

/-- The processor's numbers, but for where it is in its cycle. -/
structure Mid (c : Cp) (sl : Nat → Int) : Prop where
  ok : c.Ok
  ahead : c.ahead = false
  nmi : c.nmi = false
  pre : c.g.pre = 0
  ix : c.ix = 0
  len : c.len ≤ 8
  at0 : 0 ≤ c.at_
  at1 : c.at_ ≤ c.len
  steps : ∀ i, i < c.len → okStp (stp sl i) = true
  second : 0 ≤ c.second ∧ c.second ≤ 2
  wait : 0 ≤ c.wait ∧ c.wait ≤ 6
  what : 0 ≤ c.what ∧ c.what ≤ 13
  t : 0 ≤ c.t ∧ c.t ≤ 8
  n : 0 ≤ c.n ∧ c.n ≤ 8
structure Cyc (c : Cp) : Prop where
  kind : c.kind = -1 ∨ c.kind = 0 ∨ c.kind = 1 ∨ c.kind = 2 ∨ c.kind = 4
  tn : c.kind ≠ -1 → c.t < c.n
structure St.Ok (s : St) : Prop where
  m : Mid s.c s.sl
  y : Cyc s.c
  b : s.b.Ok

/-- What the walk asks of the T-state to come: no interrupt can be taken, and the code that may come is one of those. -/
structure St.Fit (s : St) : Prop where
  iff1 : s.c.kind = -1 → s.c.g.iff1 = false
  code : s.c.kind = 0 → s.c.g.halt = false → (0 < s.c.second ∨ (s.b.mem s.c.addr.toNat ≠ 237 ∧ s.b.mem s.c.addr.toNat ≠ 203)) → okCode s.c.second (s.b.mem s.c.addr.toNat) = true
end Sq
