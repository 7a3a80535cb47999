/- The lowest bit of what bytes come to. -/
import Derived.Test.YtneganpbamemmaaGreatPlainB
import Derived.Lib.EndianBits
set_option linter.unusedVariables false
set_option linter.unusedSimpArgs false
set_option linter.unusedSectionVars false
namespace Sq
open Go
/-- Is the lowest bit up? -/
def lowB (x : Int) : Bool := decide (x % 2 = 1)
theorem lowB_ofInt (x : Int) : (BitVec.ofInt 8 x).getLsbD 0 = lowB x := by
  show Nat.testBit (BitVec.ofInt 8 x).toNat 0 = _
  rw [Nat.testBit_zero, BitVec.toNat_ofInt]
  unfold lowB
  rw [decide_eq_decide]
  have : (2 : Int) ^ 8 = 256 := rfl
  omega
theorem lowB_wrap (v : BitVec 8) : lowB (IntKind.u8.wrap (v.toNat : Int)) = v.getLsbD 0 := by
  show _ = Nat.testBit v.toNat 0
  rw [Nat.testBit_zero, IntKind.wrap_u8]
  unfold lowB
  rw [decide_eq_decide]
  omega
theorem lowB_or (x y : Int) : lowB (bits .or .u8 x y) = (lowB x || lowB y) := by
  show lowB (IntKind.u8.wrap ((BitVec.ofInt 8 x ||| BitVec.ofInt 8 y : BitVec 8).toNat : Int)) = _
  rw [lowB_wrap, BitVec.getLsbD_or, lowB_ofInt, lowB_ofInt]
theorem lowB_and (x y : Int) : lowB (bits .and .u8 x y) = (lowB x && lowB y) := by
  show lowB (IntKind.u8.wrap ((BitVec.ofInt 8 x &&& BitVec.ofInt 8 y : BitVec 8).toNat : Int)) = _
  rw [lowB_wrap, BitVec.getLsbD_and, lowB_ofInt, lowB_ofInt]
theorem lowB_andNot (x y : Int) : lowB (bits .andNot .u8 x y) = (lowB x && !lowB y) := by
  show lowB (IntKind.u8.wrap ((BitVec.ofInt 8 x &&& ~~~BitVec.ofInt 8 y : BitVec 8).toNat : Int)) = _
  rw [lowB_wrap, BitVec.getLsbD_and, BitVec.getLsbD_not, lowB_ofInt, lowB_ofInt]
  simp
theorem lowB_xor (x y : Int) : lowB (bits .xor .u8 x y) = (lowB x ^^ lowB y) := by
  show lowB (IntKind.u8.wrap ((BitVec.ofInt 8 x ^^^ BitVec.ofInt 8 y : BitVec 8).toNat : Int)) = _
  rw [lowB_wrap, BitVec.getLsbD_xor, lowB_ofInt, lowB_ofInt]
/-- The flag carry is the lowest bit. -/
theorem fHas_1 (f : Int) : fHas f 1 = lowB f := by
  unfold fHas
  have h0 : 0 ≤ bits .and .u8 f 1 ∧ bits .and .u8 f 1 < 2 := by
    have e : bits .and .u8 f 1 = ((BitVec.ofInt 8 f &&& 1#8 : BitVec 8).toNat : Int) % 256 := by
      show IntKind.u8.wrap _ = _
      rw [IntKind.wrap_u8]; rfl
    have h : (BitVec.ofInt 8 f &&& 1#8 : BitVec 8).toNat ≤ 1 := by
      rw [BitVec.toNat_and]; exact Nat.and_le_right
    omega
  have h1 := lowB_and f 1
  rw [show lowB 1 = true from rfl, Bool.and_true] at h1
  rw [← h1]
  unfold lowB
  rcases (by omega : bits .and .u8 f 1 = 0 ∨ bits .and .u8 f 1 = 1) with h | h <;> rw [h] <;> rfl
theorem lowB_fWith1 (f : Int) (on : Bool) : lowB (fWith f 1 on) = on := by
  unfold fWith
  cases on
  · rw [if_neg (by decide), lowB_andNot]; simp [lowB]
  · rw [if_pos rfl, lowB_or]; simp [lowB]
theorem lowB_tAcc2 (a f : Int) (ha : 0 ≤ a ∧ a < 256) : lowB (tAcc 2 a f).2 = decide (128 ≤ a) := by
  show lowB (bits .or .u8 (bits .or .u8 (bits .and .u8 f 196) (bits .and .u8 _ 40)) (a / 128)) = _
  rw [lowB_or, lowB_or, lowB_and, lowB_and, show lowB 196 = false from rfl, show lowB 40 = false from rfl]
  simp only [Bool.and_false, Bool.or_false, Bool.false_or, lowB]
  rw [decide_eq_decide]; omega
theorem lowB_aSubF (a b : Int) : lowB (aSubF a b false) = decide (a - b < 0) := by
  unfold aSubF fSet
  simp only [List.foldl]
  rw [lowB_fWith1]
  simp [one]
theorem lowB_aCp (a b : Int) : lowB (aCp a b) = decide (a - b < 0) := by
  unfold aCp
  rw [lowB_or, lowB_andNot, lowB_and, lowB_aSubF, show lowB 40 = false from rfl]
  simp
theorem lowB_wFlags (h o c : Bool) : lowB (wFlags h o c) = c := by
  unfold wFlags
  by_cases h0 : h = false ∧ o = false ∧ c = false
  · rw [if_pos h0, h0.2.2]; rfl
  · rw [if_neg h0, lowB_fWith1]
theorem lowB_wAdd (a b f : Int) : lowB (wAdd a b f).2 = decide (65535 < a + b) := by
  unfold wAdd
  dsimp only
  rw [lowB_or, lowB_or, lowB_and, lowB_and, lowB_andNot, lowB_wFlags, show lowB 196 = false from rfl, show lowB 40 = false from rfl, show lowB 4 = false from rfl]
  simp
theorem xor_self_u8 (a : Int) : bits .xor .u8 a a = 0 := by
  show IntKind.u8.wrap ((BitVec.ofInt 8 a ^^^ BitVec.ofInt 8 a : BitVec 8).toNat : Int) = 0
  rw [BitVec.xor_self]; rfl
end Sq
/- The quotients' program, in plain Lean: a round of its loop. -/
namespace Sq
open Go
def quotCode : List Int := [175, 6, 16, 41, 23, 56, 3, 186, 56, 2, 146, 44, 16, 245, 118]
theorem lowB_mod (f : Int) : f % 2 = if lowB f = true then 1 else 0 := by
  unfold lowB
  by_cases h : f % 2 = 1
  · rw [if_pos (by simpa using h)]; exact h
  · rw [if_neg (by simpa using h)]; omega
theorem quot_bits (i : Nat) (hi : i < 16) (S q E : Int) (hE : E = 2 ^ i) (h0 : 0 ≤ S) (h1 : S < 65536) (hS : S % E = 0) (q0 : 0 ≤ q) (q1 : q < E) :
    (65535 < (S + q) + (S + q) ↔ 32768 ≤ S) ∧ (32768 ≤ S → (2 * S - 65536) % (2 * E) = 0 ∧ 0 ≤ 2 * S - 65536 ∧ 2 * S - 65536 + 2 * E ≤ 65536) ∧ (S < 32768 → (2 * S) % (2 * E) = 0 ∧ 2 * S + 2 * E ≤ 65536) := by
  rcases (by omega : i = 0 ∨ i = 1 ∨ i = 2 ∨ i = 3 ∨ i = 4 ∨ i = 5 ∨ i = 6 ∨ i = 7 ∨ i = 8 ∨ i = 9 ∨ i = 10 ∨ i = 11 ∨ i = 12 ∨ i = 13 ∨ i = 14 ∨ i = 15) with rfl | rfl | rfl | rfl | rfl | rfl | rfl | rfl | rfl | rfl | rfl | rfl | rfl | rfl | rfl | rfl
  all_goals
    simp only [Int.reducePow] at hE
    subst hE
    omega
/-- Where the loop stands. -/
structure Quot (M : Nat → Int) (N D : Int) (i : Nat) (E pc : Int) (A : Ar) (q r S : Int) : Prop where
  mem : A.mem = M
  pc : A.pc = pc
  b : A.b = 16 - i
  d : A.d = D
  a : A.a = r
  h : 0 ≤ A.h ∧ A.h < 256
  l : 0 ≤ A.l ∧ A.l < 256
  hl : A.h * 256 + A.l = S + q
  sum : N * E = (q * D + r) * 65536 + S
  r0 : 0 ≤ r
  r1 : r < D
  q0 : 0 ≤ q
  q1 : q < E
  s0 : 0 ≤ S
  s1 : S < 65536
  s2 : S % E = 0
section
variable {o : Nat} (ho : o = 24576 ∨ o = 32768) {M : Nat → Int} (hM : ∀ (k : Nat) (v : Int), quotCode[k]? = some v → M (o + k) = v) {N D : Int} (hd0 : 1 ≤ D) (hd1 : D < 256)
include ho hM hd0 hd1
omit ho hd0 hd1 in
theorem quot_at {A : Ar} (hm : A.mem = M) (k : Nat) (hk : k < 20) (hp : A.pc = (o : Int) + k) (v : Int) (hv : quotCode[k]? = some v) : A.mem A.pc.toNat = v := by
  rw [hm, hp, show ((o : Int) + k).toNat = o + k from by omega]; exact hM k v hv
omit hd0 hd1 in
theorem quot_at1 {A : Ar} (hm : A.mem = M) (k : Nat) (hk : k < 20) (hp : A.pc = (o : Int) + k) (v : Int) (hv : quotCode[k + 1]? = some v) : A.mem ((A.pc + 1) % 65536).toNat = v := by
  rw [hm, hp, show (((o : Int) + k + 1) % 65536).toNat = o + (k + 1) from by omega]; exact hM (k + 1) v hv
omit hd0 hd1 in
/-- The end of a round. -/
theorem quot_tail (i : Nat) (hi : i < 16) {A : Ar} (hm : A.mem = M) (hp : A.pc = (o : Int) + 12) (hb : A.b = 16 - i) :
    ∃ A' : Ar, (∀ s, At s A → Reach 61 s A') ∧ A'.mem = M ∧ A'.pc = (if i + 1 < 16 then (o : Int) + 3 else (o : Int) + 14) ∧ A'.b = 16 - (i + 1 : Nat) ∧ A'.a = A.a ∧ A'.d = A.d ∧ A'.h = A.h ∧ A'.l = A.l := by
  have m0 := quot_at hM hm 12 (by decide) hp 16 rfl
  have m1 := quot_at1 ho hM hm 12 (by decide) hp 245 rfl
  by_cases h : i + 1 < 16
  · refine ⟨_, fun s hs => hs.djnzY m0 (by simp; omega), hm, ?_, ?_, rfl, rfl, rfl, rfl⟩
    · rw [if_pos h, m1, hp]; show wplus _ 245 = _; unfold wplus; rw [if_neg (by decide)]; omega
    · show (A.b - 1) % 256 = _; omega
  · refine ⟨_, fun s hs => (hs.djnzN m0 (by simp; omega)).mono (by omega), hm, ?_, ?_, rfl, rfl, rfl, rfl⟩
    · rw [if_neg h]; show ((A.pc + 1) % 65536 + 1) % 65536 = _; omega
    · show (A.b - 1) % 256 = _; omega
/-- The subtraction, and the quotient's bit. -/
theorem quot_sub (i : Nat) (hi : i < 16) {A : Ar} {v w : Int} (hm : A.mem = M) (hp : A.pc = (o : Int) + 10) (hb : A.b = 16 - i) (hd : A.d = D) (ha : A.a = v % 256) (hv0 : D ≤ v) (hv1 : v < 2 * D)
    (hH : 0 ≤ A.h ∧ A.h < 256) (hL : 0 ≤ A.l ∧ A.l < 256) (hl : A.h * 256 + A.l = w) (hw : w % 2 = 0) :
    ∃ A' : Ar, (∀ s, At s A → Reach 81 s A') ∧ A'.mem = M ∧ A'.pc = (if i + 1 < 16 then (o : Int) + 3 else (o : Int) + 14) ∧ A'.b = 16 - (i + 1 : Nat) ∧ A'.a = v - D ∧ A'.d = D ∧ A'.h = A.h ∧ 0 ≤ A'.l ∧ A'.l < 256 ∧ A'.h * 256 + A'.l = w + 1 := by
  have m0 := quot_at hM hm 10 (by decide) hp 146 rfl
  obtain ⟨A1, R1, e1, e2, e3, e4, e5, e6, e7⟩ : ∃ A1 : Ar, (∀ s, At s A → Reach 10 s A1) ∧ A1.mem = M ∧ A1.pc = (o : Int) + 11 ∧ A1.b = A.b ∧ A1.d = D ∧ A1.a = v - D ∧ A1.h = A.h ∧ A1.l = A.l :=
    ⟨_, fun s hs => hs.subD m0, hm, by show (A.pc + 1) % 65536 = _; omega, rfl, hd, by show (A.a - A.d - one false) % 256 = _; rw [hd, ha]; simp only [one]; simp only [Bool.false_eq_true, if_false]; omega, rfl, rfl⟩
  have m1 := quot_at hM e1 11 (by decide) e2 44 rfl
  obtain ⟨A2, R2, g1, g2, g3, g4, g5, g6, g7⟩ : ∃ A2 : Ar, (∀ s, At s A1 → Reach 10 s A2) ∧ A2.mem = M ∧ A2.pc = (o : Int) + 12 ∧ A2.b = A.b ∧ A2.d = D ∧ A2.a = v - D ∧ A2.h = A.h ∧ A2.l = A.l + 1 :=
    ⟨_, fun s hs => hs.incL m1, e1, by show (A1.pc + 1) % 65536 = _; omega, e3, e4, e5, e6, by show (A1.l + 1 + one false) % 256 = _; rw [e7]; simp only [one]; simp only [Bool.false_eq_true, if_false]; omega⟩
  obtain ⟨A3, R3, k1, k2, k3, k4, k5, k6, k7⟩ := quot_tail ho hM i hi g1 g2 (g3.trans hb)
  refine ⟨A3, fun s hs => ((R1 s hs).trans R2).trans R3, k1, k2, k3, k4.trans g5, k5.trans g4, k6.trans g6, ?_, ?_, ?_⟩
  all_goals rw [k7, g7]
  · omega
  · omega
  · rw [k6, g6]; omega
set_option maxHeartbeats 1000000 in
theorem quot_round (i : Nat) (hi : i < 16) {A : Ar} {q r S : Int} {E : Int} (hE : E = 2 ^ i) (hQ : Quot M N D i E ((o : Int) + 3) A q r S) :
    ∃ A' q' r' S', Quot M N D (i + 1) (2 * E) (if i + 1 < 16 then (o : Int) + 3 else (o : Int) + 14) A' q' r' S' ∧ ∀ s, At s A → Reach 268 s A' := by
  obtain ⟨hm, hp, hb, hd, ha, hh, hl, hhl, hsum, r0, r1, q0, q1, s0, s1, s2⟩ := hQ
  obtain ⟨B1, B2, B3⟩ := quot_bits i hi S q E hE s0 s1 s2 q0 q1
  have hN : N * (2 * E) = 2 * (N * E) := by rw [← Int.mul_assoc, Int.mul_comm N 2, Int.mul_assoc]
  have hqa : (2 * q) * D = 2 * (q * D) := Int.mul_assoc _ _ _
  have hqb : (2 * q + 1) * D = 2 * (q * D) + D := by rw [Int.add_mul, Int.one_mul, hqa]
  clear hE
  obtain ⟨β, hβ, β0, β1⟩ : ∃ β : Int, β = (if 65535 < (S + q) + (S + q) then 1 else 0) ∧ (32768 ≤ S → β = 1) ∧ (S < 32768 → β = 0) := ⟨_, rfl, fun h => if_pos (B1.2 h), fun h => if_neg (fun h' => absurd (B1.1 h') (by omega))⟩
  -- add hl,hl
  have m3 := quot_at hM hm 3 (by decide) hp 41 rfl
  obtain ⟨A1, R1, c1, c2, c3, c4, c5, c6, c7, c8, c9⟩ : ∃ A1 : Ar, (∀ s, At s A → Reach 59 s A1) ∧ A1.mem = M ∧ A1.pc = (o : Int) + 4 ∧ A1.b = 16 - i ∧ A1.d = D ∧ A1.a = r ∧ (0 ≤ A1.h ∧ A1.h < 256) ∧ (0 ≤ A1.l ∧ A1.l < 256) ∧ A1.h * 256 + A1.l = (2 * (S + q)) % 65536 ∧ A1.f % 2 = β := by
    have hw : wd A.h A.l = S + q := hhl
    refine ⟨_, fun s hs => hs.addHL m3, hm, ?_, hb, hd, ha, ?_, ?_, ?_, ?_⟩
    · show (A.pc + 1) % 65536 = _; omega
    · show 0 ≤ (wd A.h A.l + wd A.h A.l) % 65536 / 256 ∧ (wd A.h A.l + wd A.h A.l) % 65536 / 256 < 256; omega
    · show 0 ≤ (wd A.h A.l + wd A.h A.l) % 65536 % 256 ∧ (wd A.h A.l + wd A.h A.l) % 65536 % 256 < 256; omega
    · show (wd A.h A.l + wd A.h A.l) % 65536 / 256 * 256 + (wd A.h A.l + wd A.h A.l) % 65536 % 256 = _; rw [hw]; omega
    · show (wAdd (wd A.h A.l) (wd A.h A.l) A.f).2 % 2 = β
      rw [lowB_mod, lowB_wAdd, hw, hβ]
      simp
  -- rla
  have m4 := quot_at hM c1 4 (by decide) c2 23 rfl
  obtain ⟨A2, R2, g1, g2, g3, g4, g5, g6, g7, g8, g9⟩ : ∃ A2 : Ar, (∀ s, At s A1 → Reach 10 s A2) ∧ A2.mem = M ∧ A2.pc = (o : Int) + 5 ∧ A2.b = 16 - i ∧ A2.d = D ∧ A2.a = (2 * r + β) % 256 ∧ (0 ≤ A2.h ∧ A2.h < 256) ∧ (0 ≤ A2.l ∧ A2.l < 256) ∧ A2.h * 256 + A2.l = (2 * (S + q)) % 65536 ∧ lowB A2.f = decide (128 ≤ r) := by
    refine ⟨_, fun s hs => hs.rla m4, c1, ?_, c3, c4, ?_, c6, c7, c8, ?_⟩
    · show (A1.pc + 1) % 65536 = _; omega
    · show A1.a * 2 % 256 + A1.f % 2 = _; rw [c5, c9]; omega
    · show lowB (tAcc 2 A1.a A1.f).2 = _; rw [lowB_tAcc2 _ _ (by omega), c5]
  obtain ⟨v, hv⟩ : ∃ v, v = 2 * r + β := ⟨_, rfl⟩
  obtain ⟨S', hS'⟩ : ∃ S', S' = 2 * S - 65536 * β := ⟨_, rfl⟩
  have hβ2 : β = 0 ∨ β = 1 := by omega
  have hS'2 : S' % (2 * E) = 0 ∧ 0 ≤ S' ∧ S' + 2 * E ≤ 65536 := by
    by_cases h : 32768 ≤ S
    · have h2 := β0 h; rw [hS', h2]; exact B2 h
    · have := B3 (by omega); have h2 := β1 (by omega); rw [hS', h2]; exact ⟨by simpa using this.1, by omega, by omega⟩
  have hw : (2 * (S + q)) % 65536 = S' + 2 * q := by omega
  have hev : (S' + 2 * q) % 2 = 0 := by omega
  rw [hw] at g8
  rw [← hv] at g5
  have m5 := quot_at hM g1 5 (by decide) g2 56 rfl
  have m5' := quot_at1 ho hM g1 5 (by decide) g2 3 rfl
  by_cases hr : 128 ≤ r
  · obtain ⟨A3, R3, k1, k2, k3, k4, k5, k6, k7⟩ : ∃ A3 : Ar, (∀ s, At s A2 → Reach 54 s A3) ∧ A3.mem = M ∧ A3.pc = (o : Int) + 10 ∧ A3.b = A2.b ∧ A3.d = A2.d ∧ A3.a = A2.a ∧ A3.h = A2.h ∧ A3.l = A2.l :=
      ⟨_, fun s hs => hs.jrCY m5 (by rw [fHas_1, g9]; simpa using hr), g1, by rw [m5', g2]; show wplus _ 3 = _; unfold wplus; rw [if_pos (by decide)]; omega, rfl, rfl, rfl, rfl, rfl⟩
    obtain ⟨A4, R4, n1, n2, n3, n4, n5, n6, n7, n8, n9⟩ := quot_sub (v := v) (w := S' + 2 * q) ho hM hd0 hd1 i hi k1 k2 (k3.trans g3) (k4.trans g4) (k5.trans g5) (by omega) (by omega) (by rw [k6]; exact g6) (by rw [k7]; exact g7) (by rw [k6, k7]; exact g8) hev
    refine ⟨A4, 2 * q + 1, v - D, S', ⟨n1, n2, by rw [n3], n5, n4, by rw [n6, k6]; exact g6, ⟨n7, n8⟩, by rw [n9]; omega, ?_, by omega, by omega, by omega, by omega, hS'2.2.1, by omega, hS'2.1⟩, fun s hs => Reach.mono ((((R1 s hs).trans R2).trans R3).trans R4) (by omega)⟩
    rw [hqb, hN]; omega
  · obtain ⟨A3, R3, k1, k2, k3, k4, k5, k6, k7⟩ : ∃ A3 : Ar, (∀ s, At s A2 → Reach 19 s A3) ∧ A3.mem = M ∧ A3.pc = (o : Int) + 7 ∧ A3.b = A2.b ∧ A3.d = A2.d ∧ A3.a = A2.a ∧ A3.h = A2.h ∧ A3.l = A2.l :=
      ⟨_, fun s hs => hs.jrCN m5 (by rw [fHas_1, g9]; simpa using hr), g1, by show ((A2.pc + 1) % 65536 + 1) % 65536 = _; omega, rfl, rfl, rfl, rfl, rfl⟩
    have m7 := quot_at hM k1 7 (by decide) k2 186 rfl
    obtain ⟨A4, R4, n1, n2, n3, n4, n5, n6, n7, n8⟩ : ∃ A4 : Ar, (∀ s, At s A3 → Reach 10 s A4) ∧ A4.mem = M ∧ A4.pc = (o : Int) + 8 ∧ A4.b = A2.b ∧ A4.d = A2.d ∧ A4.a = A2.a ∧ A4.h = A2.h ∧ A4.l = A2.l ∧ lowB A4.f = decide (v < D) := by
      refine ⟨_, fun s hs => hs.cpD m7, k1, by show (A3.pc + 1) % 65536 = _; omega, k3, k4, k5, k6, k7, ?_⟩
      show lowB (aCp A3.a A3.d) = _
      rw [lowB_aCp, k5, k4, g5, g4, decide_eq_decide]; omega
    have m8 := quot_at hM n1 8 (by decide) n2 56 rfl
    have m8' := quot_at1 ho hM n1 8 (by decide) n2 2 rfl
    by_cases hvD : v < D
    · obtain ⟨A5, R5, p1, p2, p3, p4, p5, p6, p7⟩ : ∃ A5 : Ar, (∀ s, At s A4 → Reach 54 s A5) ∧ A5.mem = M ∧ A5.pc = (o : Int) + 12 ∧ A5.b = A2.b ∧ A5.d = A2.d ∧ A5.a = A2.a ∧ A5.h = A2.h ∧ A5.l = A2.l :=
        ⟨_, fun s hs => hs.jrCY m8 (by rw [fHas_1, n8]; simpa using hvD), n1, by rw [m8', n2]; show wplus _ 2 = _; unfold wplus; rw [if_pos (by decide)]; omega, n3, n4, n5, n6, n7⟩
      obtain ⟨A6, R6, t1, t2, t3, t4, t5, t6, t7⟩ := quot_tail ho hM i hi p1 p2 (p3.trans g3)
      refine ⟨A6, 2 * q, v, S', ⟨t1, t2, by rw [t3], by rw [t5, p4, g4], by rw [t4, p5, g5]; omega, by rw [t6, p6]; exact g6, by rw [t7, p7]; exact g7, by rw [t6, t7, p6, p7, g8], ?_, by omega, by omega, by omega, by omega, hS'2.2.1, by omega, hS'2.1⟩, fun s hs => Reach.mono ((((((R1 s hs).trans R2).trans R3).trans R4).trans R5).trans R6) (by omega)⟩
      rw [hqa, hN]; omega
    · obtain ⟨A5, R5, p1, p2, p3, p4, p5, p6, p7⟩ : ∃ A5 : Ar, (∀ s, At s A4 → Reach 19 s A5) ∧ A5.mem = M ∧ A5.pc = (o : Int) + 10 ∧ A5.b = A2.b ∧ A5.d = A2.d ∧ A5.a = A2.a ∧ A5.h = A2.h ∧ A5.l = A2.l :=
        ⟨_, fun s hs => hs.jrCN m8 (by rw [fHas_1, n8]; simpa using hvD), n1, by show ((A4.pc + 1) % 65536 + 1) % 65536 = _; omega, n3, n4, n5, n6, n7⟩
      obtain ⟨A6, R6, t1, t2, t3, t4, t5, t6, t7, t8, t9⟩ := quot_sub (v := v) (w := S' + 2 * q) ho hM hd0 hd1 i hi p1 p2 (p3.trans g3) (p4.trans g4) (p5.trans g5) (by omega) (by omega) (by rw [p6]; exact g6) (by rw [p7]; exact g7) (by rw [p6, p7]; exact g8) hev
      refine ⟨A6, 2 * q + 1, v - D, S', ⟨t1, t2, by rw [t3], t5, t4, by rw [t6, p6]; exact g6, ⟨t7, t8⟩, by rw [t9]; omega, ?_, by omega, by omega, by omega, by omega, hS'2.2.1, by omega, hS'2.1⟩, fun s hs => Reach.mono ((((((R1 s hs).trans R2).trans R3).trans R4).trans R5).trans R6) (by omega)⟩
      rw [hqb, hN]; omega
theorem quot_loop : ∀ (k i : Nat) (hik : i + (k + 1) = 16) {A : Ar} {q r S : Int} (hQ : Quot M N D i (2 ^ i) ((o : Int) + 3) A q r S),
    ∃ A' q' r' S', Quot M N D 16 65536 ((o : Int) + 14) A' q' r' S' ∧ ∀ s, At s A → Reach (268 * (k + 1)) s A' := by
  intro k
  induction k with
  | zero =>
    intro i hik A q r S hQ
    obtain ⟨A', q', r', S', h, R⟩ := quot_round ho hM hd0 hd1 i (by omega) rfl hQ
    have hi : i = 15 := by omega
    subst hi
    exact ⟨A', q', r', S', h, R⟩
  | succ k ih =>
    intro i hik A q r S hQ
    obtain ⟨A1, q1, r1, S1, h, R⟩ := quot_round ho hM hd0 hd1 i (by omega) rfl hQ
    rw [if_pos (by omega), show (2 : Int) * 2 ^ i = 2 ^ (i + 1) from by rw [Int.pow_succ]; omega] at h
    obtain ⟨A2, q2, r2, S2, h2, R2⟩ := ih (i + 1) (by omega) h
    exact ⟨A2, q2, r2, S2, h2, fun s hs => ((R s hs).trans R2).mono (by omega)⟩
/-- The program, from its beginning to its halt. -/
theorem quot_all {A : Ar} (hm : A.mem = M) (hp : A.pc = o) (hd : A.d = D) (hh : 0 ≤ A.h ∧ A.h < 256) (hl : 0 ≤ A.l ∧ A.l < 256) (hN : A.h * 256 + A.l = N) :
    ∃ A' : Ar, (∀ s, At s A → Reach 4400 s A') ∧ A'.mem A'.pc.toNat = 118 ∧ (0 ≤ A'.h ∧ A'.h < 256) ∧ (0 ≤ A'.l ∧ A'.l < 256) ∧ A'.h * 256 + A'.l = N / D ∧ A'.a = N % D ∧ A'.b = 0 ∧ A'.d = D := by
  have m0 := quot_at hM hm 0 (by decide) (by omega) 175 rfl
  obtain ⟨A1, R1, c1, c2, c3, c4, c5, c6⟩ : ∃ A1 : Ar, (∀ s, At s A → Reach 10 s A1) ∧ A1.mem = M ∧ A1.pc = (o : Int) + 1 ∧ A1.d = D ∧ A1.a = 0 ∧ A1.h = A.h ∧ A1.l = A.l :=
    ⟨_, fun s hs => hs.xorA m0, hm, by show (A.pc + 1) % 65536 = _; omega, hd, xor_self_u8 A.a, rfl, rfl⟩
  have m1 := quot_at hM c1 1 (by decide) c2 6 rfl
  have m1' := quot_at1 ho hM c1 1 (by decide) c2 16 rfl
  obtain ⟨A2, R2, g1, g2, g3, g4, g5, g6, g7⟩ : ∃ A2 : Ar, (∀ s, At s A1 → Reach 19 s A2) ∧ A2.mem = M ∧ A2.pc = (o : Int) + 3 ∧ A2.d = D ∧ A2.a = 0 ∧ A2.h = A.h ∧ A2.l = A.l ∧ A2.b = 16 :=
    ⟨_, fun s hs => hs.ldB m1, c1, by show ((A1.pc + 1) % 65536 + 1) % 65536 = _; omega, c3, c4, c5, c6, m1'⟩
  obtain ⟨A3, q, r, S, h, R3⟩ := quot_loop (N := N) ho hM hd0 hd1 15 0 rfl (A := A2) (q := 0) (r := 0) (S := N)
    ⟨g1, g2, by rw [g7]; rfl, g3, g4, by rw [g5]; exact hh, by rw [g6]; exact hl, by rw [g5, g6]; omega, by show N * 1 = (0 * D + 0) * 65536 + N; omega, by omega, by omega, by omega, by decide, by omega, by omega, by show N % 1 = 0; omega⟩
  have hsum := h.sum
  have h2 := h.s2
  have h3 := h.s0
  have h4 := h.s1
  have hS : S = 0 := by omega
  have hNq : N = q * D + r := by omega
  have hu := (Int.ediv_emod_unique (a := N) (b := D) (q := q) (r := r) (by omega)).2 ⟨by rw [hNq, Int.mul_comm]; omega, h.r0, h.r1⟩
  refine ⟨A3, fun s hs => (((R1 s hs).trans R2).trans R3).mono (by omega), quot_at hM h.mem 14 (by decide) h.pc 118 rfl, h.h, h.l, ?_, ?_, ?_, h.d⟩
  · rw [hu.1, h.hl]; omega
  · rw [hu.2]; exact h.a
  · rw [h.b]; rfl
end
end Sq
