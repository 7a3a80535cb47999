/- One T-state keeps the machine's numbers in their bounds. -/
import Derived.Test.YtneganpbamemmaaGreatPlainA
set_option linter.unusedVariables false
set_option linter.unusedSimpArgs false
set_option linter.unusedSectionVars false
namespace Sq
open Go

theorem iteP {α : Type} {P : α → Prop} {c : Prop} [Decidable c] {a b : α} (ha : P a) (hb : P b) : P (if c then a else b) := by split <;> assumption
theorem iteOk {c : Prop} [Decidable c] {a b : Cp} (ha : a.Ok) (hb : b.Ok) : (if c then a else b).Ok := by split <;> assumption
/-- Two bytes. -/
def B2 (p : Int × Int) : Prop := (0 ≤ p.1 ∧ p.1 < 256) ∧ (0 ≤ p.2 ∧ p.2 < 256)
theorem iteB {c : Prop} [Decidable c] {a b : Int × Int} (ha : B2 a) (hb : B2 b) : B2 (if c then a else b) := by split <;> assumption
theorem bits_bd (op : BinOp) (x y : Int) : 0 ≤ bits op .u8 x y ∧ bits op .u8 x y < 256 := by
  unfold bits
  simp only [IntKind.wrap, IntKind.bits, IntKind.signed]
  split <;> simp <;> omega
theorem fOf_bd (x : Int) : 0 ≤ fOf x ∧ fOf x < 256 := by unfold fOf; split <;> exact bits_bd _ _ _
theorem fWith_bd (x y : Int) (b : Bool) : 0 ≤ fWith x y b ∧ fWith x y b < 256 := by unfold fWith; split <;> exact bits_bd _ _ _
theorem fOfP_bd (x : Int) : 0 ≤ fOfP x ∧ fOfP x < 256 := fWith_bd _ _ _
theorem fSet_bd (f : Int) (l : List (Int × Bool)) (h : 0 ≤ f ∧ f < 256) : 0 ≤ fSet f l ∧ fSet f l < 256 := by
  induction l generalizing f with
  | nil => exact h
  | cons p l ih => exact ih _ (fWith_bd _ _ _)
theorem aAddR_bd (a b : Int) (c : Bool) : 0 ≤ aAddR a b c ∧ aAddR a b c < 256 := by unfold aAddR; omega
theorem aSubR_bd (a b : Int) (c : Bool) : 0 ≤ aSubR a b c ∧ aSubR a b c < 256 := by unfold aSubR; omega
theorem aAddF_bd (a b : Int) (c : Bool) : 0 ≤ aAddF a b c ∧ aAddF a b c < 256 := by unfold aAddF; exact fSet_bd _ _ (fOf_bd _)
theorem aSubF_bd (a b : Int) (c : Bool) : 0 ≤ aSubF a b c ∧ aSubF a b c < 256 := by unfold aSubF; exact fSet_bd _ _ (bits_bd _ _ _)
theorem aCp_bd (a b : Int) : 0 ≤ aCp a b ∧ aCp a b < 256 := by
  unfold aCp
  exact bits_bd .or (bits .andNot .u8 (aSubF a b false) 40) (bits .and .u8 b 40)
theorem B2.mk {a b : Int} (ha : 0 ≤ a ∧ a < 256) (hb : 0 ≤ b ∧ b < 256) : B2 (a, b) := ⟨ha, hb⟩
theorem aDo_bd (k a b f : Int) (ha : 0 ≤ a ∧ a < 256) : B2 (aDo k a b f) := by
  unfold aDo
  exact iteB (B2.mk (aAddR_bd _ _ _) (aAddF_bd _ _ _)) (iteB (B2.mk (aAddR_bd _ _ _) (aAddF_bd _ _ _)) (iteB (B2.mk (aSubR_bd _ _ _) (aSubF_bd _ _ _)) (iteB (B2.mk (aSubR_bd _ _ _) (aSubF_bd _ _ _))
    (iteB (B2.mk (bits_bd _ _ _) (bits_bd _ _ _)) (iteB (B2.mk (bits_bd _ _ _) (fOfP_bd _)) (iteB (B2.mk (bits_bd _ _ _) (fOfP_bd _)) (B2.mk ha (aCp_bd a b))))))))
theorem keepC_bd (g f : Int) : 0 ≤ keepC g f ∧ keepC g f < 256 := by unfold keepC; exact bits_bd .or _ _
theorem aDaa_bd (a f : Int) : (0 ≤ (aDaa a f).1 ∧ (aDaa a f).1 < 256) ∧ (0 ≤ (aDaa a f).2 ∧ (aDaa a f).2 < 256) := by
  refine ⟨?_, fSet_bd _ _ (fOfP_bd _)⟩
  unfold aDaa daaR
  dsimp only
  split <;> omega
theorem turned_bd (k b f : Int) (h0 : 0 ≤ b ∧ b < 256) (h2 : 0 ≤ f ∧ f < 256) : (0 ≤ (turned k b f).1 ∧ (turned k b f).1 < 256) ∧ (0 ≤ (turned k b f).2 ∧ (turned k b f).2 < 2) := by
  unfold turned
  repeat' split
  all_goals simp only
  all_goals omega
theorem tBit_bd (n v fr f : Int) : 0 ≤ tBit n v fr f ∧ tBit n v fr f < 256 := by
  unfold tBit
  split
  · exact fWith_bd _ _ _
  · exact bits_bd _ _ _
theorem wAdd1_bd (a b f : Int) : (0 ≤ (wAdd a b f).1 ∧ (wAdd a b f).1 < 65536) := by unfold wAdd; dsimp only; omega
theorem wAdc1_bd (a b f : Int) : (0 ≤ (wAdc a b f).1 ∧ (wAdc a b f).1 < 65536) := by unfold wAdc; dsimp only; omega
theorem wSbc1_bd (a b f : Int) : (0 ≤ (wSbc a b f).1 ∧ (wSbc a b f).1 < 65536) := by unfold wSbc; dsimp only; omega
theorem wplus_bd (w d : Int) : 0 ≤ wplus w d ∧ wplus w d < 65536 := by unfold wplus; omega
theorem aInc_bd (a f : Int) : (0 ≤ (aInc a f).1 ∧ (aInc a f).1 < 256) ∧ (0 ≤ (aInc a f).2 ∧ (aInc a f).2 < 256) := by unfold aInc; exact ⟨aAddR_bd a 1 false, keepC_bd _ f⟩
theorem aDec_bd (a f : Int) : (0 ≤ (aDec a f).1 ∧ (aDec a f).1 < 256) ∧ (0 ≤ (aDec a f).2 ∧ (aDec a f).2 < 256) := by unfold aDec; exact ⟨aSubR_bd a 1 false, keepC_bd _ f⟩
theorem wAdd2_bd (a b f : Int) : 0 ≤ (wAdd a b f).2 ∧ (wAdd a b f).2 < 256 := by unfold wAdd; exact bits_bd .or _ _
theorem wAdc2_bd (a b f : Int) : 0 ≤ (wAdc a b f).2 ∧ (wAdc a b f).2 < 256 := by unfold wAdc; exact bits_bd .or _ _
theorem wSbc2_bd (a b f : Int) : 0 ≤ (wSbc a b f).2 ∧ (wSbc a b f).2 < 256 := by unfold wSbc; exact bits_bd .or _ 2
theorem tRrd_bd (a b f : Int) : (0 ≤ (tRrd a b f).1 ∧ (tRrd a b f).1 < 256) ∧ (0 ≤ (tRrd a b f).2.1 ∧ (tRrd a b f).2.1 < 256) ∧ (0 ≤ (tRrd a b f).2.2 ∧ (tRrd a b f).2.2 < 256) := by unfold tRrd; exact ⟨bits_bd .or _ (b % 16), bits_bd .or _ (b / 16), bits_bd .or _ _⟩
theorem tRld_bd (a b f : Int) : (0 ≤ (tRld a b f).1 ∧ (tRld a b f).1 < 256) ∧ (0 ≤ (tRld a b f).2.1 ∧ (tRld a b f).2.1 < 256) ∧ (0 ≤ (tRld a b f).2.2 ∧ (tRld a b f).2.2 < 256) := by unfold tRld; exact ⟨bits_bd .or _ (b / 16), bits_bd .or _ (a % 16), bits_bd .or _ _⟩
theorem acc_bd {c : Cp} (h : c.Ok) : B2 c.acc := by
  unfold Cp.acc
  have ht := turned_bd (cy c.code) c.g.a c.g.f h.g.a h.g.f
  exact iteB (aDaa_bd _ _) (iteB ⟨bits_bd .xor 255 c.g.a, bits_bd .or _ 2⟩ (iteB ⟨h.g.a, bits_bd .or _ 1⟩ (iteB ⟨h.g.a, fSet_bd _ _ (bits_bd .or _ _)⟩ ⟨ht.1, bits_bd .or _ (turned (cy c.code) c.g.a c.g.f).2⟩)))
theorem bitsV_bd {c : Cp} (ho : c.Ok) {v : Int} (h : 0 ≤ v ∧ v < 256) : 0 ≤ c.bitsV v ∧ c.bitsV v < 256 := by
  unfold Cp.bitsV
  repeat' split
  · exact (turned_bd _ _ _ h ho.g.f).1
  · exact h
  · exact bits_bd _ _ _
  · exact bits_bd _ _ _
theorem tDo2_bd (k v f : Int) : 0 ≤ (tDo k v f).2 ∧ (tDo k v f).2 < 256 := by unfold tDo; exact bits_bd .or _ (turned k v f).2
theorem Cp.Ok.setG {c : Cp} (h : c.Ok) {g : Rg} (hg : g.Ok) : ({ c with g := g } : Cp).Ok := { h with g := hg }
theorem Cp.Ok.setF {c : Cp} (h : c.Ok) {f : Int} (hf : 0 ≤ f ∧ f < 256) : (c.setF f).Ok := { h with g := { h.g with f := hf } }
theorem Cp.Ok.bitsC {c : Cp} (h : c.Ok) (v fr : Int) : (c.bitsC v fr).Ok := by
  unfold Cp.bitsC
  repeat' split
  · exact h.setF (tDo2_bd _ _ _)
  · exact h.setF (tBit_bd _ _ _ _)
  · exact h
theorem okF {c : Cp} (h : c.Ok) {g : Rg} {lo f : Int} (hg : g.Ok) (hl : 0 ≤ lo ∧ lo < 256) (hf : 0 ≤ f ∧ f < 256) : (({ c with g := g, lo := lo } : Cp).setF f).Ok := { h with g := { hg with f := hf }, lo := hl }
theorem okG {c : Cp} (h : c.Ok) {g : Rg} (hg : g.Ok) : ({ c with g := g } : Cp).Ok := { h with g := hg }
theorem m256 (x : Int) : 0 ≤ x % 256 ∧ x % 256 < 256 := by omega
theorem m65536 (x : Int) : 0 ≤ x % 65536 ∧ x % 65536 < 65536 := by omega
theorem Rg.Ok.tick {g : Rg} (h : g.Ok) : g.tick.Ok := { h with r := by have := h.r; show 0 ≤ g.r / 128 * 128 + (g.r + 1) % 128 ∧ g.r / 128 * 128 + (g.r + 1) % 128 < 256; omega }
theorem first_ok {c : Cp} (h : c.Ok) (k : Int) : (c.first k).Ok := by
  have hg := h.g; have hw := h.word
  unfold Cp.first
  refine iteOk ?_ ?_
  · exact h.setG (g := c.g.exAf) { hg with a := hg.a2, a2 := hg.a, f := hg.f2, f2 := hg.f }
  refine iteOk ?_ ?_
  · exact h.setG { hg with b := m256 _ }
  refine iteOk ?_ ?_
  · exact h.setG { hg with pc := wplus_bd _ _, wz := wplus_bd _ _ }
  refine iteOk ?_ ?_
  · exact h.setG (hg.putPair _ _ _ hw)
  refine iteOk ?_ ?_
  · have h1 : ({ c.g with wz := (c.g.pair 2 c.ix + 1) % 65536 } : Rg).Ok := { hg with wz := m65536 _ }
    exact (h.setG (h1.putPair _ _ _ (wAdd1_bd _ _ _))).setF (wAdd2_bd _ _ _)
  refine iteOk ?_ ?_
  · exact h.setG { hg with wz := wd_bd hg.a (wlo_bd hg.wz) }
  refine iteOk ?_ ?_
  · exact h.setG { hg with wz := m65536 _ }
  refine iteOk ?_ ?_
  · exact h.setG { hg with wz := m65536 _ }
  refine iteOk ?_ ?_
  · exact h.setG { hg with wz := hw }
  refine iteOk ?_ ?_
  · exact h.setG { hg with a := h.lo }
  refine iteOk ?_ ?_
  · exact h.setG (hg.putPair _ _ _ hw)
  refine iteOk ?_ ?_
  · exact h.setG (hg.putPair _ _ _ (m65536 _))
  refine iteOk ?_ ?_
  · exact h.setG (hg.putPair _ _ _ (m65536 _))
  refine iteOk ?_ ?_
  · exact { h with ea := wplus_bd _ _, g := { hg with wz := wplus_bd _ _ } }
  refine iteOk ?_ ?_
  · exact h.setG { hg with pc := hw, wz := hw }
  refine iteOk ?_ ?_
  · unfold Cp.popped
    exact iteOk (h.setG { hg with a := whi_bd hw, f := wlo_bd hw }) (h.setG (hg.putPair _ _ _ hw))
  refine iteOk ?_ ?_
  · exact h.setG (g := c.g.exx) { hg with b := hg.b2, b2 := hg.b, c := hg.c2, c2 := hg.c, d := hg.d2, d2 := hg.d, e := hg.e2, e2 := hg.e, h := hg.h2, h2 := hg.h, l := hg.l2, l2 := hg.l }
  refine iteOk ?_ ?_
  · exact h.setG { hg with pc := hg.pair 2 c.ix }
  refine iteOk ?_ ?_
  · exact h.setG { hg with sp := hg.pair 2 c.ix }
  refine iteOk ?_ ?_
  · exact h.setG { hg with pc := hg.wz }
  refine iteOk ?_ ?_
  · exact h.setG { hg with wz := wd_bd hg.a h.lo }
  exact h.setG { hg.putPair _ _ _ hw with wz := hw }
theorem counts_ok {c : Cp} (h : c.Ok) (k : Int) : (c.counts k).Ok := by
  have hg := h.g
  obtain ⟨a1, a2⟩ := acc_bd h
  obtain ⟨x1, x2⟩ := aDo_bd (cy c.code) c.g.a c.lo c.g.f hg.a
  obtain ⟨y1, y2⟩ := aDo_bd (cy c.code) c.g.a (c.g.byte (cz c.code) c.ix) c.g.f hg.a
  obtain ⟨i1, i2⟩ := aInc_bd (c.g.byte (cy c.code) c.ix) c.g.f
  obtain ⟨d1, d2⟩ := aDec_bd (c.g.byte (cy c.code) c.ix) c.g.f
  obtain ⟨j1, j2⟩ := aInc_bd c.lo c.g.f
  obtain ⟨e1, e2⟩ := aDec_bd c.lo c.g.f
  unfold Cp.counts
  refine iteOk (okF h (hg.putByte _ _ _ i1) h.lo i2) ?_
  refine iteOk (okF h (hg.putByte _ _ _ d1) h.lo d2) ?_
  refine iteOk (okF h hg j1 j2) ?_
  refine iteOk (okF h hg e1 e2) ?_
  refine iteOk (okG h (hg.putByte _ _ _ h.lo)) ?_
  refine iteOk (okF h ?_ h.lo a2) ?_
  · exact { hg with a := a1 }
  refine iteOk (okG h ?_) ?_
  · exact { hg with }
  refine iteOk (okG h (hg.putByte _ _ _ (hg.byte _ _))) ?_
  refine iteOk (okF h ?_ h.lo x2) ?_
  · exact { hg with a := x1 }
  refine okF h ?_ h.lo y2
  exact { hg with a := y1 }
theorem other_ok {c : Cp} (h : c.Ok) (k : Int) : (c.other k).Ok := by
  have hg := h.g
  have hb : 0 ≤ bits .and .u8 c.code 56 ∧ bits .and .u8 c.code 56 < 65536 := by have := bits_bd .and c.code 56; omega
  unfold Cp.other
  refine iteOk (okG h ?_) ?_
  · exact { hg with d := hg.h, h := hg.d, e := hg.l, l := hg.e }
  refine iteOk (okG h ?_) ?_
  · exact { hg with }
  refine iteOk (okG h ?_) ?_
  · exact { hg with }
  refine iteOk (okG h ?_) ?_
  · exact { hg with pc := hb, wz := hb }
  refine iteOk ?_ ?_
  · exact { h.bitsC _ _ with lo := bitsV_bd h h.lo }
  refine iteOk (okG (h.bitsC _ _) ((h.bitsC _ _).g.putByte _ _ _ (bitsV_bd h (hg.byte _ _)))) ?_
  exact okG h (hg.putByte _ _ _ h.lo)
theorem more_ok {c : Cp} (h : c.Ok) (k : Int) : (c.more k).Ok := by
  have hg := h.g
  have h1 := (hg.putPair 2 0 _ (wSbc1_bd (c.g.pair 2 0) (c.g.pair (cp c.code) 0) c.g.f))
  have h2 := (hg.putPair 2 0 _ (wAdc1_bd (c.g.pair 2 0) (c.g.pair (cp c.code) 0) c.g.f))
  obtain ⟨r1, r2, r3⟩ := tRrd_bd c.g.a c.lo c.g.f
  obtain ⟨l1, l2, l3⟩ := tRld_bd c.g.a c.lo c.g.f
  unfold Cp.more
  refine iteOk ?_ ?_
  · refine okF h (hg.putByte _ _ _ h.lo) h.lo ?_
    exact bits_bd .or (fOfP c.lo) (bits .and .u8 c.g.f 1)
  refine iteOk ?_ ?_
  · refine okF h ?_ h.lo (wSbc2_bd _ _ _)
    exact { h1 with wz := m65536 _ }
  refine iteOk ?_ ?_
  · refine okF h ?_ h.lo (wAdc2_bd _ _ _)
    exact { h2 with wz := m65536 _ }
  refine iteOk ?_ ?_
  · refine okF h ?_ h.lo (aSubF_bd _ _ _)
    exact { hg with a := aSubR_bd _ _ _ }
  refine iteOk ?_ ?_
  · refine okF h ?_ h.lo ?_
    · exact { hg with a := hg.i }
    · exact fWith_bd _ _ _
  refine iteOk ?_ ?_
  · refine okF h ?_ h.lo ?_
    · exact { hg with a := hg.r }
    · exact fWith_bd _ _ _
  refine iteOk ?_ ?_
  · refine okF h ?_ r2 r3
    exact { hg with a := r1, wz := m65536 _ }
  refine okF h ?_ l2 l3
  exact { hg with a := l1, wz := m65536 _ }
theorem copied_ok {c : Cp} (h : c.Ok) : c.copied.Ok := ((h.g.putPair _ _ _ (m65536 _)).putPair _ _ _ (m65536 _)).putPair _ _ _ (m65536 _)
theorem mode_bd (k : Int) : 0 ≤ mode k ∧ mode k ≤ 2 := by unfold mode; split <;> (try split) <;> omega
theorem blocks_ok {c : Cp} (h : c.Ok) (k : Int) : (c.blocks k).Ok := by
  have hg := h.g
  unfold Cp.blocks
  refine iteOk (okG h ?_) ?_
  · exact { hg with wz := m65536 _ }
  refine iteOk (okG h ?_) ?_
  · exact { hg with }
  refine iteOk (okG h ?_) ?_
  · exact { hg with im := mode_bd _ }
  refine iteOk (okG h ?_) ?_
  · exact { hg with i := hg.a }
  refine iteOk (okG h ?_) ?_
  · exact { hg with r := hg.a }
  refine iteOk (okF h (copied_ok h) h.lo (fWith_bd _ _ _)) ?_
  refine iteOk (okG h ?_) ?_
  · exact { hg with b := m256 _ }
  refine okF h ?_ h.lo ?_
  · exact { hg with pc := m65536 _, wz := m65536 _ }
  · exact bits_bd .or (bits .andNot .u8 c.g.f 40) _
theorem work_ok {c : Cp} (h : c.Ok) (k : Int) : (c.work k).Ok := by
  unfold Cp.work
  refine iteOk (iteOk ?_ ?_) (iteOk ?_ (iteOk ?_ ?_))
  · exact counts_ok h k
  · exact first_ok h k
  · exact other_ok h k
  · exact more_ok h k
  · exact blocks_ok h k

/-- What a work leaves as it was. -/
structure Kept (c d : Cp) : Prop where
  len : d.len = c.len
  at_ : d.at_ = c.at_
  code : d.code = c.code
  ix : d.ix = c.ix
  second : d.second = c.second
  ahead : d.ahead = c.ahead
  nmi : d.nmi = c.nmi
  pre : d.g.pre = c.g.pre
  kind : d.kind = c.kind
  what : d.what = c.what
  n : d.n = c.n
  t : d.t = c.t
  wait : d.wait = c.wait
  held : d.held = c.held
theorem Kept.refl (c : Cp) : Kept c c := ⟨rfl, rfl, rfl, rfl, rfl, rfl, rfl, rfl, rfl, rfl, rfl, rfl, rfl, rfl⟩
theorem Kept.trans {a b c : Cp} (h : Kept a b) (k : Kept b c) : Kept a c :=
  ⟨k.len.trans h.len, k.at_.trans h.at_, k.code.trans h.code, k.ix.trans h.ix, k.second.trans h.second, k.ahead.trans h.ahead, k.nmi.trans h.nmi, k.pre.trans h.pre, k.kind.trans h.kind, k.what.trans h.what, k.n.trans h.n, k.t.trans h.t, k.wait.trans h.wait, k.held.trans h.held⟩
theorem putByte_pre (g : Rg) (k ix v : Int) : (g.putByte k ix v).pre = g.pre := by unfold Rg.putByte; repeat' split <;> try rfl
theorem putPair_pre (g : Rg) (k ix v : Int) : (g.putPair k ix v).pre = g.pre := by unfold Rg.putPair; repeat' split <;> try rfl
theorem Kept.of (c : Cp) (g : Rg) (lo hi ea : Int) (wr : Bool) (h : g.pre = c.g.pre) : Kept c { c with g := g, lo := lo, hi := hi, ea := ea, wrote := wr } := ⟨rfl, rfl, rfl, rfl, rfl, rfl, rfl, h, rfl, rfl, rfl, rfl, rfl, rfl⟩
theorem iteK {c : Cp} {p : Prop} [Decidable p] {a b : Cp} (ha : Kept c a) (hb : Kept c b) : Kept c (if p then a else b) := by split <;> assumption
theorem Kept.bitsC (c : Cp) (v fr : Int) : Kept c (c.bitsC v fr) := by
  unfold Cp.bitsC
  exact iteK (Kept.of c _ _ _ _ _ rfl) (iteK (Kept.of c _ _ _ _ _ rfl) (Kept.refl c))
theorem work_kept (c : Cp) (k : Int) : Kept c (c.work k) := by
  unfold Cp.work
  refine iteK (iteK ?_ ?_) (iteK ?_ (iteK ?_ ?_))
  · unfold Cp.counts
    repeat' refine iteK ?_ ?_
    all_goals exact Kept.of c _ _ _ _ _ (by first | rfl | exact putByte_pre _ _ _ _)
  · unfold Cp.first Cp.popped
    repeat' refine iteK ?_ ?_
    all_goals exact Kept.of c _ _ _ _ _ (by first | rfl | exact putPair_pre _ _ _ _)
  · unfold Cp.other
    refine iteK ?_ (iteK ?_ (iteK ?_ (iteK ?_ (iteK ?_ (iteK ?_ ?_)))))
    · exact Kept.of c _ _ _ _ _ rfl
    · exact Kept.of c _ _ _ _ _ rfl
    · exact Kept.of c _ _ _ _ _ rfl
    · exact Kept.of c _ _ _ _ _ rfl
    · exact (Kept.bitsC c c.lo (whi c.g.wz)).trans (Kept.of _ _ _ _ _ _ rfl)
    · exact (Kept.bitsC c _ _).trans (Kept.of _ _ _ _ _ _ (putByte_pre _ _ _ _))
    · exact Kept.of c _ _ _ _ _ (putByte_pre _ _ _ _)
  · unfold Cp.more
    repeat' refine iteK ?_ ?_
    all_goals exact Kept.of c _ _ _ _ _ (by first | rfl | exact putByte_pre _ _ _ _ | exact putPair_pre _ _ _ _)
  · unfold Cp.blocks
    refine iteK ?_ (iteK ?_ (iteK ?_ (iteK ?_ (iteK ?_ (iteK ?_ (iteK ?_ ?_))))))
    · exact Kept.of c _ _ _ _ _ rfl
    · exact Kept.of c _ _ _ _ _ rfl
    · exact Kept.of c _ _ _ _ _ rfl
    · exact Kept.of c _ _ _ _ _ rfl
    · exact Kept.of c _ _ _ _ _ rfl
    · exact Kept.of c _ _ _ _ _ (by unfold Cp.copied; simp only [putPair_pre])
    · exact Kept.of c _ _ _ _ _ rfl
    · exact Kept.of c _ _ _ _ _ rfl
end Sq
/- One T-state keeps the machine's numbers in their bounds: the steps, the cycles. -/
namespace Sq
open Go

theorem flat_get (l : List Stp) : ∀ (i : Nat) (h : i < l.length), (flat l)[4 * i]? = some l[i].k ∧ (flat l)[4 * i + 1]? = some l[i].at_ ∧ (flat l)[4 * i + 2]? = some l[i].wh ∧ (flat l)[4 * i + 3]? = some l[i].n := by
  induction l with
  | nil => intro i h; simp at h
  | cons s l ih =>
    intro i h
    rw [flat_cons]
    cases i with
    | zero => simp
    | succ i =>
      have := ih i (by simpa using h)
      simpa [Nat.mul_add, Nat.add_assoc] using this
theorem stp_app (sl : Nat → Int) (l : List Stp) (i : Nat) (h : i < l.length) : stp (app sl 0 l) i = l[i] := by
  obtain ⟨h0, h1, h2, h3⟩ := flat_get l i h
  have hl := flat_length l
  unfold stp app puts
  simp only [Nat.mul_zero, Nat.zero_le, true_and, Nat.zero_add, Nat.sub_zero, hl]
  rw [if_pos (by omega), if_pos (by omega), if_pos (by omega), if_pos (by omega), h0, h1, h2, h3]
  rfl

theorem Mid.prog {c : Cp} {sl : Nat → Int} (h : Mid c sl) {set v : Int} (hv : 0 ≤ v ∧ v < 256) (hk : okCode set v = true) : Mid (c.prog set 0 v) (app sl 0 (mProg set 0 v)) := by
  unfold okCode at hk
  simp only [Bool.and_eq_true, decide_eq_true_eq, List.all_eq_true] at hk
  obtain ⟨⟨_, hl⟩, ha⟩ := hk
  refine ⟨?_, h.ahead, h.nmi, h.pre, rfl, hl, Int.le_refl _, by show (0 : Int) ≤ _; omega, ?_, h.second, h.wait, h.what, h.t, h.n⟩
  · exact { h.ok with code := hv, ix := by show 0 ≤ (0 : Int) ∧ (0 : Int) ≤ 2; omega, ea := h.ok.g.pair 2 0 }
  · intro i hi
    have hi : i < (mProg set 0 v).length := hi
    rw [stp_app _ _ _ hi]
    exact ha _ (List.getElem_mem hi)
theorem counted_ok {g : Rg} (h : g.Ok) : ({ g.tick with pc := (g.pc + 1) % 65536 } : Rg).Ok := { h.tick with pc := m65536 _ }
theorem Mid.setG {c : Cp} {sl : Nat → Int} (h : Mid c sl) {g : Rg} (hg : g.Ok) (hp : g.pre = 0) : Mid { c with g := g } sl :=
  ⟨h.ok.setG hg, h.ahead, h.nmi, hp, h.ix, h.len, h.at0, h.at1, h.steps, h.second, h.wait, h.what, h.t, h.n⟩
theorem Mid.counted {c : Cp} {sl : Nat → Int} (h : Mid c sl) : Mid c.counted sl := h.setG (counted_ok h.ok.g) h.pre
theorem Mid.second' {c : Cp} {sl : Nat → Int} (h : Mid c sl) {k : Int} (hk : 0 ≤ k ∧ k ≤ 2) : Mid { c with second := k } sl :=
  ⟨{ h.ok with }, h.ahead, h.nmi, h.pre, h.ix, h.len, h.at0, h.at1, h.steps, hk, h.wait, h.what, h.t, h.n⟩
theorem Mid.fetched {c : Cp} {sl : Nat → Int} (h : Mid c sl) {v : Int} (hv : 0 ≤ v ∧ v < 256)
    (hk : c.g.halt = false → (0 < c.second ∨ (v ≠ 237 ∧ v ≠ 203)) → okCode c.second v = true) : Mid (c.fetched v) (c.fetchedS sl v) := by
  unfold Cp.fetched Cp.fetchedS
  by_cases h1 : c.g.halt = true
  · rw [if_pos h1, if_pos h1]; exact h.setG h.ok.g.tick h.pre
  rw [if_neg h1, if_neg h1]
  have h1 : c.g.halt = false := by simpa using h1
  by_cases h2 : 0 < c.second
  · rw [if_pos h2, if_pos h2]
    exact (h.counted.second' (by omega)).prog hv (hk h1 (.inl h2))
  rw [if_neg h2, if_neg h2]
  by_cases h3 : v = 237
  · rw [if_pos h3, if_pos h3]; exact h.counted.second' (by omega)
  rw [if_neg h3, if_neg h3]
  by_cases h4 : v = 203
  · rw [if_pos h4, if_pos h4]; exact h.counted.second' (by omega)
  rw [if_neg h4, if_neg h4]
  have h5 : c.second = 0 := by have := h.second; omega
  have := hk h1 (.inr ⟨h3, h4⟩)
  rw [h5] at this
  exact h.counted.prog hv this

theorem Mid.at_ {c : Cp} {sl : Nat → Int} (h : Mid c sl) {k : Int} (h0 : 0 ≤ k) (h1 : k ≤ c.len) : Mid { c with at_ := k } sl :=
  ⟨{ h.ok with }, h.ahead, h.nmi, h.pre, h.ix, h.len, h0, h1, h.steps, h.second, h.wait, h.what, h.t, h.n⟩
theorem Mid.work {c : Cp} {sl : Nat → Int} (h : Mid c sl) (k : Int) : Mid (c.work k) sl := by
  obtain ⟨k1, k2, k3, k4, k5, k6, k7, k8, k9, k10, k11, k12, k13, k14⟩ := work_kept c k
  exact ⟨work_ok h.ok k, by rw [k6]; exact h.ahead, by rw [k7]; exact h.nmi, by rw [k8]; exact h.pre, by rw [k4]; exact h.ix, by rw [k1]; exact h.len, by rw [k2]; exact h.at0, by rw [k1, k2]; exact h.at1, by rw [k1]; exact h.steps, by rw [k5]; exact h.second, by rw [k13]; exact h.wait, by rw [k10]; exact h.what, by rw [k12]; exact h.t, by rw [k11]; exact h.n⟩
theorem Mid.ends {c : Cp} {sl : Nat → Int} (h : Mid c sl) : Mid c.ends sl := by
  refine ⟨{ h.ok with g := { h.ok.g with q := ?_ } }, h.ahead, h.nmi, h.pre, h.ix, h.len, h.at0, h.at1, h.steps, h.second, h.wait, h.what, h.t, h.n⟩
  have := h.ok.g.f
  show 0 ≤ (if c.wrote = true then c.g.f else 0) ∧ (if c.wrote = true then c.g.f else 0) < 256
  split <;> omega
theorem ends_cyc (c : Cp) : Cyc c.ends := ⟨.inl rfl, fun h => absurd rfl h⟩
theorem iteI {p : Prop} [Decidable p] {a b lo hi : Int} (ha : lo ≤ a ∧ a < hi) (hb : lo ≤ b ∧ b < hi) : lo ≤ (if p then a else b) ∧ (if p then a else b) < hi := by split <;> assumption
theorem placeA_bd {c : Cp} (h : c.Ok) (p : Int) : 0 ≤ c.placeA p ∧ c.placeA p < 65536 := by
  unfold Cp.placeA
  exact iteI h.g.pc (iteI h.ea (iteI (h.g.pair 0 0) (iteI (h.g.pair 1 0) (iteI h.g.sp (iteI (m65536 _) (iteI h.g.sp (iteI h.g.wz (iteI (wd_bd h.g.i h.g.r) h.addr))))))))
theorem iteM {p : Prop} [Decidable p] {a b : Cp} {sl : Nat → Int} (ha : Mid a sl) (hb : Mid b sl) : Mid (if p then a else b) sl := by split <;> assumption
theorem Mid.placeC {c : Cp} {sl : Nat → Int} (h : Mid c sl) (p : Int) : Mid (c.placeC p) sl := by
  unfold Cp.placeC
  refine iteM (h.setG ?_ h.pre) (iteM (h.setG ?_ h.pre) (iteM (h.setG ?_ h.pre) h))
  · exact { h.ok.g with pc := m65536 _ }
  · exact { h.ok.g with sp := m65536 _ }
  · exact { h.ok.g with sp := m65536 _ }
theorem byteOf_bd {c : Cp} (h : c.Ok) (w : Int) : 0 ≤ c.byteOf w ∧ c.byteOf w < 256 := by
  have hg := h.g
  unfold Cp.byteOf
  exact iteI h.lo (iteI h.hi (iteI hg.a (iteI (whi_bd (hg.pair 2 _)) (iteI (wlo_bd (hg.pair 2 _)) (iteI (hg.byte _ _) (iteI (whi_bd hg.pc) (iteI (wlo_bd hg.pc)
    (iteI (whi_bd (hg.pair _ _)) (iteI (wlo_bd (hg.pair _ _)) (iteI (whi_bd h.pushed) (iteI (wlo_bd h.pushed) (hg.byte _ _))))))))))))
theorem Mid.cyc {c : Cp} {sl : Nat → Int} (h : Mid c sl) {w kind addr n o : Int} (hw : 0 ≤ w ∧ w ≤ 13) (ha : 0 ≤ addr ∧ addr < 65536) (hn : 0 ≤ n ∧ n ≤ 8) (ho : 0 ≤ o ∧ o < 256) :
    Mid (({ c with what := w, port := false, out := o } : Cp).start kind addr n) sl :=
  ⟨{ h.ok with out := ho, addr := ha }, h.ahead, h.nmi, h.pre, h.ix, h.len, h.at0, h.at1, h.steps, h.second, h.wait, hw, by show 0 ≤ (0 : Int) ∧ (0 : Int) ≤ 8; omega, hn⟩
theorem Mid.cycle {c : Cp} {sl : Nat → Int} (h : Mid c sl) {s : Stp} (hs : okStp s = true) (h5 : ¬ s.k = 5) (h6 : ¬ s.k = 6) : Mid (c.cycle s) sl ∧ Cyc (c.cycle s) := by
  simp only [okStp, Bool.and_eq_true, Bool.or_eq_true, decide_eq_true_eq, beq_iff_eq] at hs
  have hA := placeA_bd h.ok s.at_
  have hP := h.placeC s.at_
  have hn : (s.k = 0 ∨ s.k = 1 ∨ s.k = 2) ∧ 1 ≤ s.n ∧ s.n ≤ 7 ∧ s.wh ≤ 13 ∧ 0 ≤ s.wh := by omega
  have hB := byteOf_bd (c := { c.placeC s.at_ with what := s.wh, port := false }) { hP.ok with } s.wh
  unfold Cp.cycle
  by_cases k0 : s.k = 0
  · rw [if_pos k0]
    exact ⟨hP.cyc (by omega) hA (by omega) hP.ok.out, .inr (.inr (.inr (.inr rfl))), fun _ => by show (0 : Int) < s.n; omega⟩
  rw [if_neg k0]
  by_cases k1 : s.k = 1
  · rw [if_pos k1]
    exact ⟨hP.cyc (by omega) hA (by omega) hP.ok.out, .inr (.inr (.inl rfl)), fun _ => by show (0 : Int) < s.n; omega⟩
  rw [if_neg k1]
  exact ⟨hP.cyc (by omega) hA (by omega) hB, .inr (.inr (.inr (.inl rfl))), fun _ => by show (0 : Int) < s.n; omega⟩
theorem nextF_ok : ∀ (n : Nat) {c : Cp} {sl : Nat → Int}, Mid c sl → (c.len : Int) - c.at_ < n → Mid (nextF n c sl) sl ∧ Cyc (nextF n c sl) := by
  intro n
  induction n with
  | zero => intro c sl h hn; exact absurd h.at1 (by omega)
  | succ n ih =>
    intro c sl h hn
    unfold nextF
    by_cases h1 : (c.len : Int) ≤ c.at_
    · rw [if_pos h1]; exact ⟨h.ends, ends_cyc c⟩
    rw [if_neg h1]
    have h0 := h.at0
    have hs := h.steps c.at_.toNat (by omega)
    have hA := h.at_ (k := c.at_ + 1) (by omega) (by omega)
    by_cases h5 : (stp sl c.at_.toNat).k = 5
    · rw [if_pos h5]
      have hk := work_kept { c with at_ := c.at_ + 1 } (stp sl c.at_.toNat).wh
      exact ih (hA.work _) (by rw [hk.len, hk.at_]; show (c.len : Int) - (c.at_ + 1) < n; omega)
    rw [if_neg h5]
    by_cases h6 : (stp sl c.at_.toNat).k = 6
    · rw [if_pos h6]
      split
      · exact ih hA (by show (c.len : Int) - (c.at_ + 1) < n; omega)
      · exact ih (h.at_ (by omega) (Int.le_refl _)) (by show (c.len : Int) - c.len < n; omega)
    rw [if_neg h6]
    exact hA.cycle hs h5 h6
theorem Mid.start0 {c : Cp} {sl : Nat → Int} (h : Mid c sl) {addr : Int} (ha : 0 ≤ addr ∧ addr < 65536) : Mid (c.start 0 addr 4) sl :=
  ⟨{ h.ok with addr := ha }, h.ahead, h.nmi, h.pre, h.ix, h.len, h.at0, h.at1, h.steps, h.second, h.wait, h.what, by show 0 ≤ (0 : Int) ∧ (0 : Int) ≤ 8; omega, by show 0 ≤ (4 : Int) ∧ (4 : Int) ≤ 8; omega⟩
theorem next_ok {c : Cp} {sl : Nat → Int} (h : Mid c sl) : Mid (c.next sl) sl ∧ Cyc (c.next sl) := by
  unfold Cp.next
  split
  · exact ⟨h.start0 h.ok.g.pc, .inr (.inl rfl), fun _ => by show (0 : Int) < 4; omega⟩
  · exact nextF_ok 40 h (by have := h.len; have := h.at0; omega)
theorem Mid.latch {c : Cp} {sl : Nat → Int} (h : Mid c sl) {v : Int} (hv : 0 ≤ v ∧ v < 256) : Mid (c.latch v) sl := by
  unfold Cp.latch
  refine iteM ?_ ?_
  · exact ⟨{ h.ok with hi := hv }, h.ahead, h.nmi, h.pre, h.ix, h.len, h.at0, h.at1, h.steps, h.second, h.wait, h.what, h.t, h.n⟩
  · exact ⟨{ h.ok with lo := hv }, h.ahead, h.nmi, h.pre, h.ix, h.len, h.at0, h.at1, h.steps, h.second, h.wait, h.what, h.t, h.n⟩
theorem Bd.Ok.write {b : Bd} (h : b.Ok) {a v : Int} (hv : 0 ≤ v ∧ v < 256) : (b.write a v).Ok := by
  unfold Bd.write
  split
  · exact ⟨fun i => by show 0 ≤ upd b.mem a.toNat v i ∧ upd b.mem a.toNat v i < 256; unfold upd; split; exact hv; exact h.mem i, h.frame, h.t⟩
  · exact h
theorem finish_ok {s : St} (hm : Mid s.c s.sl) (hb : s.b.Ok) (hf : s.Fit) : s.finish.Ok := by
  have hv := hb.mem s.c.addr.toNat
  unfold St.finish
  by_cases h0 : s.c.kind = 0
  · rw [if_pos h0]
    have := next_ok (hm.fetched hv (hf.code h0))
    exact ⟨this.1, this.2, hb⟩
  rw [if_neg h0]
  by_cases h1 : s.c.kind = 1
  · rw [if_pos h1]
    have := next_ok (hm.latch hv)
    exact ⟨this.1, this.2, hb⟩
  rw [if_neg h1]
  by_cases h2 : s.c.kind = 2
  · rw [if_pos h2]
    have := next_ok hm
    exact ⟨this.1, this.2, hb.write hm.ok.out⟩
  rw [if_neg h2]
  have := next_ok hm
  exact ⟨this.1, this.2, hb⟩
theorem begun_ok {s : St} (h : s.Ok) : s.begun.Ok ∧ s.begun.c.kind ≠ -1 := by
  unfold St.begun
  by_cases h0 : s.c.kind = -1
  · rw [if_pos h0]
    have hm := h.m
    refine ⟨⟨⟨{ hm.ok with g := { hm.ok.g with }, addr := hm.ok.g.pc }, hm.ahead, hm.nmi, hm.pre, hm.ix, Nat.zero_le _, Int.le_refl _, Int.le_refl _, fun i hi => absurd hi (Nat.not_lt_zero _), by show 0 ≤ (0 : Int) ∧ (0 : Int) ≤ 2; omega, hm.wait, hm.what, by show 0 ≤ (0 : Int) ∧ (0 : Int) ≤ 8; omega, by show 0 ≤ (4 : Int) ∧ (4 : Int) ≤ 8; omega⟩, ⟨.inr (.inl rfl), fun _ => by show (0 : Int) < 4; omega⟩, h.b⟩, ?_⟩
    show (0 : Int) ≠ -1
    omega
  · rw [if_neg h0]; exact ⟨h, h0⟩
theorem waitT_bd (t : Int) : 0 ≤ waitT t ∧ waitT t ≤ 6 := by unfold waitT; split <;> (try split) <;> omega
theorem hold_bd (b : Bd) (k a t : Int) : 0 ≤ b.hold k a t ∧ b.hold k a t ≤ 6 := by unfold Bd.hold; split; exact waitT_bd _; omega
theorem Mid.asked {c : Cp} {sl : Nat → Int} (h : Mid c sl) {k : Int} (hk : 0 ≤ k ∧ k ≤ 6) (u : Bool) : Mid { c with wait := k, held := u } sl :=
  ⟨{ h.ok with }, h.ahead, h.nmi, h.pre, h.ix, h.len, h.at0, h.at1, h.steps, h.second, hk, h.what, h.t, h.n⟩
theorem asked_ok {s : St} (h : s.Ok) : s.asked.Ok := by
  unfold St.asked
  split
  · exact h
  · exact ⟨h.m.asked (hold_bd _ _ _ _) true, ⟨h.y.kind, h.y.tn⟩, h.b⟩
theorem Mid.went {c : Cp} {sl : Nat → Int} (h : Mid c sl) {t n : Int} (ht : 0 ≤ t ∧ t ≤ 8) (hn : 0 ≤ n ∧ n ≤ 8) : Mid { c with held := false, t := t, n := n } sl :=
  ⟨{ h.ok with }, h.ahead, h.nmi, h.pre, h.ix, h.len, h.at0, h.at1, h.steps, h.second, h.wait, h.what, ht, hn⟩
theorem iteSt {p : Prop} [Decidable p] {P : St → Prop} {a b : St} (ha : p → P a) (hb : ¬ p → P b) : P (if p then a else b) := by
  by_cases h : p
  · rw [if_pos h]; exact ha h
  · rw [if_neg h]; exact hb h
theorem went_mid {s : St} (h : s.Ok) (hk : s.c.kind ≠ -1) : Mid s.went.c s.went.sl ∧ s.went.b = s.b ∧ s.went.c.kind = s.c.kind ∧ s.went.c.g = s.c.g ∧ s.went.c.second = s.c.second ∧ s.went.c.addr = s.c.addr ∧ s.went.c.t ≤ s.went.c.n := by
  have h1 := h.y.tn hk
  have h2 := h.m.t
  have h3 := h.m.n
  unfold St.went
  by_cases h4 : s.c.kind = 4
  · simp only [if_pos h4]
    exact ⟨h.m.went (by omega) (by omega), trivial, trivial, trivial, trivial, trivial, by omega⟩
  · simp only [if_neg h4]
    exact ⟨h.m.went (by omega) (by omega), trivial, trivial, trivial, trivial, trivial, by omega⟩
theorem tickA_ok {s : St} (h : s.Ok) (hk : s.c.kind ≠ -1) (hf : s.Fit) : s.tickA.Ok := by
  unfold St.tickA
  refine iteSt (fun hw => ?_) (fun _ => ?_)
  · have h6 := h.m.wait
    exact ⟨h.m.asked (by omega) _, ⟨h.y.kind, h.y.tn⟩, h.b⟩
  · obtain ⟨w1, w2, w3, w4, w5, w6, w7⟩ := went_mid h hk
    unfold St.done
    refine iteSt (fun ht => ?_) (fun ht => ?_)
    · refine finish_ok w1 (by rw [w2]; exact h.b) ⟨fun hx => ?_, ?_⟩
      · rw [w3] at hx; exact absurd hx hk
      · rw [w2, w3, w4, w5, w6]; exact hf.code
    · exact ⟨w1, ⟨by rw [w3]; exact h.y.kind, fun _ => by omega⟩, by rw [w2]; exact h.b⟩
theorem asked_same (s : St) : s.asked.c.kind = s.c.kind ∧ s.asked.c.g = s.c.g ∧ s.asked.c.second = s.c.second ∧ s.asked.c.addr = s.c.addr ∧ s.asked.b = s.b := by
  unfold St.asked
  split <;> exact ⟨rfl, rfl, rfl, rfl, rfl⟩
theorem begun_b (s : St) : s.begun.b = s.b := by unfold St.begun; split <;> rfl
theorem begun_fit {s : St} (h : s.Ok) (hf : s.Fit) : (s.c.kind = -1 → s.begun.asked.tickA.Ok) ∧ (s.c.kind ≠ -1 → s.begun.Fit) := by
  constructor
  · intro hk
    obtain ⟨b1, b2⟩ := begun_ok h
    have a1 := asked_ok b1
    obtain ⟨e1, e2, e3, e4, e5⟩ := asked_same s.begun
    have ht : s.begun.asked.c.t = 0 ∧ s.begun.asked.c.n = 4 ∧ s.begun.asked.c.kind = 0 := by
      unfold St.asked St.begun
      rw [if_pos hk]
      split <;> exact ⟨rfl, rfl, rfl⟩
    unfold St.tickA
    refine iteSt (fun hw => ?_) (fun _ => ?_)
    · have h6 := a1.m.wait
      exact ⟨a1.m.asked (by omega) _, ⟨a1.y.kind, a1.y.tn⟩, a1.b⟩
    · obtain ⟨w1, w2, w3, w4, w5, w6, w7⟩ := went_mid a1 (by rw [e1]; exact b2)
      have hwt : s.begun.asked.went.c.t = 1 ∧ s.begun.asked.went.c.n = 4 := by
        unfold St.went
        simp only [ht.2.2, ht.1, ht.2.1]
        exact ⟨rfl, rfl⟩
      unfold St.done
      rw [if_neg (by rw [hwt.1, hwt.2]; omega)]
      exact ⟨w1, ⟨by rw [w3]; exact a1.y.kind, fun _ => by rw [hwt.1, hwt.2]; omega⟩, by rw [w2]; exact a1.b⟩
  · intro hk
    unfold St.begun
    rw [if_neg hk]
    exact hf
theorem tick_ok {s : St} (h : s.Ok) (hf : s.Fit) : s.tick.Ok := by
  unfold St.tick
  by_cases hk : s.c.kind = -1
  · exact (begun_fit h hf).1 hk
  · have f1 := (begun_fit h hf).2 hk
    obtain ⟨b1, b2⟩ := begun_ok h
    have a1 := asked_ok b1
    obtain ⟨e1, e2, e3, e4, e5⟩ := asked_same s.begun
    refine tickA_ok a1 (by rw [e1]; exact b2) ⟨by rw [e1, e2]; exact f1.iff1, by rw [e1, e2, e3, e4, e5]; exact f1.code⟩
theorem Bd.Ok.next {b : Bd} (h : b.Ok) : b.next.Ok := by
  have h1 := h.frame; have h2 := h.t
  exact ⟨h.mem, by show 0 ≤ (if b.frame + 1 = 69888 then 0 else b.frame + 1) ∧ (if b.frame + 1 = 69888 then 0 else b.frame + 1) < 69888; split <;> omega, by show 0 ≤ (b.t + 1) % 18446744073709551616 ∧ (b.t + 1) % 18446744073709551616 < 18446744073709551616; omega⟩
theorem Bd.Ok.ear {b : Bd} (h : b.Ok) (e : Bool) : ({ b with ear := e } : Bd).Ok := ⟨h.mem, h.frame, h.t⟩
theorem St.Ok.ear {s : St} (h : s.Ok) (e : Bool) : ({ s with b := { s.b with ear := e } } : St).Ok := ⟨h.m, h.y, h.b.ear e⟩
theorem step_ok {s : St} (h : s.Ok) (hf : s.Fit) : s.step.Ok := by
  have := tick_ok (h.ear false) ⟨hf.iff1, hf.code⟩
  exact ⟨this.m, this.y, this.b.next⟩
end Sq
/- A cycle of the processor, however long it is held, comes to its end. -/
namespace Sq
open Go

/-- Boards that differ in their time, and in what time alone brings. -/
structure BEq (b d : Bd) : Prop where
  mem : d.mem = b.mem
  keys : d.keys = b.keys
  slow : d.slow = b.slow
  log : d.log = b.log
  border : d.border = b.border
  mic : d.mic = b.mic
  spk : d.spk = b.spk
  acts : d.acts = b.acts
  edges : d.edges = b.edges
theorem BEq.refl (b : Bd) : BEq b b := ⟨rfl, rfl, rfl, rfl, rfl, rfl, rfl, rfl, rfl⟩
theorem BEq.trans {a b c : Bd} (h : BEq a b) (k : BEq b c) : BEq a c :=
  ⟨k.mem.trans h.mem, k.keys.trans h.keys, k.slow.trans h.slow, k.log.trans h.log, k.border.trans h.border, k.mic.trans h.mic, k.spk.trans h.spk, k.acts.trans h.acts, k.edges.trans h.edges⟩
theorem BEq.next (b : Bd) : BEq b b.next := ⟨rfl, rfl, rfl, rfl, rfl, rfl, rfl, rfl, rfl⟩
theorem BEq.ear (b : Bd) (e : Bool) : BEq b { b with ear := e } := ⟨rfl, rfl, rfl, rfl, rfl, rfl, rfl, rfl, rfl⟩

theorem run_add : ∀ (j k : Nat) (s : St), St.run (j + k) s = St.run k (St.run j s)
  | 0, k, s => by rw [Nat.zero_add]; rfl
  | j + 1, k, s => by rw [Nat.add_right_comm]; exact run_add j k s.step
/-- So many T-states, all of which the walk bears. -/
def Fits (j : Nat) (s : St) : Prop := ∀ i, i < j → (St.run i s).Fit
theorem Fits.zero (s : St) : Fits 0 s := fun _ h => absurd h (Nat.not_lt_zero _)
theorem Fits.one {s : St} (h : s.Fit) : Fits 1 s := fun i hi => by
  have : i = 0 := by omega
  subst this; exact h
theorem Fits.add {j k : Nat} {s : St} (h : Fits j s) (h' : Fits k (St.run j s)) : Fits (j + k) s := fun i hi => by
  by_cases hij : i < j
  · exact h i hij
  · have := h' (i - j) (by omega)
    rwa [← run_add, show j + (i - j) = i from by omega] at this
theorem run_ok : ∀ (j : Nat) {s : St}, s.Ok → Fits j s → (St.run j s).Ok
  | 0, _, h, _ => h
  | j + 1, s, h, hf => run_ok j (s := s.step) (step_ok h (hf 0 (by omega))) (fun i hi => hf (i + 1) (by omega))

/-- The code that is on its way is one of those that the walk bears. -/
def CFit (c : Cp) (mem : Nat → Int) : Prop :=
  c.kind = 0 → c.g.halt = false → (0 < c.second ∨ (mem c.addr.toNat ≠ 237 ∧ mem c.addr.toNat ≠ 203)) → okCode c.second (mem c.addr.toNat) = true
theorem CFit.fit {s : St} (h : CFit s.c s.b.mem) (hk : s.c.kind ≠ -1) : s.Fit := ⟨fun h' => absurd h' hk, h⟩

/-- A T-state in which it waits. -/
theorem step_wait {s : St} (hk : s.c.kind ≠ -1) (hh : s.c.held = true) (hw : 0 < s.c.wait) :
    s.step = { s with c := { s.c with wait := s.c.wait - 1 }, b := ({ s.b with ear := false } : Bd).next } := by
  unfold St.step St.tick St.begun
  rw [if_neg (show ¬ ({ s with b := { s.b with ear := false } } : St).c.kind = -1 from hk)]
  unfold St.asked
  rw [if_pos (show ({ s with b := { s.b with ear := false } } : St).c.held = true from hh)]
  unfold St.tickA
  rw [if_pos (show 0 < ({ s with b := { s.b with ear := false } } : St).c.wait from hw)]
/-- A T-state in which it does not. -/
theorem step_go {s : St} (hk : s.c.kind ≠ -1) (hh : s.c.held = true) (hw : ¬ 0 < s.c.wait) :
    s.step = { ({ s with b := { s.b with ear := false } } : St).went.done with b := ({ s with b := { s.b with ear := false } } : St).went.done.b.next } := by
  unfold St.step St.tick St.begun
  rw [if_neg (show ¬ ({ s with b := { s.b with ear := false } } : St).c.kind = -1 from hk)]
  unfold St.asked
  rw [if_pos (show ({ s with b := { s.b with ear := false } } : St).c.held = true from hh)]
  unfold St.tickA
  rw [if_neg (show ¬ 0 < ({ s with b := { s.b with ear := false } } : St).c.wait from hw)]
/-- The first T-state asks how long. -/
theorem step_asks {s : St} (hk : s.c.kind ≠ -1) (hh : s.c.held = false) :
    s.step = ({ s with c := { s.c with wait := s.b.hold s.c.kind s.c.addr s.c.t, held := true } } : St).step := by
  unfold St.step St.tick St.begun
  rw [if_neg (show ¬ ({ s with b := { s.b with ear := false } } : St).c.kind = -1 from hk)]
  rw [if_neg (show ¬ ({ ({ s with c := { s.c with wait := s.b.hold s.c.kind s.c.addr s.c.t, held := true } } : St) with b := { s.b with ear := false } } : St).c.kind = -1 from hk)]
  unfold St.asked
  rw [if_neg (show ¬ ({ s with b := { s.b with ear := false } } : St).c.held = true from by show ¬ s.c.held = true; rw [hh]; decide)]
  rw [if_pos (show ({ ({ s with c := { s.c with wait := s.b.hold s.c.kind s.c.addr s.c.t, held := true } } : St) with b := { s.b with ear := false } } : St).c.held = true from rfl)]
  rfl

/-- It waits w T-states, then goes on by one. -/
theorem wait_run : ∀ (w : Nat) (s : St), s.c.kind ≠ -1 → s.c.held = true → s.c.wait = w → CFit s.c s.b.mem →
    ∃ b, BEq s.b b ∧ Fits (w + 1) s ∧ St.run (w + 1) s = { (⟨{ s.c with wait := 0 }, s.sl, b⟩ : St).went.done with b := (⟨{ s.c with wait := 0 }, s.sl, b⟩ : St).went.done.b.next }
  | 0, s, hk, hh, hw, hc => by
    refine ⟨{ s.b with ear := false }, BEq.ear _ _, Fits.one (hc.fit hk), ?_⟩
    show s.step = _
    rw [step_go hk hh (by omega)]
    have e : ({ s.c with wait := 0 } : Cp) = s.c := by
      have : s.c.wait = 0 := by simpa using hw
      rw [← this]
    rw [e]
  | w + 1, s, hk, hh, hw, hc => by
    have h1 := step_wait hk hh (by omega)
    obtain ⟨b, hb, hf, hr⟩ := wait_run w s.step (by rw [h1]; exact hk) (by rw [h1]; exact hh) (by rw [h1]; show s.c.wait - 1 = w; omega) (by rw [h1]; exact hc)
    refine ⟨b, ?_, ?_, ?_⟩
    · rw [h1] at hb
      exact ((BEq.ear s.b false).trans (BEq.next _)).trans hb
    · intro i hi
      cases i with
      | zero => exact hc.fit hk
      | succ i => exact hf i (by omega)
    · show St.run (w + 1) s.step = _
      rw [hr, h1]

/-- One T-state of the cycle, with the waits ahead of it. -/
theorem one_run {s : St} (hk : s.c.kind ≠ -1) (hh : s.c.held = false) (hw : s.c.wait = 0) (hc : CFit s.c s.b.mem) :
    ∃ j b, 1 ≤ j ∧ j ≤ 7 ∧ (s.c.kind ≠ 4 → s.c.t ≠ 0 → j = 1) ∧ BEq s.b b ∧ Fits j s ∧
      St.run j s = { (⟨s.c, s.sl, b⟩ : St).went.done with b := (⟨s.c, s.sl, b⟩ : St).went.done.b.next } := by
  have hB := hold_bd s.b s.c.kind s.c.addr s.c.t
  have h1 := step_asks hk hh
  have e0 : ∀ b, (⟨{ ({ s.c with wait := s.b.hold s.c.kind s.c.addr s.c.t, held := true } : Cp) with wait := 0 }, s.sl, b⟩ : St).went = (⟨s.c, s.sl, b⟩ : St).went := by
    intro b
    unfold St.went
    dsimp only
    split
    · rw [← hw]
    · rw [← hw]
  obtain ⟨b, hb, hf, hr⟩ := wait_run (s.b.hold s.c.kind s.c.addr s.c.t).toNat { s with c := { s.c with wait := s.b.hold s.c.kind s.c.addr s.c.t, held := true } } hk rfl (by show s.b.hold s.c.kind s.c.addr s.c.t = _; omega) hc
  refine ⟨(s.b.hold s.c.kind s.c.addr s.c.t).toNat + 1, b, by omega, by omega, ?_, hb, ?_, ?_⟩
  · intro h4 ht
    have : s.b.hold s.c.kind s.c.addr s.c.t = 0 := by
      unfold Bd.hold
      rw [if_neg]
      rintro ⟨_, _, h | h⟩
      · exact h4 h
      · exact ht h
    rw [this]; rfl
  · intro i hi
    cases i with
    | zero => exact hc.fit hk
    | succ i =>
      have := hf (i + 1) hi
      show (St.run i s.step).Fit
      rw [h1]; exact this
  · show St.run _ s.step = _
    rw [h1]
    have := hr
    rw [e0] at this
    exact this

/-- What the end of a cycle looks at, and what it leaves. -/
structure Cor where
  c : Cp
  sl : Nat → Int
  mem : Nat → Int
def St.core (s : St) : Cor := ⟨s.c, s.sl, s.b.mem⟩
def wmem (mem : Nat → Int) (a v : Int) : Nat → Int := if 16384 ≤ a then upd mem a.toNat v else mem
def Cor.finish (k : Cor) : Cor :=
  if k.c.kind = 0 then ⟨(k.c.fetched (k.mem k.c.addr.toNat)).next (k.c.fetchedS k.sl (k.mem k.c.addr.toNat)), k.c.fetchedS k.sl (k.mem k.c.addr.toNat), k.mem⟩
  else if k.c.kind = 1 then ⟨(k.c.latch (k.mem k.c.addr.toNat)).next k.sl, k.sl, k.mem⟩
  else if k.c.kind = 2 then ⟨k.c.next k.sl, k.sl, wmem k.mem k.c.addr k.c.out⟩
  else ⟨k.c.next k.sl, k.sl, k.mem⟩
def Cor.fin (k : Cor) : Cor := Cor.finish ⟨if k.c.kind = 4 then { k.c with held := false, n := 0, t := 0 } else { k.c with held := false, t := k.c.n }, k.sl, k.mem⟩
/-- Boards that differ in time, and in memory. -/
structure BFar (b d : Bd) : Prop where
  keys : d.keys = b.keys
  slow : d.slow = b.slow
  log : d.log = b.log
  border : d.border = b.border
  mic : d.mic = b.mic
  spk : d.spk = b.spk
  acts : d.acts = b.acts
  edges : d.edges = b.edges
theorem BFar.refl (b : Bd) : BFar b b := ⟨rfl, rfl, rfl, rfl, rfl, rfl, rfl, rfl⟩
theorem BFar.trans {a b c : Bd} (h : BFar a b) (k : BFar b c) : BFar a c :=
  ⟨k.keys.trans h.keys, k.slow.trans h.slow, k.log.trans h.log, k.border.trans h.border, k.mic.trans h.mic, k.spk.trans h.spk, k.acts.trans h.acts, k.edges.trans h.edges⟩
theorem BEq.far {b d : Bd} (h : BEq b d) : BFar b d := ⟨h.keys, h.slow, h.log, h.border, h.mic, h.spk, h.acts, h.edges⟩
theorem BFar.write (b : Bd) (a v : Int) : BFar b (b.write a v) := by unfold Bd.write; split; exact ⟨rfl, rfl, rfl, rfl, rfl, rfl, rfl, rfl⟩; exact BFar.refl b
theorem finish_core (s : St) : s.finish.core = s.core.finish ∧ BFar s.b s.finish.b := by
  unfold St.finish Cor.finish St.core
  dsimp only
  split
  · exact ⟨rfl, BFar.refl _⟩
  split
  · exact ⟨rfl, BFar.refl _⟩
  split
  · refine ⟨?_, BFar.write _ _ _⟩
    unfold Bd.write wmem
    split <;> rfl
  · exact ⟨rfl, BFar.refl _⟩

/-- A cycle that is not idle: from its T-state t on. -/
theorem cyc_run : ∀ (d : Nat) (s : St), s.c.kind ≠ -1 → s.c.kind ≠ 4 → s.c.held = false → s.c.wait = 0 → CFit s.c s.b.mem → 0 < s.c.t → s.c.n - s.c.t = d + 1 →
    ∃ j, 1 ≤ j ∧ j ≤ d + 1 ∧ Fits j s ∧ (St.run j s).core = (⟨{ s.c with held := false, t := s.c.n }, s.sl, s.b.mem⟩ : Cor).finish ∧ BFar s.b (St.run j s).b
  | 0, s, hk, h4, hh, hw, hc, ht, hd => by
    obtain ⟨j, b, j1, j7, j0, hb, hf, hr⟩ := one_run hk hh hw hc
    have hj := j0 h4 (by omega)
    refine ⟨j, j1, by omega, hf, ?_, ?_⟩
    · rw [hr]
      have e : (⟨s.c, s.sl, b⟩ : St).went = ⟨{ s.c with held := false, t := s.c.n }, s.sl, b⟩ := by
        unfold St.went; dsimp only; rw [if_neg h4, show s.c.t + 1 = s.c.n from by omega]
      rw [e]
      unfold St.done
      rw [if_pos rfl]
      have := (finish_core ⟨{ s.c with held := false, t := s.c.n }, s.sl, b⟩).1
      have e2 : (⟨{ s.c with held := false, t := s.c.n }, s.sl, b⟩ : St).core = ⟨{ s.c with held := false, t := s.c.n }, s.sl, s.b.mem⟩ := by unfold St.core; rw [hb.mem]
      rw [e2] at this
      exact this
    · rw [hr]
      have e : (⟨s.c, s.sl, b⟩ : St).went = ⟨{ s.c with held := false, t := s.c.n }, s.sl, b⟩ := by
        unfold St.went; dsimp only; rw [if_neg h4, show s.c.t + 1 = s.c.n from by omega]
      rw [e]
      unfold St.done
      rw [if_pos rfl]
      exact (BFar.trans hb.far (finish_core ⟨_, s.sl, b⟩).2).trans (BEq.next _).far
  | d + 1, s, hk, h4, hh, hw, hc, ht, hd => by
    obtain ⟨j, b, j1, j7, j0, hb, hf, hr⟩ := one_run hk hh hw hc
    have hj := j0 h4 (by omega)
    have e : (⟨s.c, s.sl, b⟩ : St).went = ⟨{ s.c with held := false, t := s.c.t + 1 }, s.sl, b⟩ := by
      unfold St.went; dsimp only; rw [if_neg h4]
    rw [e] at hr
    unfold St.done at hr
    rw [if_neg (show ¬ s.c.t + 1 = s.c.n from by omega)] at hr
    obtain ⟨k, k1, k2, kf, kc, kb⟩ := cyc_run d (St.run j s) (by rw [hr]; exact hk) (by rw [hr]; exact h4) (by rw [hr]) (by rw [hr]; exact hw) (by rw [hr]; show CFit _ b.mem; rw [hb.mem]; exact hc) (by rw [hr]; show 0 < s.c.t + 1; omega) (by rw [hr]; show s.c.n - (s.c.t + 1) = d + 1; omega)
    refine ⟨j + k, by omega, by omega, hf.add kf, ?_, ?_⟩
    · rw [run_add, kc, hr]
      show Cor.finish ⟨_, _, b.mem⟩ = _
      rw [hb.mem]
    · rw [run_add]
      refine BFar.trans ?_ kb
      rw [hr]
      exact hb.far.trans (BEq.next _).far

/-- An idle cycle. -/
theorem idle_run : ∀ (d : Nat) (s : St), s.c.kind = 4 → s.c.held = false → s.c.wait = 0 → s.c.t = 0 → s.c.n = d + 1 →
    ∃ j, 1 ≤ j ∧ j ≤ 7 * (d + 1) ∧ Fits j s ∧ (St.run j s).core = (⟨{ s.c with held := false, n := 0, t := 0 }, s.sl, s.b.mem⟩ : Cor).finish ∧ BFar s.b (St.run j s).b
  | d, s, h4, hh, hw, ht, hd => by
    have hk : s.c.kind ≠ -1 := by omega
    obtain ⟨j, b, j1, j7, j0, hb, hf, hr⟩ := one_run hk hh hw (fun h => by omega)
    have e : (⟨s.c, s.sl, b⟩ : St).went = ⟨{ s.c with held := false, n := s.c.n - 1, t := 0 }, s.sl, b⟩ := by
      unfold St.went; dsimp only; rw [if_pos h4]
    rw [e] at hr
    cases d with
    | zero =>
      unfold St.done at hr
      rw [if_pos (show (0 : Int) = s.c.n - 1 from by omega), show s.c.n - 1 = 0 from by omega] at hr
      refine ⟨j, j1, by omega, hf, ?_, ?_⟩
      · rw [hr]
        have := (finish_core ⟨{ s.c with held := false, n := 0, t := 0 }, s.sl, b⟩).1
        have e2 : (⟨{ s.c with held := false, n := 0, t := 0 }, s.sl, b⟩ : St).core = ⟨{ s.c with held := false, n := 0, t := 0 }, s.sl, s.b.mem⟩ := by unfold St.core; rw [hb.mem]
        rw [e2] at this
        exact this
      · rw [hr]
        exact (BFar.trans hb.far (finish_core ⟨_, s.sl, b⟩).2).trans (BEq.next _).far
    | succ d =>
      unfold St.done at hr
      rw [if_neg (show ¬ (0 : Int) = s.c.n - 1 from by omega)] at hr
      obtain ⟨k, k1, k2, kf, kc, kb⟩ := idle_run d (St.run j s) (by rw [hr]; exact h4) (by rw [hr]) (by rw [hr]; exact hw) (by rw [hr]) (by rw [hr]; show s.c.n - 1 = d + 1; omega)
      refine ⟨j + k, by omega, by omega, hf.add kf, ?_, ?_⟩
      · rw [run_add, kc, hr]
        show Cor.finish ⟨_, _, b.mem⟩ = _
        rw [hb.mem]
      · rw [run_add]
        refine BFar.trans ?_ kb
        rw [hr]
        exact hb.far.trans (BEq.next _).far
/-- At the beginning of a cycle. -/
structure Starts (s : St) : Prop where
  ok : s.Ok
  kind : s.c.kind ≠ -1
  held : s.c.held = false
  wait : s.c.wait = 0
  t : s.c.t = 0
/-- How long a cycle may take. -/
def most (c : Cp) : Nat := if c.kind = 4 then 7 * c.n.toNat else c.n.toNat + 6
/-- A whole cycle. -/
theorem cycle_run {s : St} (h : Starts s) (hc : CFit s.c s.b.mem) :
    ∃ j, 1 ≤ j ∧ j ≤ most s.c ∧ Fits j s ∧ (St.run j s).core = s.core.fin ∧ BFar s.b (St.run j s).b := by
  have hn := h.ok.y.tn h.kind
  rw [h.t] at hn
  unfold most Cor.fin
  by_cases h4 : s.c.kind = 4
  · obtain ⟨j, j1, j2, jf, jc, jb⟩ := idle_run (s.c.n.toNat - 1) s h4 h.held h.wait h.t (by omega)
    refine ⟨j, j1, by rw [if_pos h4]; omega, jf, ?_, jb⟩
    rw [jc, if_pos (show s.core.c.kind = 4 from h4)]
    rfl
  · rw [if_neg (show ¬ s.core.c.kind = 4 from h4), if_neg h4]
    obtain ⟨j, b, j1, j7, j0, hb, hf, hr⟩ := one_run h.kind h.held h.wait hc
    have e : (⟨s.c, s.sl, b⟩ : St).went = ⟨{ s.c with held := false, t := s.c.t + 1 }, s.sl, b⟩ := by
      unfold St.went; dsimp only; rw [if_neg h4]
    rw [e] at hr
    unfold St.done at hr
    by_cases h1 : s.c.n = 1
    · rw [if_pos (show s.c.t + 1 = s.c.n from by rw [h.t, h1]; rfl), show s.c.t + 1 = s.c.n from by rw [h.t, h1]; rfl] at hr
      refine ⟨j, j1, by omega, hf, ?_, ?_⟩
      · rw [hr]
        have := (finish_core ⟨{ s.c with held := false, t := s.c.n }, s.sl, b⟩).1
        have e2 : (⟨{ s.c with held := false, t := s.c.n }, s.sl, b⟩ : St).core = ⟨{ s.c with held := false, t := s.c.n }, s.sl, s.b.mem⟩ := by unfold St.core; rw [hb.mem]
        rw [e2] at this
        exact this
      · rw [hr]
        exact (BFar.trans hb.far (finish_core ⟨_, s.sl, b⟩).2).trans (BEq.next _).far
    · rw [if_neg (show ¬ s.c.t + 1 = s.c.n from by rw [h.t]; omega)] at hr
      obtain ⟨k, k1, k2, kf, kc, kb⟩ := cyc_run (s.c.n.toNat - 2) (St.run j s) (by rw [hr]; exact h.kind) (by rw [hr]; exact h4) (by rw [hr]) (by rw [hr]; exact h.wait) (by rw [hr]; show CFit _ b.mem; rw [hb.mem]; exact hc) (by rw [hr]; show 0 < s.c.t + 1; rw [h.t]; omega) (by rw [hr]; show s.c.n - (s.c.t + 1) = _; rw [h.t]; omega)
      refine ⟨j + k, by omega, by omega, hf.add kf, ?_, ?_⟩
      · rw [run_add, kc, hr]
        show Cor.finish ⟨_, _, b.mem⟩ = _
        rw [hb.mem]
        rfl
      · rw [run_add]
        refine BFar.trans ?_ kb
        rw [hr]
        exact hb.far.trans (BEq.next _).far
end Sq
/- The processor with its steps as a list. -/
namespace Sq
open Go

/-- The processor, its steps' place and number left out. -/
def Cp.z (c : Cp) : Cp := { c with at_ := 0, len := 0 }
def nextL : Cp → List Stp → Cp × List Stp
  | c, [] => (c.ends, [])
  | c, s :: l =>
    if s.k = 5 then nextL (c.work s.wh) l
    else if s.k = 6 then (if c.met s.wh = true then nextL c l else (c.ends, []))
    else (c.cycle s, l)
def Cp.nextC (c : Cp) (l : List Stp) : Cp × List Stp := if 0 < c.second then (c.start 0 c.g.pc 4, l) else nextL c l
structure Cl where
  c : Cp
  l : List Stp
  mem : Nat → Int
def Cp.code0 (c : Cp) (v : Int) : Cp := { c with code := v, ix := 0, ea := c.g.pair 2 0 }
def Cp.fetchedC (c : Cp) (l : List Stp) (v : Int) : Cp × List Stp :=
  if c.g.halt = true then ({ c with g := c.g.tick }, l)
  else if 0 < c.second then (({ c.counted with second := 0 } : Cp).code0 v, mProg c.second 0 v)
  else if v = 237 then ({ c.counted with second := 2 }, l)
  else if v = 203 then ({ c.counted with second := 1 }, l)
  else (c.counted.code0 v, mProg 0 0 v)
def Cl.finish (k : Cl) : Cl :=
  if k.c.kind = 0 then ⟨((k.c.fetchedC k.l (k.mem k.c.addr.toNat)).1.nextC (k.c.fetchedC k.l (k.mem k.c.addr.toNat)).2).1, ((k.c.fetchedC k.l (k.mem k.c.addr.toNat)).1.nextC (k.c.fetchedC k.l (k.mem k.c.addr.toNat)).2).2, k.mem⟩
  else if k.c.kind = 1 then ⟨((k.c.latch (k.mem k.c.addr.toNat)).nextC k.l).1, ((k.c.latch (k.mem k.c.addr.toNat)).nextC k.l).2, k.mem⟩
  else if k.c.kind = 2 then ⟨(k.c.nextC k.l).1, (k.c.nextC k.l).2, wmem k.mem k.c.addr k.c.out⟩
  else ⟨(k.c.nextC k.l).1, (k.c.nextC k.l).2, k.mem⟩
def Cl.fin (k : Cl) : Cl := Cl.finish ⟨if k.c.kind = 4 then { k.c with held := false, n := 0, t := 0 } else { k.c with held := false, t := k.c.n }, k.l, k.mem⟩

/-- One with its steps in cells, and one with them in a list. -/
structure Sim (c : Cp) (sl : Nat → Int) (d : Cp) (l : List Stp) : Prop where
  e : c.z = d
  at0 : 0 ≤ c.at_
  len : (c.len : Int) = c.at_ + l.length
  get : ∀ i (h : i < l.length), stp sl (c.at_.toNat + i) = l[i]

theorem z_ite {p : Prop} [Decidable p] (a b : Cp) : (if p then a else b).z = if p then a.z else b.z := by split <;> rfl
theorem setF_z (c : Cp) (f : Int) : (c.setF f).z = c.z.setF f := rfl
theorem z_idem (c : Cp) : c.z.z = c.z := rfl
theorem bitsC_z (c : Cp) (v fr : Int) : (c.bitsC v fr).z = c.z.bitsC v fr := by
  unfold Cp.bitsC
  simp only [z_ite]
  rfl
theorem work_z (c : Cp) (k : Int) : (c.work k).z = c.z.work k := by
  unfold Cp.work
  simp only [z_ite]
  have e1 : (c.counts k).z = c.z.counts k := by
    unfold Cp.counts
    simp only [z_ite]
    rfl
  have e2 : (c.first k).z = c.z.first k := by
    unfold Cp.first Cp.popped
    simp only [z_ite]
    rfl
  have e3 : (c.other k).z = c.z.other k := by
    unfold Cp.other
    simp only [z_ite]
    have h1 := bitsC_z c c.lo (whi c.g.wz)
    have h2 := bitsC_z c (c.g.byte (cz c.code) 0) (c.g.byte (cz c.code) 0)
    have g2 : (c.bitsC (c.g.byte (cz c.code) 0) (c.g.byte (cz c.code) 0)).g = (c.z.bitsC (c.g.byte (cz c.code) 0) (c.g.byte (cz c.code) 0)).g := by rw [← h2]; rfl
    have f1 : ({ c.bitsC c.lo (whi c.g.wz) with lo := c.bitsV c.lo } : Cp).z = { c.z.bitsC c.z.lo (whi c.z.g.wz) with lo := c.z.bitsV c.z.lo } := by
      show ({ (c.bitsC c.lo (whi c.g.wz)).z with lo := c.bitsV c.lo } : Cp) = _
      rw [h1]; rfl
    have f2 : ({ c.bitsC (c.g.byte (cz c.code) 0) (c.g.byte (cz c.code) 0) with g := (c.bitsC (c.g.byte (cz c.code) 0) (c.g.byte (cz c.code) 0)).g.putByte (cz c.code) 0 (c.bitsV (c.g.byte (cz c.code) 0)) } : Cp).z = { c.z.bitsC (c.z.g.byte (cz c.z.code) 0) (c.z.g.byte (cz c.z.code) 0) with g := (c.z.bitsC (c.z.g.byte (cz c.z.code) 0) (c.z.g.byte (cz c.z.code) 0)).g.putByte (cz c.z.code) 0 (c.z.bitsV (c.z.g.byte (cz c.z.code) 0)) } := by
      show ({ (c.bitsC (c.g.byte (cz c.code) 0) (c.g.byte (cz c.code) 0)).z with g := (c.bitsC (c.g.byte (cz c.code) 0) (c.g.byte (cz c.code) 0)).g.putByte (cz c.code) 0 (c.bitsV (c.g.byte (cz c.code) 0)) } : Cp) = _
      rw [h2, g2]; rfl
    rw [f1, f2]
    rfl
  have e4 : (c.more k).z = c.z.more k := by
    unfold Cp.more
    simp only [z_ite]
    rfl
  have e5 : (c.blocks k).z = c.z.blocks k := by
    unfold Cp.blocks
    simp only [z_ite]
    rfl
  rw [e1, e2, e3, e4, e5]
theorem met_z (c : Cp) (k : Int) : c.met k = c.z.met k := rfl
theorem placeC_z (c : Cp) (p : Int) : (c.placeC p).z = c.z.placeC p := by
  unfold Cp.placeC
  simp only [z_ite]
  rfl
theorem cycle_z (c : Cp) (s : Stp) : (c.cycle s).z = c.z.cycle s := by
  have hp := placeC_z c s.at_
  unfold Cp.cycle
  simp only [z_ite]
  have e : ∀ (a b : Cp), a.z = b.z → ∀ (w kind addr n o : Int), (({ a with what := w, port := false, out := o } : Cp).start kind addr n).z = (({ b with what := w, port := false, out := o } : Cp).start kind addr n).z := by
    intro a b h w kind addr n o
    show ({ ({ a.z with what := w, port := false, out := o } : Cp).start kind addr n with at_ := 0, len := 0 } : Cp) = _
    rw [h]; rfl
  have hz : (c.placeC s.at_).z = (c.z.placeC s.at_).z := by rw [hp, placeC_z, z_idem]
  have hself : (c.z.placeC s.at_).z = c.z.placeC s.at_ := by rw [placeC_z, z_idem]
  have ho : (c.placeC s.at_).out = (c.z.placeC s.at_).out := by rw [← hp]; rfl
  have hb : ({ c.placeC s.at_ with what := s.wh, port := false } : Cp).byteOf s.wh = ({ c.z.placeC s.at_ with what := s.wh, port := false } : Cp).byteOf s.wh := by rw [← hp]; rfl
  have e1 := e _ _ hz s.wh 4 (c.placeA s.at_) s.n (c.placeC s.at_).out
  have e2 := e _ _ hz s.wh 1 (c.placeA s.at_) s.n (c.placeC s.at_).out
  have e3 := e _ _ hz s.wh 2 (c.placeA s.at_) s.n (({ c.placeC s.at_ with what := s.wh, port := false } : Cp).byteOf s.wh)
  have i1 : (({ c.placeC s.at_ with what := s.wh, port := false } : Cp).start 4 (c.placeA s.at_) s.n).z = ({ c.z.placeC s.at_ with what := s.wh, port := false } : Cp).start 4 (c.z.placeA s.at_) s.n := by
    refine e1.trans ?_
    rw [ho, ← hself]; rfl
  have i2 : (({ c.placeC s.at_ with what := s.wh, port := false } : Cp).start 1 (c.placeA s.at_) s.n).z = ({ c.z.placeC s.at_ with what := s.wh, port := false } : Cp).start 1 (c.z.placeA s.at_) s.n := by
    refine e2.trans ?_
    rw [ho, ← hself]; rfl
  have i3 : (({ c.placeC s.at_ with what := s.wh, port := false, out := ({ c.placeC s.at_ with what := s.wh, port := false } : Cp).byteOf s.wh } : Cp).start 2 (c.placeA s.at_) s.n).z = ({ c.z.placeC s.at_ with what := s.wh, port := false, out := ({ c.z.placeC s.at_ with what := s.wh, port := false } : Cp).byteOf s.wh } : Cp).start 2 (c.z.placeA s.at_) s.n := by
    refine e3.trans ?_
    rw [hb, ← hself]; rfl
  rw [i1, i2, i3]
theorem nextF_sim : ∀ (n : Nat) {c : Cp} {sl : Nat → Int} {d : Cp} {l : List Stp}, Sim c sl d l → l.length < n → Sim (nextF n c sl) sl (nextL d l).1 (nextL d l).2 := by
  intro n
  induction n with
  | zero => intro c sl d l _ h; exact absurd h (Nat.not_lt_zero _)
  | succ n ih =>
    intro c sl d l h hn
    have hl := h.len
    have ha := h.at0
    unfold nextF
    cases l with
    | nil =>
      rw [if_pos (by simp at hl; omega)]
      unfold nextL
      exact ⟨by rw [← h.e]; rfl, ha, hl, h.get⟩
    | cons s l =>
      have hl' : (c.len : Int) = c.at_ + (l.length + 1) := by simpa using hl
      rw [if_neg (by omega)]
      have hs : stp sl c.at_.toNat = s := h.get 0 (by simp)
      have hg : ∀ i (hi : i < l.length), stp sl ((c.at_ + 1).toNat + i) = l[i] := by
        intro i hi
        have := h.get (i + 1) (by simpa using hi)
        rw [show (c.at_ + 1).toNat + i = c.at_.toNat + (i + 1) from by omega]
        simpa using this
      have h1 : Sim { c with at_ := c.at_ + 1 } sl d l := ⟨h.e, by show 0 ≤ c.at_ + 1; omega, by show (c.len : Int) = c.at_ + 1 + l.length; omega, hg⟩
      rw [hs]
      unfold nextL
      by_cases h5 : s.k = 5
      · rw [if_pos h5, if_pos h5]
        have hk := work_kept { c with at_ := c.at_ + 1 } s.wh
        refine ih ⟨?_, by rw [hk.at_]; exact h1.at0, by rw [hk.at_, hk.len]; exact h1.len, by rw [hk.at_]; exact h1.get⟩ (by simpa using hn)
        rw [work_z, h1.e]
      rw [if_neg h5, if_neg h5]
      by_cases h6 : s.k = 6
      · rw [if_pos h6, if_pos h6]
        have em : ({ c with at_ := c.at_ + 1 } : Cp).met s.wh = d.met s.wh := by rw [met_z, h1.e]
        rw [em]
        by_cases hm : d.met s.wh = true
        · rw [if_pos hm, if_pos hm]
          exact ih h1 (by simpa using hn)
        · rw [if_neg hm, if_neg hm]
          have h2 : Sim { c with at_ := (c.len : Int) } sl d [] := ⟨h.e, by show (0 : Int) ≤ c.len; omega, by show (c.len : Int) = c.len + (0 : Nat); omega, fun i hi => absurd hi (Nat.not_lt_zero _)⟩
          have := ih h2 (by simp at hn; simp; omega)
          unfold nextL at this
          exact this
      rw [if_neg h6, if_neg h6]
      have hk : (({ c with at_ := c.at_ + 1 } : Cp).cycle s).at_ = c.at_ + 1 ∧ (({ c with at_ := c.at_ + 1 } : Cp).cycle s).len = c.len := by
        unfold Cp.cycle Cp.placeC Cp.start
        split
        · split
          · exact ⟨rfl, rfl⟩
          split
          · exact ⟨rfl, rfl⟩
          split
          · exact ⟨rfl, rfl⟩
          · exact ⟨rfl, rfl⟩
        split
        · split
          · exact ⟨rfl, rfl⟩
          split
          · exact ⟨rfl, rfl⟩
          split
          · exact ⟨rfl, rfl⟩
          · exact ⟨rfl, rfl⟩
        · dsimp only
          split
          · exact ⟨rfl, rfl⟩
          split
          · exact ⟨rfl, rfl⟩
          split
          · exact ⟨rfl, rfl⟩
          · exact ⟨rfl, rfl⟩
      exact ⟨by rw [cycle_z, h1.e], by rw [hk.1]; exact h1.at0, by rw [hk.1, hk.2]; exact h1.len, by rw [hk.1]; exact hg⟩
theorem next_sim {c : Cp} {sl : Nat → Int} {d : Cp} {l : List Stp} (h : Sim c sl d l) (hl : l.length < 40) : Sim (c.next sl) sl (d.nextC l).1 (d.nextC l).2 := by
  have e : d.second = c.second := by rw [← h.e]; rfl
  unfold Cp.next Cp.nextC
  rw [e]
  by_cases h2 : 0 < c.second
  · rw [if_pos h2, if_pos h2]
    exact ⟨by rw [← h.e]; rfl, h.at0, h.len, h.get⟩
  · rw [if_neg h2, if_neg h2]
    exact nextF_sim 40 h hl
theorem prog_sim {c : Cp} {sl : Nat → Int} {d : Cp} (h : c.z = d) (set v : Int) : Sim (c.prog set 0 v) (app sl 0 (mProg set 0 v)) (d.code0 v) (mProg set 0 v) := by
  refine ⟨?_, Int.le_refl _, by show ((mProg set 0 v).length : Int) = 0 + _; omega, fun i hi => ?_⟩
  · rw [← h]; rfl
  · show stp _ ((0 : Int).toNat + i) = _
    rw [show (0 : Int).toNat + i = i from by omega]
    exact stp_app _ _ _ hi
theorem fetched_sim {c : Cp} {sl : Nat → Int} {d : Cp} {l : List Stp} (h : Sim c sl d l) (v : Int) : Sim (c.fetched v) (c.fetchedS sl v) (d.fetchedC l v).1 (d.fetchedC l v).2 := by
  have hc := h.e
  subst hc
  unfold Cp.fetched Cp.fetchedS Cp.fetchedC
  by_cases h1 : c.g.halt = true
  · rw [if_pos h1, if_pos h1, if_pos (show c.z.g.halt = true from h1)]
    exact ⟨rfl, h.at0, h.len, h.get⟩
  rw [if_neg h1, if_neg h1, if_neg (show ¬ c.z.g.halt = true from h1)]
  by_cases h2 : 0 < c.second
  · rw [if_pos h2, if_pos h2, if_pos (show 0 < c.z.second from h2)]
    exact prog_sim rfl _ _
  rw [if_neg h2, if_neg h2, if_neg (show ¬ 0 < c.z.second from h2)]
  by_cases h3 : v = 237
  · rw [if_pos h3, if_pos h3, if_pos h3]
    exact ⟨rfl, h.at0, h.len, h.get⟩
  rw [if_neg h3, if_neg h3, if_neg h3]
  by_cases h4 : v = 203
  · rw [if_pos h4, if_pos h4, if_pos h4]
    exact ⟨rfl, h.at0, h.len, h.get⟩
  rw [if_neg h4, if_neg h4, if_neg h4]
  exact prog_sim rfl _ _
/-- The two machines. -/
structure SimK (k : Cor) (u : Cl) : Prop where
  s : Sim k.c k.sl u.c u.l
  mem : k.mem = u.mem
theorem mProg_le (set v : Int) (h : okCode set v = true) : (mProg set 0 v).length ≤ 8 := by
  unfold okCode at h
  simp only [Bool.and_eq_true, decide_eq_true_eq] at h
  exact h.1.2
theorem finish_sim {k : Cor} {u : Cl} (h : SimK k u) (hl : u.l.length ≤ 8) (hc : CFit k.c k.mem) (hs : 0 ≤ k.c.second) : SimK k.finish u.finish := by
  have hm := h.mem
  have hz := h.s.e
  have ek : u.c.kind = k.c.kind := by rw [← hz]; rfl
  have ea : u.c.addr = k.c.addr := by rw [← hz]; rfl
  have eo : u.c.out = k.c.out := by rw [← hz]; rfl
  unfold Cor.finish Cl.finish
  rw [ek, ea, eo, ← hm]
  by_cases h0 : k.c.kind = 0
  · rw [if_pos h0, if_pos h0]
    have hf := fetched_sim h.s (k.mem k.c.addr.toNat)
    refine ⟨next_sim hf ?_, rfl⟩
    have e1 : u.c.g.halt = k.c.g.halt := by rw [← hz]; rfl
    have e2 : u.c.second = k.c.second := by rw [← hz]; rfl
    unfold Cp.fetchedC
    rw [e1, e2]
    by_cases h1 : k.c.g.halt = true
    · rw [if_pos h1]; dsimp only; omega
    rw [if_neg h1]
    have h1 : k.c.g.halt = false := by simpa using h1
    by_cases h2 : 0 < k.c.second
    · rw [if_pos h2]; have := mProg_le _ _ (hc h0 h1 (.inl h2)); dsimp only; omega
    rw [if_neg h2]
    by_cases h3 : k.mem k.c.addr.toNat = 237
    · rw [if_pos h3]; dsimp only; omega
    rw [if_neg h3]
    by_cases h4 : k.mem k.c.addr.toNat = 203
    · rw [if_pos h4]; dsimp only; omega
    rw [if_neg h4]
    have := mProg_le _ _ (hc h0 h1 (.inr ⟨h3, h4⟩))
    rw [show k.c.second = 0 from by omega] at this
    dsimp only; omega
  rw [if_neg h0, if_neg h0]
  by_cases h1 : k.c.kind = 1
  · rw [if_pos h1, if_pos h1]
    refine ⟨next_sim ⟨?_, ?_, ?_, ?_⟩ (by omega), rfl⟩
    · rw [← hz]; unfold Cp.latch; rw [z_ite]; rfl
    · unfold Cp.latch; split <;> exact h.s.at0
    · unfold Cp.latch; split <;> exact h.s.len
    · unfold Cp.latch; split <;> exact h.s.get
  rw [if_neg h1, if_neg h1]
  by_cases h2 : k.c.kind = 2
  · rw [if_pos h2, if_pos h2]
    exact ⟨next_sim h.s (by omega), rfl⟩
  rw [if_neg h2, if_neg h2]
  exact ⟨next_sim h.s (by omega), rfl⟩
theorem fin_sim {k : Cor} {u : Cl} (h : SimK k u) (hl : u.l.length ≤ 8) (hc : CFit k.c k.mem) (hs : 0 ≤ k.c.second) : SimK k.fin u.fin := by
  have hz := h.s.e
  have ek : u.c.kind = k.c.kind := by rw [← hz]; rfl
  unfold Cor.fin Cl.fin
  rw [ek]
  by_cases h4 : k.c.kind = 4
  · rw [if_pos h4, if_pos h4]
    exact finish_sim ⟨⟨by rw [← hz]; rfl, h.s.at0, h.s.len, h.s.get⟩, h.mem⟩ hl hc hs
  · rw [if_neg h4, if_neg h4]
    exact finish_sim ⟨⟨by rw [← hz]; rfl, h.s.at0, h.s.len, h.s.get⟩, h.mem⟩ hl hc hs
end Sq
/- An instruction, from its beginning to its end, however long it is held. -/
namespace Sq
open Go

/-- What a program knows of the processor and the memory. -/
structure Ar where
  a : Int
  f : Int
  b : Int
  c : Int
  d : Int
  e : Int
  h : Int
  l : Int
  sp : Int
  pc : Int
  mem : Nat → Int
/-- The machine stands between two instructions (not halted, no interrupts), its registers and its memory being these. -/
structure At (s : St) (A : Ar) : Prop where
  ok : s.Ok
  kind : s.c.kind = -1
  held : s.c.held = false
  wait : s.c.wait = 0
  halt : s.c.g.halt = false
  iff1 : s.c.g.iff1 = false
  a : s.c.g.a = A.a
  f : s.c.g.f = A.f
  b : s.c.g.b = A.b
  c : s.c.g.c = A.c
  d : s.c.g.d = A.d
  e : s.c.g.e = A.e
  h : s.c.g.h = A.h
  l : s.c.g.l = A.l
  sp : s.c.g.sp = A.sp
  pc : s.c.g.pc = A.pc
  mem : s.b.mem = A.mem

/-- Within so many T-states the machine comes to this. -/
structure Runs (B : Nat) (s : St) (u : Cl) : Prop where
  ex : ∃ j, 1 ≤ j ∧ j ≤ B ∧ Fits j s ∧ (St.run j s).Ok ∧ SimK (St.run j s).core u ∧ BFar s.b (St.run j s).b
theorem Runs.len {B : Nat} {s : St} {u : Cl} (h : Runs B s u) : u.l.length ≤ 8 := by
  obtain ⟨j, _, _, _, ho, hs, _⟩ := h.ex
  have h1 := hs.s.len
  have h2 := ho.m.len
  have h3 := hs.s.at0
  have e : (St.run j s).core.c = (St.run j s).c := rfl
  rw [e] at h1 h3
  omega
theorem Runs.more {B : Nat} {s : St} {u : Cl} (h : Runs B s u) (hk : u.c.kind ≠ -1) (hh : u.c.held = false) (hw : u.c.wait = 0) (ht : u.c.t = 0) (hc : CFit u.c u.mem) (M : Nat) (hM : most u.c ≤ M) : Runs (B + M) s u.fin := by
  have hl := h.len
  obtain ⟨j, j1, j2, jf, ho, hs, hb⟩ := h.ex
  have hz := hs.s.e
  have e1 : (St.run j s).c.kind = u.c.kind := by rw [← hz]; rfl
  have e2 : (St.run j s).c.held = u.c.held := by rw [← hz]; rfl
  have e3 : (St.run j s).c.wait = u.c.wait := by rw [← hz]; rfl
  have e4 : (St.run j s).c.t = u.c.t := by rw [← hz]; rfl
  have e5 : most (St.run j s).c = most u.c := by rw [← hz]; rfl
  have hc' : CFit (St.run j s).c (St.run j s).b.mem := by
    have hm : (St.run j s).b.mem = u.mem := hs.mem
    rw [hm]
    rw [← hz] at hc
    exact hc
  obtain ⟨k, k1, k2, kf, kc, kb⟩ := cycle_run (s := St.run j s) ⟨ho, by rw [e1]; exact hk, by rw [e2]; exact hh, by rw [e3]; exact hw, by rw [e4]; exact ht⟩ hc'
  refine ⟨j + k, by omega, by omega, jf.add kf, ?_, ?_, ?_⟩
  · rw [run_add]; exact run_ok k ho kf
  · rw [run_add, kc]
    exact fin_sim hs hl hc' ho.m.second.1
  · rw [run_add]; exact hb.trans kb
theorem begin_step {s : St} (hk : s.c.kind = -1) : s.step = s.begun.step := by
  have h1 : ∀ u : St, u.c.kind = -1 → u.begun.begun = u.begun := by
    intro u hu
    unfold St.begun
    rw [if_pos hu]
    rw [if_neg (show ¬ ({ u with c := u.c.begin } : St).c.kind = -1 from by show ¬ (0 : Int) = -1; omega)]
  have h2 : ({ s.begun with b := { s.begun.b with ear := false } } : St) = ({ s with b := { s.b with ear := false } } : St).begun := by
    unfold St.begun
    rw [if_pos hk, if_pos (show ({ s with b := { s.b with ear := false } } : St).c.kind = -1 from hk)]
  unfold St.step St.tick
  rw [h2, h1 ({ s with b := { s.b with ear := false } } : St) hk]
theorem At.starts {s : St} {A : Ar} (h : At s A) (hc : CFit s.c.begin s.b.mem) : Runs 10 s (Cl.fin ⟨s.c.begin.z, [], s.b.mem⟩) := by
  have hb := begun_ok h.ok
  have e : s.begun = { s with c := s.c.begin } := by unfold St.begun; rw [if_pos h.kind]
  rw [e] at hb
  obtain ⟨j, j1, j2, jf, jc, jb⟩ := cycle_run (s := { s with c := s.c.begin }) ⟨hb.1, hb.2, rfl, h.wait, rfl⟩ hc
  have hr : St.run j s = St.run j { s with c := s.c.begin } := by
    cases j with
    | zero => omega
    | succ j =>
      show St.run j s.step = St.run j (St.step _)
      rw [begin_step h.kind, e]
  have jf' : Fits j s := by
    intro i hi
    cases i with
    | zero => exact ⟨fun _ => h.iff1, fun h0 => by have := h.kind; have h0 : s.c.kind = 0 := h0; omega⟩
    | succ i =>
      have := jf (i + 1) hi
      show (St.run i s.step).Fit
      rw [begin_step h.kind, e]
      exact this
  refine ⟨j, j1, j2, jf', run_ok j h.ok jf', ?_, ?_⟩
  · rw [hr, jc]
    refine fin_sim ⟨⟨rfl, Int.le_refl _, rfl, fun i hi => absurd hi (Nat.not_lt_zero _)⟩, rfl⟩ (Nat.zero_le _) hc (Int.le_refl _)
  · rw [hr]; exact jb
/-- From one place of a program to the next. -/
structure Reach (B : Nat) (s : St) (A : Ar) : Prop where
  ex : ∃ j, j ≤ B ∧ Fits j s ∧ At (St.run j s) A ∧ BFar s.b (St.run j s).b
theorem At.reach {s : St} {A : Ar} (h : At s A) : Reach 0 s A := ⟨0, Nat.le_refl _, Fits.zero _, h, BFar.refl _⟩
theorem Reach.trans {B C : Nat} {s : St} {A A' : Ar} (h : Reach B s A) (k : ∀ s', At s' A → Reach C s' A') : Reach (B + C) s A' := by
  obtain ⟨i, hi, hf, ha, hb⟩ := h.ex
  obtain ⟨j, hj, hf', ha', hb'⟩ := (k _ ha).ex
  exact ⟨i + j, by omega, hf.add hf', by rw [run_add]; exact ha', by rw [run_add]; exact hb.trans hb'⟩
theorem Reach.mono {B C : Nat} {s : St} {A : Ar} (h : Reach B s A) (hBC : B ≤ C) : Reach C s A := by
  obtain ⟨i, hi, hf, ha, hb⟩ := h.ex
  exact ⟨i, by omega, hf, ha, hb⟩
/-- The end of an instruction. -/
theorem Runs.ends {B : Nat} {s : St} {u : Cl} (h : Runs B s u) {A : Ar} (hk : u.c.kind = -1) (hh : u.c.held = false) (hw : u.c.wait = 0) (hl : u.c.g.halt = false) (hi : u.c.g.iff1 = false)
    (ha : u.c.g.a = A.a) (hf : u.c.g.f = A.f) (hb : u.c.g.b = A.b) (hc : u.c.g.c = A.c) (hd : u.c.g.d = A.d) (he : u.c.g.e = A.e) (hH : u.c.g.h = A.h) (hL : u.c.g.l = A.l) (hsp : u.c.g.sp = A.sp) (hpc : u.c.g.pc = A.pc) (hm : u.mem = A.mem) : Reach B s A := by
  obtain ⟨j, j1, j2, jf, ho, hs, jb⟩ := h.ex
  have hz := hs.s.e
  have e1 : (St.run j s).c.kind = u.c.kind := by rw [← hz]; rfl
  have e2 : (St.run j s).c.held = u.c.held := by rw [← hz]; rfl
  have e3 : (St.run j s).c.wait = u.c.wait := by rw [← hz]; rfl
  have e4 : (St.run j s).c.g = u.c.g := by rw [← hz]; rfl
  exact ⟨j, j2, jf, ⟨ho, e1.trans hk, e2.trans hh, e3.trans hw, by rw [e4]; exact hl, by rw [e4]; exact hi, by rw [e4]; exact ha, by rw [e4]; exact hf, by rw [e4]; exact hb, by rw [e4]; exact hc, by rw [e4]; exact hd, by rw [e4]; exact he, by rw [e4]; exact hH, by rw [e4]; exact hL, by rw [e4]; exact hsp, by rw [e4]; exact hpc, hs.mem.trans hm⟩, jb⟩

/-- The registers' numbers are in their bounds. -/
structure Ar.Ok (A : Ar) : Prop where
  a : 0 ≤ A.a ∧ A.a < 256
  f : 0 ≤ A.f ∧ A.f < 256
  b : 0 ≤ A.b ∧ A.b < 256
  c : 0 ≤ A.c ∧ A.c < 256
  d : 0 ≤ A.d ∧ A.d < 256
  e : 0 ≤ A.e ∧ A.e < 256
  h : 0 ≤ A.h ∧ A.h < 256
  l : 0 ≤ A.l ∧ A.l < 256
  sp : 0 ≤ A.sp ∧ A.sp < 65536
  pc : 0 ≤ A.pc ∧ A.pc < 65536
  mem : ∀ i, 0 ≤ A.mem i ∧ A.mem i < 256
theorem At.aok {s : St} {A : Ar} (h : At s A) : A.Ok := by
  have g := h.ok.m.ok.g
  exact ⟨by rw [← h.a]; exact g.a, by rw [← h.f]; exact g.f, by rw [← h.b]; exact g.b, by rw [← h.c]; exact g.c, by rw [← h.d]; exact g.d, by rw [← h.e]; exact g.e, by rw [← h.h]; exact g.h, by rw [← h.l]; exact g.l, by rw [← h.sp]; exact g.sp, by rw [← h.pc]; exact g.pc, by rw [← h.mem]; exact h.ok.b.mem⟩
end Sq
/- The codes: what each leaves, the first codes. -/
namespace Sq
open Go

/-- A code has been fetched, its steps are to come. -/
def Cp.fet (c : Cp) (v : Int) : Cp :=
  { c with at_ := 0, len := 0, second := 0, wrote := false, kind := 0, addr := c.g.pc, n := 4, t := 4, held := false, g := { c.g with hold := false, r := c.g.tick.r, pc := (c.g.pc + 1) % 65536 }, code := v, ix := 0, ea := wd c.g.h c.g.l }
theorem fetch_fin (c : Cp) (mem : Nat → Int) (v : Int) (hm : mem c.g.pc.toNat = v) (hh : c.g.halt = false) (h1 : v ≠ 237) (h2 : v ≠ 203) :
    Cl.fin ⟨c.begin.z, [], mem⟩ = ⟨(nextL (c.fet v) (mProg 0 0 v)).1, (nextL (c.fet v) (mProg 0 0 v)).2, mem⟩ := by
  have hm' : mem c.begin.z.addr.toNat = v := hm
  unfold Cl.fin Cl.finish
  rw [if_neg (show ¬ (⟨c.begin.z, [], mem⟩ : Cl).c.kind = 4 from by show ¬ (0 : Int) = 4; omega)]
  rw [if_pos (show (⟨{ c.begin.z with held := false, t := c.begin.z.n }, [], mem⟩ : Cl).c.kind = 0 from rfl)]
  dsimp only
  rw [hm']
  have e : ({ c.begin.z with held := false, t := c.begin.z.n } : Cp).fetchedC [] v = (c.fet v, mProg 0 0 v) := by
    unfold Cp.fetchedC
    rw [if_neg (show ¬ ({ c.begin.z with held := false, t := c.begin.z.n } : Cp).g.halt = true from by show ¬ c.g.halt = true; rw [hh]; decide)]
    rw [if_neg (show ¬ 0 < ({ c.begin.z with held := false, t := c.begin.z.n } : Cp).second from by show ¬ (0 : Int) < 0; omega)]
    rw [if_neg h1, if_neg h2]
    rfl
  rw [e]
  have e2 : (c.fet v).nextC (mProg 0 0 v) = nextL (c.fet v) (mProg 0 0 v) := by
    unfold Cp.nextC
    rw [if_neg (show ¬ 0 < (c.fet v).second from by show ¬ (0 : Int) < 0; omega)]
  dsimp only
  rw [e2]
theorem At.fetch {s : St} {A : Ar} (h : At s A) (v : Int) (hm : A.mem A.pc.toNat = v) (h1 : v ≠ 237) (h2 : v ≠ 203) (hk : okCode 0 v = true) :
    Runs 10 s ⟨(nextL (s.c.fet v) (mProg 0 0 v)).1, (nextL (s.c.fet v) (mProg 0 0 v)).2, A.mem⟩ := by
  have hm' : s.b.mem s.c.g.pc.toNat = v := by rw [h.mem, h.pc]; exact hm
  have := h.starts (fun _ _ _ => by
    show okCode 0 (s.b.mem s.c.g.pc.toNat) = true
    rw [hm']; exact hk)
  rw [fetch_fin _ _ v hm' h.halt h1 h2, h.mem] at this
  exact this
end Sq
/- Cycles of an instruction, one by one. -/
namespace Sq
open Go
/-- What a read's end leaves, what an idle's, what a write's. -/
def Cp.rd (c : Cp) (p wh n : Int) (mem : Nat → Int) : Cp := ({ c.cycle ⟨1, p, wh, n⟩ with held := false, t := n } : Cp).latch (mem (c.placeA p).toNat)
def Cp.idle (c : Cp) (p wh n : Int) : Cp := { c.cycle ⟨0, p, wh, n⟩ with held := false, n := 0, t := 0 }
def Cp.wr (c : Cp) (p wh n : Int) : Cp := { c.cycle ⟨2, p, wh, n⟩ with held := false, t := n }
theorem placeC_second (c : Cp) (p : Int) : (c.placeC p).second = c.second := by unfold Cp.placeC; split; rfl; split; rfl; split <;> rfl
theorem placeC_wait (c : Cp) (p : Int) : (c.placeC p).wait = c.wait := by unfold Cp.placeC; split; rfl; split; rfl; split <;> rfl
theorem nextC_zero {c : Cp} (h : c.second = 0) (l : List Stp) : c.nextC l = nextL c l := by
  unfold Cp.nextC; rw [if_neg (by omega)]
theorem latch_second (c : Cp) (v : Int) : (c.latch v).second = c.second := by unfold Cp.latch; split <;> rfl
theorem Runs.read {B : Nat} {s : St} {c : Cp} {p wh n : Int} {l : List Stp} {mem : Nat → Int} (h : Runs B s ⟨c.cycle ⟨1, p, wh, n⟩, l, mem⟩) (hs : c.second = 0) (hw : c.wait = 0) (M : Nat) (hM : n.toNat + 6 ≤ M) :
    Runs (B + M) s ⟨(nextL (c.rd p wh n mem) l).1, (nextL (c.rd p wh n mem) l).2, mem⟩ := by
  have e : c.cycle ⟨1, p, wh, n⟩ = ({ c.placeC p with what := wh, port := false } : Cp).start 1 (c.placeA p) n := rfl
  have h1 := h.more (by rw [e]; show (1 : Int) ≠ -1; omega) (by rw [e]; rfl) (by rw [e]; exact (placeC_wait c p).trans hw) (by rw [e]; rfl)
    (fun hk => by rw [e] at hk; have hk : (1 : Int) = 0 := hk; omega) M (by rw [e]; unfold most; rw [if_neg (by show ¬ (1 : Int) = 4; omega)]; exact hM)
  have e2 : Cl.fin ⟨c.cycle ⟨1, p, wh, n⟩, l, mem⟩ = ⟨((c.rd p wh n mem).nextC l).1, ((c.rd p wh n mem).nextC l).2, mem⟩ := rfl
  rw [e2, nextC_zero (by unfold Cp.rd; rw [latch_second]; exact (placeC_second c p).trans hs)] at h1
  exact h1
theorem Runs.idle {B : Nat} {s : St} {c : Cp} {p wh n : Int} {l : List Stp} {mem : Nat → Int} (h : Runs B s ⟨c.cycle ⟨0, p, wh, n⟩, l, mem⟩) (hs : c.second = 0) (hw : c.wait = 0) (M : Nat) (hM : 7 * n.toNat ≤ M) :
    Runs (B + M) s ⟨(nextL (c.idle p wh n) l).1, (nextL (c.idle p wh n) l).2, mem⟩ := by
  have e : c.cycle ⟨0, p, wh, n⟩ = ({ c.placeC p with what := wh, port := false } : Cp).start 4 (c.placeA p) n := rfl
  have h1 := h.more (by rw [e]; show (4 : Int) ≠ -1; omega) (by rw [e]; rfl) (by rw [e]; exact (placeC_wait c p).trans hw) (by rw [e]; rfl)
    (fun hk => by rw [e] at hk; have hk : (4 : Int) = 0 := hk; omega) M (by rw [e]; unfold most; rw [if_pos (by rfl)]; exact hM)
  have e2 : Cl.fin ⟨c.cycle ⟨0, p, wh, n⟩, l, mem⟩ = ⟨((c.idle p wh n).nextC l).1, ((c.idle p wh n).nextC l).2, mem⟩ := rfl
  rw [e2, nextC_zero (show (c.idle p wh n).second = 0 from (placeC_second c p).trans hs)] at h1
  exact h1
theorem Runs.write {B : Nat} {s : St} {c : Cp} {p wh n : Int} {l : List Stp} {mem : Nat → Int} (h : Runs B s ⟨c.cycle ⟨2, p, wh, n⟩, l, mem⟩) (hs : c.second = 0) (hw : c.wait = 0) (M : Nat) (hM : n.toNat + 6 ≤ M) :
    Runs (B + M) s ⟨(nextL (c.wr p wh n) l).1, (nextL (c.wr p wh n) l).2, wmem mem (c.placeA p) (c.wr p wh n).out⟩ := by
  have e : c.cycle ⟨2, p, wh, n⟩ = ({ c.placeC p with what := wh, port := false, out := ({ c.placeC p with what := wh, port := false } : Cp).byteOf wh } : Cp).start 2 (c.placeA p) n := rfl
  have h1 := h.more (by rw [e]; show (2 : Int) ≠ -1; omega) (by rw [e]; rfl) (by rw [e]; exact (placeC_wait c p).trans hw) (by rw [e]; rfl)
    (fun hk => by rw [e] at hk; have hk : (2 : Int) = 0 := hk; omega) M (by rw [e]; unfold most; rw [if_neg (by show ¬ (2 : Int) = 4; omega)]; exact hM)
  have e2 : Cl.fin ⟨c.cycle ⟨2, p, wh, n⟩, l, mem⟩ = ⟨((c.wr p wh n).nextC l).1, ((c.wr p wh n).nextC l).2, wmem mem (c.placeA p) (c.wr p wh n).out⟩ := rfl
  rw [e2, nextC_zero (show (c.wr p wh n).second = 0 from (placeC_second c p).trans hs)] at h1
  exact h1
/-- Steps that need no cycle. -/
theorem nextL_work (c : Cp) (p wh n : Int) (l : List Stp) : nextL c (⟨5, p, wh, n⟩ :: l) = nextL (c.work wh) l := rfl
theorem nextL_idle (c : Cp) (p wh n : Int) (l : List Stp) : nextL c (⟨0, p, wh, n⟩ :: l) = (c.cycle ⟨0, p, wh, n⟩, l) := rfl
theorem nextL_read (c : Cp) (p wh n : Int) (l : List Stp) : nextL c (⟨1, p, wh, n⟩ :: l) = (c.cycle ⟨1, p, wh, n⟩, l) := rfl
theorem nextL_write (c : Cp) (p wh n : Int) (l : List Stp) : nextL c (⟨2, p, wh, n⟩ :: l) = (c.cycle ⟨2, p, wh, n⟩, l) := rfl
theorem nextL_end (c : Cp) : nextL c [] = (c.ends, []) := rfl
theorem nextL_yes {c : Cp} {p wh n : Int} {l : List Stp} (h : c.met wh = true) : nextL c (⟨6, p, wh, n⟩ :: l) = nextL c l := by
  show (if c.met wh = true then nextL c l else (c.ends, [])) = _
  rw [if_pos h]
theorem nextL_no {c : Cp} {p wh n : Int} {l : List Stp} (h : c.met wh = false) : nextL c (⟨6, p, wh, n⟩ :: l) = (c.ends, []) := by
  show (if c.met wh = true then nextL c l else (c.ends, [])) = _
  rw [if_neg (by rw [h]; decide)]
theorem work_1 (c : Cp) : c.work 1 = { c with g := { c.g with b := (c.g.b - 1) % 256 } } := by simp [Cp.work, isCount, Cp.first]
theorem work_2 (c : Cp) : c.work 2 = { c with g := { c.g with pc := wplus c.g.pc c.lo, wz := wplus c.g.pc c.lo } } := by simp [Cp.work, isCount, Cp.first]
theorem work_3 (c : Cp) : c.work 3 = { c with g := c.g.putPair (cp c.code) c.ix c.word } := by simp [Cp.work, isCount, Cp.first]
theorem work_4 (c : Cp) : c.work 4 = ({ c with g := ({ c.g with wz := (c.g.pair 2 c.ix + 1) % 65536 }).putPair 2 c.ix (wAdd (c.g.pair 2 c.ix) (c.g.pair (cp c.code) c.ix) c.g.f).1 } : Cp).setF (wAdd (c.g.pair 2 c.ix) (c.g.pair (cp c.code) c.ix) c.g.f).2 := by simp [Cp.work, isCount, Cp.first]
theorem work_11 (c : Cp) : c.work 11 = { c with g := c.g.putPair (cp c.code) c.ix ((c.g.pair (cp c.code) c.ix + 1) % 65536) } := by simp [Cp.work, isCount, Cp.first]
theorem work_13 (c : Cp) : c.work 13 = ({ c with g := c.g.putByte (cy c.code) c.ix (aInc (c.g.byte (cy c.code) c.ix) c.g.f).1 } : Cp).setF (aInc (c.g.byte (cy c.code) c.ix) c.g.f).2 := by simp [Cp.work, isCount, Cp.counts]
theorem work_14 (c : Cp) : c.work 14 = ({ c with g := c.g.putByte (cy c.code) c.ix (aDec (c.g.byte (cy c.code) c.ix) c.g.f).1 } : Cp).setF (aDec (c.g.byte (cy c.code) c.ix) c.g.f).2 := by simp [Cp.work, isCount, Cp.counts]
theorem work_17 (c : Cp) : c.work 17 = { c with g := c.g.putByte (cy c.code) c.plain c.lo } := by simp [Cp.work, isCount, Cp.counts]
theorem work_19 (c : Cp) : c.work 19 = ({ c with g := { c.g with a := c.acc.1 } } : Cp).setF c.acc.2 := by simp [Cp.work, isCount, Cp.counts]
theorem work_20 (c : Cp) : c.work 20 = { c with g := { c.g with halt := true } } := by simp [Cp.work, isCount, Cp.counts]
theorem work_23 (c : Cp) : c.work 23 = ({ c with g := { c.g with a := (aDo (cy c.code) c.g.a (c.g.byte (cz c.code) c.ix) c.g.f).1 } } : Cp).setF (aDo (cy c.code) c.g.a (c.g.byte (cz c.code) c.ix) c.g.f).2 := by simp [Cp.work, isCount, Cp.counts]
end Sq
/- The codes of the quotients' program. -/
namespace Sq
open Go
section
variable {s : St} {A : Ar} (h : At s A)
include h
theorem At.xorA (hm : A.mem A.pc.toNat = 175) : Reach 10 s { A with a := (aDo 5 A.a A.a A.f).1, f := (aDo 5 A.a A.a A.f).2, pc := (A.pc + 1) % 65536 } := by
  have H := h.fetch 175 hm (by decide) (by decide) (by decide)
  rw [show mProg 0 0 175 = [⟨5, 0, 23, 0⟩] from rfl, nextL_work, work_23] at H
  refine H.ends ?_ ?_ ?_ ?_ ?_ ?_ ?_ ?_ ?_ ?_ ?_ ?_ ?_ ?_ ?_ ?_ 
  all_goals simp [nextL, Cp.ends, Cp.setF, Cp.fet, Cp.rd, Cp.idle, Cp.wr, Cp.cycle, Cp.placeC, Cp.placeA, Cp.start, Cp.latch, Cp.plain, Cp.acc, opMem, h.wait, h.halt, h.iff1, h.a, h.f, h.b, h.c, h.d, h.e, h.h, h.l, h.sp, h.pc, cx, cy, cz, cp, Rg.byte, Rg.putByte, Rg.pair, Rg.putPair]
theorem At.cpD (hm : A.mem A.pc.toNat = 186) : Reach 10 s { A with a := (aDo 7 A.a A.d A.f).1, f := (aDo 7 A.a A.d A.f).2, pc := (A.pc + 1) % 65536 } := by
  have H := h.fetch 186 hm (by decide) (by decide) (by decide)
  rw [show mProg 0 0 186 = [⟨5, 0, 23, 0⟩] from rfl, nextL_work, work_23] at H
  refine H.ends ?_ ?_ ?_ ?_ ?_ ?_ ?_ ?_ ?_ ?_ ?_ ?_ ?_ ?_ ?_ ?_ 
  all_goals simp [nextL, Cp.ends, Cp.setF, Cp.fet, Cp.rd, Cp.idle, Cp.wr, Cp.cycle, Cp.placeC, Cp.placeA, Cp.start, Cp.latch, Cp.plain, Cp.acc, opMem, h.wait, h.halt, h.iff1, h.a, h.f, h.b, h.c, h.d, h.e, h.h, h.l, h.sp, h.pc, cx, cy, cz, cp, Rg.byte, Rg.putByte, Rg.pair, Rg.putPair]
theorem At.subD (hm : A.mem A.pc.toNat = 146) : Reach 10 s { A with a := (aDo 2 A.a A.d A.f).1, f := (aDo 2 A.a A.d A.f).2, pc := (A.pc + 1) % 65536 } := by
  have H := h.fetch 146 hm (by decide) (by decide) (by decide)
  rw [show mProg 0 0 146 = [⟨5, 0, 23, 0⟩] from rfl, nextL_work, work_23] at H
  refine H.ends ?_ ?_ ?_ ?_ ?_ ?_ ?_ ?_ ?_ ?_ ?_ ?_ ?_ ?_ ?_ ?_ 
  all_goals simp [nextL, Cp.ends, Cp.setF, Cp.fet, Cp.rd, Cp.idle, Cp.wr, Cp.cycle, Cp.placeC, Cp.placeA, Cp.start, Cp.latch, Cp.plain, Cp.acc, opMem, h.wait, h.halt, h.iff1, h.a, h.f, h.b, h.c, h.d, h.e, h.h, h.l, h.sp, h.pc, cx, cy, cz, cp, Rg.byte, Rg.putByte, Rg.pair, Rg.putPair]
theorem At.incL (hm : A.mem A.pc.toNat = 44) : Reach 10 s { A with l := (aInc A.l A.f).1, f := (aInc A.l A.f).2, pc := (A.pc + 1) % 65536 } := by
  have H := h.fetch 44 hm (by decide) (by decide) (by decide)
  rw [show mProg 0 0 44 = [⟨5, 0, 13, 0⟩] from rfl, nextL_work, work_13] at H
  refine H.ends ?_ ?_ ?_ ?_ ?_ ?_ ?_ ?_ ?_ ?_ ?_ ?_ ?_ ?_ ?_ ?_ 
  all_goals simp [nextL, Cp.ends, Cp.setF, Cp.fet, Cp.rd, Cp.idle, Cp.wr, Cp.cycle, Cp.placeC, Cp.placeA, Cp.start, Cp.latch, Cp.plain, Cp.acc, opMem, h.wait, h.halt, h.iff1, h.a, h.f, h.b, h.c, h.d, h.e, h.h, h.l, h.sp, h.pc, cx, cy, cz, cp, Rg.byte, Rg.putByte, Rg.pair, Rg.putPair]
theorem At.rla (hm : A.mem A.pc.toNat = 23) : Reach 10 s { A with a := (tAcc 2 A.a A.f).1, f := (tAcc 2 A.a A.f).2, pc := (A.pc + 1) % 65536 } := by
  have H := h.fetch 23 hm (by decide) (by decide) (by decide)
  rw [show mProg 0 0 23 = [⟨5, 0, 19, 0⟩] from rfl, nextL_work, work_19] at H
  refine H.ends ?_ ?_ ?_ ?_ ?_ ?_ ?_ ?_ ?_ ?_ ?_ ?_ ?_ ?_ ?_ ?_ 
  all_goals simp [nextL, Cp.ends, Cp.setF, Cp.fet, Cp.rd, Cp.idle, Cp.wr, Cp.cycle, Cp.placeC, Cp.placeA, Cp.start, Cp.latch, Cp.plain, Cp.acc, opMem, h.wait, h.halt, h.iff1, h.a, h.f, h.b, h.c, h.d, h.e, h.h, h.l, h.sp, h.pc, cx, cy, cz, cp, Rg.byte, Rg.putByte, Rg.pair, Rg.putPair]
theorem At.ldB (hm : A.mem A.pc.toNat = 6) : Reach 19 s { A with b := A.mem ((A.pc + 1) % 65536).toNat, pc := ((A.pc + 1) % 65536 + 1) % 65536 } := by
  have H := h.fetch 6 hm (by decide) (by decide) (by decide)
  rw [show mProg 0 0 6 = [⟨1, 0, 0, 3⟩, ⟨5, 0, 17, 0⟩] from rfl, nextL_read] at H
  have H := Runs.read H rfl h.wait 9 (by decide)
  rw [nextL_work, work_17] at H
  refine H.ends ?_ ?_ ?_ ?_ ?_ ?_ ?_ ?_ ?_ ?_ ?_ ?_ ?_ ?_ ?_ ?_ 
  all_goals simp [nextL, Cp.ends, Cp.setF, Cp.fet, Cp.rd, Cp.idle, Cp.wr, Cp.cycle, Cp.placeC, Cp.placeA, Cp.start, Cp.latch, Cp.plain, Cp.acc, opMem, h.wait, h.halt, h.iff1, h.a, h.f, h.b, h.c, h.d, h.e, h.h, h.l, h.sp, h.pc, cx, cy, cz, cp, Rg.byte, Rg.putByte, Rg.pair, Rg.putPair]
theorem At.addHL (hm : A.mem A.pc.toNat = 41) : Reach 59 s { A with h := whi (wAdd (wd A.h A.l) (wd A.h A.l) A.f).1, l := wlo (wAdd (wd A.h A.l) (wd A.h A.l) A.f).1, f := (wAdd (wd A.h A.l) (wd A.h A.l) A.f).2, pc := (A.pc + 1) % 65536 } := by
  have H := h.fetch 41 hm (by decide) (by decide) (by decide)
  rw [show mProg 0 0 41 = [⟨0, 8, 0, 7⟩, ⟨5, 0, 4, 0⟩] from rfl, nextL_idle] at H
  have H := Runs.idle H rfl h.wait 49 (by decide)
  rw [nextL_work, work_4] at H
  refine H.ends ?_ ?_ ?_ ?_ ?_ ?_ ?_ ?_ ?_ ?_ ?_ ?_ ?_ ?_ ?_ ?_ 
  all_goals simp [nextL, Cp.ends, Cp.setF, Cp.fet, Cp.rd, Cp.idle, Cp.wr, Cp.cycle, Cp.placeC, Cp.placeA, Cp.start, Cp.latch, Cp.plain, Cp.acc, opMem, h.wait, h.halt, h.iff1, h.a, h.f, h.b, h.c, h.d, h.e, h.h, h.l, h.sp, h.pc, cx, cy, cz, cp, Rg.byte, Rg.putByte, Rg.pair, Rg.putPair]
theorem At.jrCN (hm : A.mem A.pc.toNat = 56) (hc : fHas A.f 1 = false) : Reach 19 s { A with pc := ((A.pc + 1) % 65536 + 1) % 65536 } := by
  have H := h.fetch 56 hm (by decide) (by decide) (by decide)
  rw [show mProg 0 0 56 = [⟨1, 0, 0, 3⟩, ⟨6, 0, 1, 0⟩, ⟨0, 9, 0, 5⟩, ⟨5, 0, 2, 0⟩] from rfl, nextL_read] at H
  have H := Runs.read H rfl h.wait 9 (by decide)
  have hmet : ((s.c.fet 56).rd 0 0 3 A.mem).met 1 = false := by
    show fCond s.c.g.f (cy 56 - 4) = false
    rw [h.f, show fCond A.f (cy 56 - 4) = (fHas A.f 1 == true) from rfl, hc]; rfl
  rw [nextL_no hmet] at H
  refine H.ends ?_ ?_ ?_ ?_ ?_ ?_ ?_ ?_ ?_ ?_ ?_ ?_ ?_ ?_ ?_ ?_ 
  all_goals simp [nextL, Cp.ends, Cp.setF, Cp.fet, Cp.rd, Cp.idle, Cp.wr, Cp.cycle, Cp.placeC, Cp.placeA, Cp.start, Cp.latch, Cp.plain, Cp.acc, opMem, h.wait, h.halt, h.iff1, h.a, h.f, h.b, h.c, h.d, h.e, h.h, h.l, h.sp, h.pc, cx, cy, cz, cp, Rg.byte, Rg.putByte, Rg.pair, Rg.putPair]
theorem At.jrCY (hm : A.mem A.pc.toNat = 56) (hc : fHas A.f 1 = true) : Reach 54 s { A with pc := wplus (((A.pc + 1) % 65536 + 1) % 65536) (A.mem ((A.pc + 1) % 65536).toNat) } := by
  have H := h.fetch 56 hm (by decide) (by decide) (by decide)
  rw [show mProg 0 0 56 = [⟨1, 0, 0, 3⟩, ⟨6, 0, 1, 0⟩, ⟨0, 9, 0, 5⟩, ⟨5, 0, 2, 0⟩] from rfl, nextL_read] at H
  have H := Runs.read H rfl h.wait 9 (by decide)
  have hmet : ((s.c.fet 56).rd 0 0 3 A.mem).met 1 = true := by
    show fCond s.c.g.f (cy 56 - 4) = true
    rw [h.f, show fCond A.f (cy 56 - 4) = (fHas A.f 1 == true) from rfl, hc]; rfl
  rw [nextL_yes hmet, nextL_idle] at H
  have H := Runs.idle H rfl h.wait 35 (by decide)
  rw [nextL_work, work_2] at H
  refine H.ends ?_ ?_ ?_ ?_ ?_ ?_ ?_ ?_ ?_ ?_ ?_ ?_ ?_ ?_ ?_ ?_ 
  all_goals simp [nextL, Cp.ends, Cp.setF, Cp.fet, Cp.rd, Cp.idle, Cp.wr, Cp.cycle, Cp.placeC, Cp.placeA, Cp.start, Cp.latch, Cp.plain, Cp.acc, opMem, h.wait, h.halt, h.iff1, h.a, h.f, h.b, h.c, h.d, h.e, h.h, h.l, h.sp, h.pc, cx, cy, cz, cp, Rg.byte, Rg.putByte, Rg.pair, Rg.putPair]
theorem At.djnzN (hm : A.mem A.pc.toNat = 16) (hc : (((A.b - 1) % 256) != 0) = false) : Reach 26 s { A with b := (A.b - 1) % 256, pc := ((A.pc + 1) % 65536 + 1) % 65536 } := by
  have H := h.fetch 16 hm (by decide) (by decide) (by decide)
  rw [show mProg 0 0 16 = [⟨0, 8, 0, 1⟩, ⟨5, 0, 1, 0⟩, ⟨1, 0, 0, 3⟩, ⟨6, 0, 2, 0⟩, ⟨0, 9, 0, 5⟩, ⟨5, 0, 2, 0⟩] from rfl, nextL_idle] at H
  have H := Runs.idle H rfl h.wait 7 (by decide)
  rw [nextL_work, work_1, nextL_read] at H
  have H := Runs.read H rfl h.wait 9 (by decide)
  have hmet : (({ (s.c.fet 16).idle 8 0 1 with g := { ((s.c.fet 16).idle 8 0 1).g with b := (((s.c.fet 16).idle 8 0 1).g.b - 1) % 256 } } : Cp).rd 0 0 3 A.mem).met 2 = false := by
    show ((s.c.g.b - 1) % 256 != 0) = false
    rw [h.b]; exact hc
  rw [nextL_no hmet] at H
  refine H.ends ?_ ?_ ?_ ?_ ?_ ?_ ?_ ?_ ?_ ?_ ?_ ?_ ?_ ?_ ?_ ?_ 
  all_goals simp [nextL, Cp.ends, Cp.setF, Cp.fet, Cp.rd, Cp.idle, Cp.wr, Cp.cycle, Cp.placeC, Cp.placeA, Cp.start, Cp.latch, Cp.plain, Cp.acc, opMem, h.wait, h.halt, h.iff1, h.a, h.f, h.b, h.c, h.d, h.e, h.h, h.l, h.sp, h.pc, cx, cy, cz, cp, Rg.byte, Rg.putByte, Rg.pair, Rg.putPair]
theorem At.djnzY (hm : A.mem A.pc.toNat = 16) (hc : (((A.b - 1) % 256) != 0) = true) : Reach 61 s { A with b := (A.b - 1) % 256, pc := wplus (((A.pc + 1) % 65536 + 1) % 65536) (A.mem ((A.pc + 1) % 65536).toNat) } := by
  have H := h.fetch 16 hm (by decide) (by decide) (by decide)
  rw [show mProg 0 0 16 = [⟨0, 8, 0, 1⟩, ⟨5, 0, 1, 0⟩, ⟨1, 0, 0, 3⟩, ⟨6, 0, 2, 0⟩, ⟨0, 9, 0, 5⟩, ⟨5, 0, 2, 0⟩] from rfl, nextL_idle] at H
  have H := Runs.idle H rfl h.wait 7 (by decide)
  rw [nextL_work, work_1, nextL_read] at H
  have H := Runs.read H rfl h.wait 9 (by decide)
  have hmet : (({ (s.c.fet 16).idle 8 0 1 with g := { ((s.c.fet 16).idle 8 0 1).g with b := (((s.c.fet 16).idle 8 0 1).g.b - 1) % 256 } } : Cp).rd 0 0 3 A.mem).met 2 = true := by
    show ((s.c.g.b - 1) % 256 != 0) = true
    rw [h.b]; exact hc
  rw [nextL_yes hmet, nextL_idle] at H
  have H := Runs.idle H rfl h.wait 35 (by decide)
  rw [nextL_work, work_2] at H
  refine H.ends ?_ ?_ ?_ ?_ ?_ ?_ ?_ ?_ ?_ ?_ ?_ ?_ ?_ ?_ ?_ ?_ 
  all_goals simp [nextL, Cp.ends, Cp.setF, Cp.fet, Cp.rd, Cp.idle, Cp.wr, Cp.cycle, Cp.placeC, Cp.placeA, Cp.start, Cp.latch, Cp.plain, Cp.acc, opMem, h.wait, h.halt, h.iff1, h.a, h.f, h.b, h.c, h.d, h.e, h.h, h.l, h.sp, h.pc, cx, cy, cz, cp, Rg.byte, Rg.putByte, Rg.pair, Rg.putPair]
end
end Sq
/- A halted processor stays so. -/
namespace Sq
open Go
/-- The processor is halted, its registers are these. -/
structure Hc (k : Cp) (A : Ar) : Prop where
  halt : k.g.halt = true
  iff1 : k.g.iff1 = false
  a : k.g.a = A.a
  f : k.g.f = A.f
  b : k.g.b = A.b
  c : k.g.c = A.c
  d : k.g.d = A.d
  e : k.g.e = A.e
  h : k.g.h = A.h
  l : k.g.l = A.l
  sp : k.g.sp = A.sp
  pc : k.g.pc = A.pc
  kind : k.kind = -1 ∨ (k.kind = 0 ∧ k.second = 0 ∧ (k.len : Int) ≤ k.at_)
structure Dn (s : St) (A : Ar) : Prop where
  ok : s.Ok
  c : Hc s.c A
  mem : s.b.mem = A.mem
theorem Hc.begun {s : St} {A : Ar} (h : Hc s.c A) : Hc s.begun.c A ∧ s.begun.c.kind = 0 ∧ s.begun.b = s.b := by
  unfold St.begun
  by_cases hk : s.c.kind = -1
  · rw [if_pos hk]
    exact ⟨⟨h.halt, h.iff1, h.a, h.f, h.b, h.c, h.d, h.e, h.h, h.l, h.sp, h.pc, .inr ⟨rfl, rfl, Int.le_refl _⟩⟩, rfl, rfl⟩
  · rw [if_neg hk]
    exact ⟨h, (h.kind.resolve_left hk).1, rfl⟩
theorem Hc.asked {s : St} {A : Ar} (h : Hc s.c A) (hk : s.c.kind = 0) : Hc s.asked.c A ∧ s.asked.c.kind = 0 ∧ s.asked.b = s.b := by
  unfold St.asked
  by_cases hh : s.c.held = true
  · rw [if_pos hh]; exact ⟨h, hk, rfl⟩
  · rw [if_neg hh]
    exact ⟨⟨h.halt, h.iff1, h.a, h.f, h.b, h.c, h.d, h.e, h.h, h.l, h.sp, h.pc, h.kind⟩, hk, rfl⟩
theorem Hc.next {c : Cp} {A : Ar} (h : Hc c A) (hk : c.kind = 0) (sl : Nat → Int) : Hc (c.next sl) A := by
  obtain ⟨_, h2, h3⟩ := h.kind.resolve_left (by omega)
  unfold Cp.next
  rw [if_neg (by omega)]
  show Hc (if (c.len : Int) ≤ c.at_ then c.ends else _) A
  rw [if_pos h3]
  exact ⟨h.halt, h.iff1, h.a, h.f, h.b, h.c, h.d, h.e, h.h, h.l, h.sp, h.pc, .inl rfl⟩
theorem Hc.done {s : St} {A : Ar} (h : Hc s.c A) (hk : s.c.kind = 0) : Hc s.went.done.c A ∧ s.went.done.b = s.b := by
  have hw : s.went = { s with c := { s.c with held := false, t := s.c.t + 1 } } := by
    unfold St.went; rw [if_neg (by omega)]
  rw [hw]
  unfold St.done
  by_cases ht : ({ s with c := { s.c with held := false, t := s.c.t + 1 } } : St).c.t = ({ s with c := { s.c with held := false, t := s.c.t + 1 } } : St).c.n
  · rw [if_pos ht]
    unfold St.finish
    rw [if_pos hk]
    refine ⟨Hc.next ?_ ?_ _, rfl⟩
    · unfold Cp.fetched
      rw [if_pos (show ({ s.c with held := false, t := s.c.t + 1 } : Cp).g.halt = true from h.halt)]
      exact ⟨h.halt, h.iff1, h.a, h.f, h.b, h.c, h.d, h.e, h.h, h.l, h.sp, h.pc, h.kind⟩
    · unfold Cp.fetched
      rw [if_pos (show ({ s.c with held := false, t := s.c.t + 1 } : Cp).g.halt = true from h.halt)]
      exact hk
  · rw [if_neg ht]
    exact ⟨⟨h.halt, h.iff1, h.a, h.f, h.b, h.c, h.d, h.e, h.h, h.l, h.sp, h.pc, h.kind⟩, rfl⟩
theorem Hc.tick {s : St} {A : Ar} (h : Hc s.c A) : Hc s.tick.c A ∧ s.tick.b = s.b := by
  obtain ⟨h1, k1, b1⟩ := h.begun
  obtain ⟨h2, k2, b2⟩ := h1.asked k1
  unfold St.tick St.tickA
  by_cases hw : 0 < s.begun.asked.c.wait
  · rw [if_pos hw]
    exact ⟨⟨h2.halt, h2.iff1, h2.a, h2.f, h2.b, h2.c, h2.d, h2.e, h2.h, h2.l, h2.sp, h2.pc, h2.kind⟩, b2.trans b1⟩
  · rw [if_neg hw]
    obtain ⟨h3, b3⟩ := h2.done k2
    exact ⟨h3, b3.trans (b2.trans b1)⟩
theorem Dn.fit {s : St} {A : Ar} (h : Dn s A) : s.Fit := ⟨fun _ => h.c.iff1, fun _ hh => by have := h.c.halt; rw [hh] at this; cases this⟩
theorem Dn.step {s : St} {A : Ar} (h : Dn s A) : Dn s.step A := by
  have hc : Hc ({ s with b := { s.b with ear := false } } : St).c A := h.c
  obtain ⟨h1, b1⟩ := hc.tick
  refine ⟨step_ok h.ok h.fit, h1, ?_⟩
  show ({ s with b := { s.b with ear := false } } : St).tick.b.mem = A.mem
  rw [b1]; exact h.mem
theorem Dn.run : ∀ (j : Nat) {s : St} {A : Ar}, Dn s A → Dn (St.run j s) A ∧ Fits j s
  | 0, s, A, h => ⟨h, Fits.zero s⟩
  | j + 1, s, A, h => by
    obtain ⟨h1, h2⟩ := Dn.run j h.step
    refine ⟨h1, ?_⟩
    intro i hi
    cases i with
    | zero => exact h.fit
    | succ i => exact h2 i (by omega)
/-- The code halt. -/
theorem At.halts {s : St} {A : Ar} (h : At s A) (hm : A.mem A.pc.toNat = 118) : ∃ j, j ≤ 10 ∧ Fits j s ∧ Dn (St.run j s) { A with pc := (A.pc + 1) % 65536 } := by
  have H := h.fetch 118 hm (by decide) (by decide) (by decide)
  rw [show mProg 0 0 118 = [⟨5, 0, 20, 0⟩] from rfl, nextL_work, work_20, nextL_end] at H
  obtain ⟨j, _, j2, jf, ho, hs, _⟩ := H.ex
  have hz := hs.s.e
  have e1 : (St.run j s).c.kind = -1 := by
    have : (St.run j s).c.z.kind = -1 := by
      show (St.run j s).core.c.z.kind = -1
      rw [hz]; rfl
    exact this
  have e4 : (St.run j s).c.g = ({ s.c.fet 118 with g := { (s.c.fet 118).g with halt := true } } : Cp).ends.g := by
    have : (St.run j s).core.c.z.g = ({ s.c.fet 118 with g := { (s.c.fet 118).g with halt := true } } : Cp).ends.g := by rw [hz]
    exact this
  refine ⟨j, j2, jf, ho, ⟨?_, ?_, ?_, ?_, ?_, ?_, ?_, ?_, ?_, ?_, ?_, ?_, .inl e1⟩, hs.mem⟩
  all_goals rw [e4]; simp [Cp.ends, Cp.fet, h.iff1, h.a, h.f, h.b, h.c, h.d, h.e, h.h, h.l, h.sp, h.pc]
/-- A program that halts in time. -/
theorem Reach.halts {B : Nat} {s : St} {A : Ar} (h : Reach B s A) (hm : A.mem A.pc.toNat = 118) (N : Nat) (hN : B + 10 ≤ N) : Fits N s ∧ Dn (St.run N s) { A with pc := (A.pc + 1) % 65536 } := by
  obtain ⟨i, hi, hf, ha, _⟩ := h.ex
  obtain ⟨j, hj, hf', hd⟩ := ha.halts hm
  obtain ⟨h1, h2⟩ := Dn.run (N - (i + j)) hd
  have e : N = (i + j) + (N - (i + j)) := by omega
  have hd' : St.run j (St.run i s) = St.run (i + j) s := (run_add i j s).symm
  rw [hd'] at h1 h2
  rw [← run_add (i + j), ← e] at h1
  refine ⟨?_, h1⟩
  rw [e]
  exact (hf.add hf').add h2
end Sq
