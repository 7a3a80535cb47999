/- One T-state of the processor: the plain function is what it does. -/
import Derived.Test.YtneganpbamemmaaGreatTick
set_option linter.unusedVariables false
set_option linter.unusedSimpArgs false
set_option linter.unusedSectionVars false
namespace Go.Proofs.YtneganpbamemmaaGreat
open Go Go.RowKit Sq

theorem okCode_not {set v : Int} (h : okCode set v = true) : v ≠ 221 ∧ v ≠ 253 := by
  unfold okCode at h
  simp only [Bool.and_eq_true, bne_iff_ne] at h
  exact ⟨h.1.1.1, h.1.1.2⟩
theorem kind_eq {c : Cp} {k : Int} {a : Nat} (h1 : c.kind = k) (h2 : c.addr = a) : c = { c with kind := k, addr := (a : Int) } := by
  rw [← h1, ← h2]
theorem kh_eq {c : Cp} {k : Int} {x : Bool} (h1 : c.kind = k) (h2 : c.held = x) : c = { c with kind := k, held := x } := by
  rw [← h1, ← h2]
theorem k_eq {c : Cp} {k : Int} (h1 : c.kind = k) : c = { c with kind := k } := by
  rw [← h1]
abbrev busOf (m : Mac) : Value := .iface 61 (.pointer (some ⟨m.b, 0, none⟩))
section
variable {m : Mac} {w : World} (hb : Base m w) (hts : m.ts = 115)
include hb hts
theorem finish_any (s : St) (hm : Mid s.c s.sl) (ho : s.b.Ok) (hf : s.Fit) (hk : s.c.kind = 0 ∨ s.c.kind = 1 ∨ s.c.kind = 2 ∨ s.c.kind = 4) :
    Calls Tryz.prog 51 #[.pointer (some ⟨m.c, 0, none⟩), busOf m] (mk w m s.c s.sl s.b) fun e W => e = .returned (.tuple #[]) ∧ Lft w m s.finish.c s.finish.sl s.finish.b W := by
  obtain ⟨c, sl, b⟩ := s
  have ha := hm.ok.addr
  obtain ⟨a, hA⟩ : ∃ a : Nat, c.addr = a := ⟨c.addr.toNat, by have h1 : (0 : Int) ≤ c.addr := ha.1; omega⟩
  have ha2 : a < 65536 := by have h2 : c.addr < 65536 := ha.2; omega
  have ht : c.addr.toNat = a := by omega
  have hv := ho.mem a
  dsimp only at hm ho hk hv ⊢
  rcases hk with hk | hk | hk | hk
  · have e := kind_eq hk hA
    have hc := hf.code hk
    dsimp only at hc
    rw [ht] at hc
    have hn : c.g.halt = false → b.mem a ≠ 221 ∧ b.mem a ≠ 253 := by
      intro hh
      by_cases h : 0 < c.second ∨ (b.mem a ≠ 237 ∧ b.mem a ≠ 203)
      · exact okCode_not (hc hh h)
      · omega
    have hF : (⟨c, sl, b⟩ : St).finish = ⟨(c.fetched (b.mem a)).next (c.fetchedS sl (b.mem a)), c.fetchedS sl (b.mem a), b⟩ := by
      unfold St.finish
      rw [if_pos hk]
      dsimp only
      rw [ht]
    rw [hF]
    rw [e] at hm hc hn
    have := finish_0 hb c sl b hts a ha2 hm hv hc hn
    rw [← e] at this
    exact this
  · have e := kind_eq hk hA
    have hF : (⟨c, sl, b⟩ : St).finish = ⟨(c.latch (b.mem a)).next sl, sl, b⟩ := by
      unfold St.finish
      rw [if_neg (show ¬ c.kind = 0 from by omega), if_pos hk]
      dsimp only
      rw [ht]
    rw [hF]
    rw [e] at hm
    have := finish_1 hb c sl b hts a ha2 hm hv
    rw [← e] at this
    exact this
  · have e := kind_eq hk hA
    have hF : (⟨c, sl, b⟩ : St).finish = ⟨c.next sl, sl, b.write a c.out⟩ := by
      unfold St.finish
      rw [if_neg (show ¬ c.kind = 0 from by omega), if_neg (show ¬ c.kind = 1 from by omega), if_pos hk]
      dsimp only
      rw [hA]
    rw [hF]
    rw [e] at hm
    have := finish_2 hb c sl b hts a ha2 hm
    rw [← e] at this
    exact this
  · have e := kind_eq hk hA
    have hF : (⟨c, sl, b⟩ : St).finish = ⟨c.next sl, sl, b⟩ := by
      unfold St.finish
      rw [if_neg (show ¬ c.kind = 0 from by omega), if_neg (show ¬ c.kind = 1 from by omega), if_neg (show ¬ c.kind = 2 from by omega)]
    rw [hF]
    rw [e] at hm
    have := finish_4 hb c sl b hts a ha2 hm
    rw [← e] at this
    exact this
def tSaid (m : Mac) (w : World) (s r : St) : Prop := Calls Tryz.prog 45 #[.pointer (some ⟨m.c, 0, none⟩), busOf m] (mk w m s.c s.sl s.b) fun e W => e = .returned (.tuple #[]) ∧ Lft w m r.c r.sl r.b W
omit hts in
theorem tick_w (s : St) (ho : s.Ok) (hk : s.c.kind ≠ -1) (hw : 0 < s.asked.c.wait) : tSaid m w s { s.asked with c := { s.asked.c with wait := s.asked.c.wait - 1 } } := by
  obtain ⟨c, sl, b⟩ := s
  have ha := ho.m.ok.addr
  have hfr := ho.b.frame
  have hy := ho.y.kind
  have h6 := (asked_ok ho).m.wait
  unfold tSaid
  cases hh : c.held
  · have eA : (⟨c, sl, b⟩ : St).asked = ⟨{ c with wait := b.hold c.kind c.addr c.t, held := true }, sl, b⟩ := by
      unfold St.asked
      rw [if_neg (show ¬ c.held = true from by rw [hh]; decide)]
    rw [eA] at hw h6 ⊢
    dsimp only at hk hw h6 hy ha hfr ⊢
    by_cases h4 : c.kind = 4
    · rw [h4] at hw h6 ⊢
      have := tick_4_false_w hb c sl b ha.1 ha.2 hfr.1 hfr.2 hw h6.2
      rw [← kh_eq h4 hh] at this
      refine this.mono fun e W ⟨he, hl⟩ => ⟨he, ?_⟩
      rw [h4.symm] at hl ⊢
      exact hl
    · have := tick_x_false_w hb c sl b c.kind hk h4 (by omega) ha.1 ha.2 hfr.1 hfr.2 hw h6.2
      rw [← kh_eq rfl hh] at this
      exact this
  · have eA : (⟨c, sl, b⟩ : St).asked = ⟨c, sl, b⟩ := by
      unfold St.asked
      rw [if_pos (show c.held = true from hh)]
    rw [eA] at hw h6 ⊢
    dsimp only at hk hw h6 hy ha hfr ⊢
    by_cases h4 : c.kind = 4
    · have := tick_4_true_w hb c sl b hw h6.2
      rw [← kh_eq h4 hh] at this
      refine this.mono fun e W ⟨he, hl⟩ => ⟨he, ?_⟩
      rw [h4.symm, hh.symm] at hl
      exact hl
    · have := tick_x_true_w hb c sl b c.kind hk h4 (by omega) hw h6.2
      rw [← kh_eq rfl hh] at this
      refine this.mono fun e W ⟨he, hl⟩ => ⟨he, ?_⟩
      rw [hh.symm] at hl
      exact hl
theorem tick_go (s : St) (ho : s.Ok) (hf : s.Fit) (hk : s.c.kind ≠ -1) (hw : ¬ 0 < s.asked.c.wait) : tSaid m w s s.asked.went.done := by
  have hAo := asked_ok ho
  obtain ⟨q1, q2, q3, q4, q5⟩ := asked_same s
  obtain ⟨w1, w2, w3, w4, w5, w6, w7⟩ := went_mid hAo (by rw [q1]; exact hk)
  have hfit : s.asked.went.Fit := ⟨fun hx => by rw [w3, q1] at hx; exact absurd hx hk, by rw [w2, w3, w4, w5, w6, q1, q2, q3, q4, q5]; exact hf.code⟩
  have HFin : ∀ w' : World, Base m w' → Calls Tryz.prog 51 #[.pointer (some ⟨m.c, 0, none⟩), busOf m] (mk w' m s.asked.went.c s.asked.went.sl s.asked.went.b) fun e W => e = .returned (.tuple #[]) ∧ Lft w' m s.asked.went.finish.c s.asked.went.finish.sl s.asked.went.finish.b W :=
    fun w' hb' => finish_any hb' hts s.asked.went w1 (by rw [w2]; exact hAo.b) hfit (by rw [w3, q1]; have := ho.y.kind; omega)
  have hd : s.asked.went.done = if s.asked.went.c.t = s.asked.went.c.n then s.asked.went.finish else s.asked.went := rfl
  rw [hd]
  clear hd hfit w1 w2 w3 w4 w5 w6 w7 q1 q2 q3 q4 q5
  obtain ⟨c, sl, b⟩ := s
  have ha := ho.m.ok.addr
  have hfr := ho.b.frame
  have hy := ho.y.kind
  have hT := ho.m.t
  have hN := ho.m.n
  unfold tSaid
  cases hh : c.held
  · have eA : (⟨c, sl, b⟩ : St).asked = ⟨{ c with wait := b.hold c.kind c.addr c.t, held := true }, sl, b⟩ := by
      unfold St.asked
      rw [if_neg (show ¬ c.held = true from by rw [hh]; decide)]
    rw [eA] at hw HFin ⊢
    dsimp only at hk hw hy ha hfr hT hN
    by_cases h4 : c.kind = 4
    · have eW : (⟨{ c with wait := b.hold c.kind c.addr c.t, held := true }, sl, b⟩ : St).went = ⟨{ c with kind := 4, wait := b.hold 4 c.addr c.t, held := false, t := 0, n := c.n - 1 }, sl, b⟩ := by
        unfold St.went
        dsimp only
        rw [if_pos h4, h4]
      rw [eW] at HFin ⊢
      dsimp only
      rw [h4] at hw
      by_cases hq : (0 : Int) = c.n - 1
      · rw [if_pos hq]
        have := tick_4_false_f hb c sl b ha.1 ha.2 hfr.1 hfr.2 hT.1 hT.2 hN.1 hN.2 hw (by simpa using hq) _ _ _ HFin
        rw [← kh_eq h4 hh] at this
        exact this
      · rw [if_neg hq]
        have := tick_4_false_g hb c sl b ha.1 ha.2 hfr.1 hfr.2 hT.1 hT.2 hN.1 hN.2 hw (by simpa using hq)
        rw [← kh_eq h4 hh] at this
        exact this
    · have eW : (⟨{ c with wait := b.hold c.kind c.addr c.t, held := true }, sl, b⟩ : St).went = ⟨{ c with kind := c.kind, wait := b.hold c.kind c.addr c.t, held := false, t := c.t + 1 }, sl, b⟩ := by
        unfold St.went
        dsimp only
        rw [if_neg h4]
      rw [eW] at HFin ⊢
      dsimp only
      by_cases hq : c.t + 1 = c.n
      · rw [if_pos hq]
        have := tick_x_false_f hb c sl b c.kind hk h4 (by omega) ha.1 ha.2 hfr.1 hfr.2 hT.1 hT.2 hN.1 hN.2 hw (by simpa using hq) _ _ _ HFin
        rw [← kh_eq rfl hh] at this
        exact this
      · rw [if_neg hq]
        have := tick_x_false_g hb c sl b c.kind hk h4 (by omega) ha.1 ha.2 hfr.1 hfr.2 hT.1 hT.2 hN.1 hN.2 hw (by simpa using hq)
        rw [← kh_eq rfl hh] at this
        exact this
  · have eA : (⟨c, sl, b⟩ : St).asked = ⟨c, sl, b⟩ := by
      unfold St.asked
      rw [if_pos (show c.held = true from hh)]
    rw [eA] at hw HFin ⊢
    dsimp only at hk hw hy ha hfr hT hN
    by_cases h4 : c.kind = 4
    · have eW : (⟨c, sl, b⟩ : St).went = ⟨{ c with kind := 4, held := false, t := 0, n := c.n - 1 }, sl, b⟩ := by
        unfold St.went
        dsimp only
        rw [if_pos h4]
        have e := k_eq h4
        congr 1
        rw [e]
      rw [eW] at HFin ⊢
      dsimp only
      by_cases hq : (0 : Int) = c.n - 1
      · rw [if_pos hq]
        have := tick_4_true_f hb c sl b hT.1 hT.2 hN.1 hN.2 hw (by simpa using hq) _ _ _ HFin
        rw [← kh_eq h4 hh] at this
        exact this
      · rw [if_neg hq]
        have := tick_4_true_g hb c sl b hT.1 hT.2 hN.1 hN.2 hw (by simpa using hq)
        rw [← kh_eq h4 hh] at this
        exact this
    · have eW : (⟨c, sl, b⟩ : St).went = ⟨{ c with kind := c.kind, held := false, t := c.t + 1 }, sl, b⟩ := by
        unfold St.went
        dsimp only
        rw [if_neg h4]
      rw [eW] at HFin ⊢
      dsimp only
      by_cases hq : c.t + 1 = c.n
      · rw [if_pos hq]
        have := tick_x_true_f hb c sl b c.kind hk h4 (by omega) hT.1 hT.2 hN.1 hN.2 hw (by simpa using hq) _ _ _ HFin
        rw [← kh_eq rfl hh] at this
        exact this
      · rw [if_neg hq]
        have := tick_x_true_g hb c sl b c.kind hk h4 (by omega) hT.1 hT.2 hN.1 hN.2 hw (by simpa using hq)
        rw [← kh_eq rfl hh] at this
        exact this
omit hts in
theorem tick_new (s : St) (ho : s.Ok) (hf : s.Fit) (hk : s.c.kind = -1) : tSaid m w s s.tick := by
  have hi := hf.iff1 hk
  obtain ⟨c, sl, b⟩ := s
  have hp := ho.m.ok.g.pc
  have hfr := ho.b.frame
  have hn := ho.m.nmi
  have h6 := hold_bd b 0 c.g.pc 0
  dsimp only at hk hi hp hfr hn
  have eT : (⟨c, sl, b⟩ : St).tick = (⟨{ c.begin with wait := b.hold 0 c.g.pc 0, held := true }, sl, b⟩ : St).tickA := by
    unfold St.tick St.begun
    rw [if_pos (show (⟨c, sl, b⟩ : St).c.kind = -1 from hk)]
    rfl
  rw [eT]
  unfold tSaid St.tickA
  dsimp only
  by_cases hw : 0 < b.hold 0 c.g.pc 0
  · rw [if_pos hw]
    have := tick_n_w hb c sl b hn hi hp.1 hp.2 hfr.1 hfr.2 hw h6.2
    rw [← k_eq hk] at this
    exact this
  · rw [if_neg hw]
    have := tick_n_g hb c sl b hn hi hp.1 hp.2 hfr.1 hfr.2 hw
    rw [← k_eq hk] at this
    exact this
theorem ctick_any (s : St) (ho : s.Ok) (hf : s.Fit) : tSaid m w s s.tick := by
  by_cases hk : s.c.kind = -1
  · exact tick_new hb s ho hf hk
  · have e : s.tick = s.asked.tickA := by unfold St.tick St.begun; rw [if_neg hk]
    rw [e]
    unfold St.tickA
    by_cases hw : 0 < s.asked.c.wait
    · rw [if_pos hw]; exact tick_w hb s ho hk hw
    · rw [if_neg hw]; exact tick_go hb hts s ho hf hk hw
end
end Go.Proofs.YtneganpbamemmaaGreat
