/- The processor: on to the next cycle. -/
import Derived.Test.YtneganpbamemmaaGreatProc2
import Derived.Test.YtneganpbamemmaaGreatProc3
import Derived.Test.YtneganpbamemmaaGreatLate
import Derived.Deep.LoopGhost
set_option linter.unusedVariables false
set_option linter.unusedSimpArgs false
set_option linter.unusedSectionVars false
namespace Go.Proofs.YtneganpbamemmaaGreat
open Go Go.RowKit Sq

/-- Where the loop over the steps stands. -/
def NextRel (w : World) (m : Mac) (c : Cp) (sl : Nat → Int) (b : Bd) (k : Nat) (wr : World) : Prop :=
  ∃ w1 c1, Ext w w1 ∧ Base m w1 ∧ wr = mk w1 m c1 sl b ∧ Mid c1 sl ∧ c1.second = 0 ∧ (c1.len : Int) - c1.at_ < k ∧ nextF k c1 sl = nextF 40 c sl
def _root_.Sq.Cp.stepAt (c : Cp) (i : Nat) : Cp := { c with at_ := (i : Int), second := 0, ahead := false }
theorem stepAt_eq {c : Cp} {i : Nat} (h1 : c.at_ = i) (h2 : c.second = 0) (h3 : c.ahead = false) : c = c.stepAt i := by
  obtain ⟨_, _, _, _, _, _, _, _, _, _, _, _, _, _, _, _, _, _, _, _, _⟩ := c
  dsimp only at h1 h2 h3
  subst h1 h2 h3
  rfl
theorem okAt {c : Cp} (h : c.Ok) (a : Int) : ({ c with at_ := a, second := 0, ahead := false } : Cp).Ok := { h with }
/-- A step has been read into a block of its own. -/
theorem step_made {m : Mac} {w1 : World} (hb : Base m w1) (n : Nat) (k p x y : Int) (t : TypeId) : ∃ w2, w2 = (w1.drewN n).alloc (.cells #[.int .i64 k, .int .i64 p, .int .i64 x, .int .i64 y] t) ∧ Ext w1 w2 ∧ Base m w2 ∧
    ∀ (w3 : World), Ext w2 w3 → ∀ (c : Cp) (sl : Nat → Int) (b : Bd), (mk w3 m c sl b).cell? ⟨w1.heap.size, 0, none⟩ = some (.int .i64 k) ∧ (mk w3 m c sl b).cell? ⟨w1.heap.size, 1, none⟩ = some (.int .i64 p) ∧ (mk w3 m c sl b).cell? ⟨w1.heap.size, 2, none⟩ = some (.int .i64 x) ∧ (mk w3 m c sl b).cell? ⟨w1.heap.size, 3, none⟩ = some (.int .i64 y) := by
  refine ⟨_, rfl, ((Ext.refl w1).drewN' n).alloc' _, (hb.drewN n).alloc _, fun w3 hx c sl b => ?_⟩
  have e : (w1.drewN n).heap.size = w1.heap.size := by simp
  have h := fun i v hv => newc (v := v) (hb.drewN n) hx c sl b i hv
  rw [e] at h
  exact ⟨h 0 _ rfl, h 1 _ rfl, h 2 _ rfl, h 3 _ rfl⟩
theorem nextF_at {c1 : Cp} {sl : Nat → Int} {i g : Nat} (hc : c1 = c1.stepAt i) (hlt : i < c1.len) (s : Stp) (hs : stp sl i = s) :
    nextF (g + 1) c1 sl = if s.k = 5 then nextF g (({ c1 with at_ := (i : Int) + 1, second := 0, ahead := false } : Cp).work s.wh) sl
      else if s.k = 6 then (if ({ c1 with at_ := (i : Int) + 1, second := 0, ahead := false } : Cp).met s.wh = true then nextF g { c1 with at_ := (i : Int) + 1, second := 0, ahead := false } sl else nextF g { c1 with at_ := (c1.len : Int), second := 0, ahead := false } sl)
      else ({ c1 with at_ := (i : Int) + 1, second := 0, ahead := false } : Cp).cycle s := by
  have ha : c1.at_ = i := by rw [hc]; rfl
  have h2 : c1.second = 0 := by rw [hc]; rfl
  have h3 : c1.ahead = false := by rw [hc]; rfl
  have e : ∀ a : Int, ({ c1 with at_ := a, second := 0, ahead := false } : Cp) = { c1 with at_ := a } := by
    intro a; rw [← h2, ← h3]
  rw [e, e]
  show (if (c1.len : Int) ≤ c1.at_ then _ else _) = _
  rw [if_neg (by rw [ha]; omega)]
  have ht : c1.at_.toNat = i := by rw [ha]; rfl
  rw [ht, hs, ha]
theorem nextF_end {c1 : Cp} {sl : Nat → Int} {i g : Nat} (hc : c1 = c1.stepAt i) (hlt : ¬ i < c1.len) : nextF (g + 1) c1 sl = c1.ends := by
  have ha : c1.at_ = i := by rw [hc]; rfl
  show (if (c1.len : Int) ≤ c1.at_ then _ else _) = _
  rw [if_pos (by rw [ha]; omega)]
theorem _root_.Sq.Mid.told2 {c1 : Cp} {sl : Nat → Int} (h : Mid c1 sl) {a : Int} (h0 : 0 ≤ a) (h1 : a ≤ c1.len) : Mid { c1 with at_ := a, second := 0, ahead := false } sl :=
  ⟨{ h.ok with }, rfl, h.nmi, h.pre, h.ix, h.len, h0, h1, h.steps, by show 0 ≤ (0 : Int) ∧ (0 : Int) ≤ 2; omega, h.wait, h.what, h.t, h.n⟩
theorem rel_work {w w3 : World} {m : Mac} {c c1 : Cp} {sl : Nat → Int} {b : Bd} {i g : Nat} (hx : Ext w w3) (hb : Base m w3) (hM : Mid c1 sl) (hc : c1 = c1.stepAt i) (hlt : i < c1.len) (hF : nextF (g + 1) c1 sl = nextF 40 c sl) (hn : (c1.len : Int) - i < (g + 1 : Nat)) {p x n : Int} (hs : stp sl i = ⟨5, p, x, n⟩) :
    NextRel w m c sl b g (mk w3 m (({ c1 with at_ := (i : Int) + 1, second := 0, ahead := false } : Cp).work x) sl b) := by
  have hk := work_kept ({ c1 with at_ := (i : Int) + 1, second := 0, ahead := false } : Cp) x
  refine ⟨w3, _, hx, hb, rfl, (hM.told2 (by omega) (by omega)).work x, by rw [hk.second], by rw [hk.len, hk.at_]; show (c1.len : Int) - (i + 1) < g; omega, ?_⟩
  rw [nextF_at hc hlt _ hs] at hF
  exact hF
theorem rel_met {w w3 : World} {m : Mac} {c c1 : Cp} {sl : Nat → Int} {b : Bd} {i g : Nat} (hx : Ext w w3) (hb : Base m w3) (hM : Mid c1 sl) (hc : c1 = c1.stepAt i) (hlt : i < c1.len) (hF : nextF (g + 1) c1 sl = nextF 40 c sl) (hn : (c1.len : Int) - i < (g + 1 : Nat)) {p x n : Int} (hs : stp sl i = ⟨6, p, x, n⟩)
    (hm : ({ c1 with at_ := (i : Int) + 1, second := 0, ahead := false } : Cp).met x = true) : NextRel w m c sl b g (mk w3 m { c1 with at_ := (i : Int) + 1, second := 0, ahead := false } sl b) := by
  refine ⟨w3, _, hx, hb, rfl, hM.told2 (by omega) (by omega), rfl, by show (c1.len : Int) - (i + 1) < g; omega, ?_⟩
  rw [nextF_at hc hlt _ hs, if_neg (by show ¬ (6 : Int) = 5; decide), if_pos rfl, if_pos hm] at hF
  exact hF
theorem rel_unmet {w w3 : World} {m : Mac} {c c1 : Cp} {sl : Nat → Int} {b : Bd} {i g : Nat} (hx : Ext w w3) (hb : Base m w3) (hM : Mid c1 sl) (hc : c1 = c1.stepAt i) (hlt : i < c1.len) (hF : nextF (g + 1) c1 sl = nextF 40 c sl) (hn : (c1.len : Int) - i < (g + 1 : Nat)) {p x n : Int} (hs : stp sl i = ⟨6, p, x, n⟩)
    (hm : ({ c1 with at_ := (i : Int) + 1, second := 0, ahead := false } : Cp).met x = false) : NextRel w m c sl b g (mk w3 m { c1 with at_ := (c1.len : Int), second := 0, ahead := false } sl b) := by
  refine ⟨w3, _, hx, hb, rfl, hM.told2 (by omega) (by omega), rfl, by show (c1.len : Int) - c1.len < g; omega, ?_⟩
  rw [nextF_at hc hlt _ hs, if_neg (by show ¬ (6 : Int) = 5; decide), if_pos rfl, if_neg (by rw [hm]; decide)] at hF
  exact hF
theorem ends_w {c1 : Cp} {i : Nat} {x : Bool} (hc : c1 = c1.stepAt i) (hw : c1.wrote = x) : c1.ends = { c1 with at_ := (i : Int), second := 0, ahead := false, wrote := x, kind := -1, g := { c1.g with q := if x = true then c1.g.f else 0 } } := by
  subst hw
  rw [hc]
  rfl
theorem at_cycle {c c1 : Cp} {sl : Nat → Int} {i g : Nat} (hc : c1 = c1.stepAt i) (hlt : i < c1.len) (hF : nextF (g + 1) c1 sl = nextF 40 c sl) {k p x n : Int} (hs : stp sl i = ⟨k, p, x, n⟩) (h5 : ¬ k = 5) (h6 : ¬ k = 6) :
    nextF 40 c sl = ({ c1 with at_ := (i : Int) + 1, second := 0, ahead := false } : Cp).cycle ⟨k, p, x, n⟩ := by
  rw [← hF, nextF_at hc hlt _ hs, if_neg h5, if_neg h6]
section
variable {m : Mac} {w : World} (hb : Base m w) (c : Cp) (sl : Nat → Int) (b : Bd)
include hb
theorem next_s (hm : Mid c sl) (h2 : 0 < c.second) : Calls Tryz.prog 62 #[.pointer (some ⟨m.c, 0, none⟩)] (mk w m c sl b) fun e W => e = .returned (.tuple #[]) ∧ Lft w m (c.next sl) sl b W := by
  have HP := Lib.hid (show c.next sl = _ from if_pos h2)
  clear hm
  go_enter Tryz.func62, Tryz.ntmps62
  go_wp2_with (go_at_call 59; (try simp only [mk_drew, mk_drewN]); refine Calls.mono (start_any (by first | assumption | exact Base.drew (by assumption) | exact Base.drewN (by assumption) _ | exact Base.alloc (by assumption) _) _ _ _ _ _ _) ?_; rintro e W ⟨rfl, rfl⟩)
  all_goals
    (first | go_end0 | refine bodyPost_ret (results_none rfl _ _ _) rfl ?_)
    refine ⟨rfl, ?_⟩
    rw [HP.out]
    exact Lft.mk' (by first | assumption | exact Base.drew (by assumption) | exact Base.drewN (by assumption) _ | exact Base.alloc (by assumption) _) (by repeat (first | exact Ext.refl _ | assumption | refine Ext.drew' ?_ | refine Ext.drewN' ?_ _ | refine Ext.alloc' ?_ _ | refine Ext.trans ?_ (by assumption)))
set_option maxHeartbeats 2000000 in
set_option maxRecDepth 8000 in
theorem next_l (hts : m.ts = 115) (hm : Mid c sl) (h2 : c.second = 0) : Calls Tryz.prog 62 #[.pointer (some ⟨m.c, 0, none⟩)] (mk w m c sl b) fun e W => e = .returned (.tuple #[]) ∧ Lft w m (c.next sl) sl b W := by
  have HP := Lib.hid (show c.next sl = nextF 40 c sl from if_neg (by omega))
  have HR := Lib.hid (show NextRel w m c sl b 40 (mk w m c sl b) from ⟨w, c, Ext.refl w, hb, rfl, hm, h2, by have := hm.len; have := hm.at0; omega, rfl⟩)
  have h2' : decide (0 < c.second) = false := by simp; omega
  clear hts hm h2
  go_enter Tryz.func62, Tryz.ntmps62
  go_wp2
  go_loopg [] 40 (fun k wr => NextRel w m c sl b k wr)
  case atStart => exact HR.out
  case round =>
    obtain ⟨w1, c1, hx, hb1, rfl, hm1, hs1, hn1, hF⟩ := hrel
    have H0 := hm1.at0
    have Ha := hm1.ahead
    have Hl := hm1.len
    obtain ⟨g, rfl⟩ : ∃ g, gk = g + 1 := ⟨gk - 1, by have := hm1.at1; omega⟩
    obtain ⟨i, hi⟩ : ∃ i : Nat, c1.at_ = i := ⟨c1.at_.toNat, by omega⟩
    have hc := stepAt_eq hi hs1 Ha
    have HM := Lib.hid hm1
    have HF := Lib.hid hF
    have HC := Lib.hid hc
    rw [hc]
    rw [hi] at hn1
    clear hm1 hF hc Ha hs1 H0
    have HA := Lib.hid (fun a : Int => (okAt HM.out.ok a : ({ c1 with at_ := a, second := 0, ahead := false } : Cp).Ok))
    by_cases hlt : i < c1.len
    · have t1 : decide (c1.len ≤ i) = false := by simp; omega
      have HS := Lib.hid (show stp sl i = ⟨sl (i * 4), sl (i * 4 + 1), sl (i * 4 + 2), sl (i * 4 + 3)⟩ by unfold stp; rw [Nat.mul_comm])
      have HO := Lib.hid (HM.out.steps i hlt)
      unfold Cp.stepAt
      go_wp2
      go_quiet (fail)
      go_wp2
      refine wp_region_late 11 (fun w' => w'.cell? ⟨m.c, 30, none⟩ = some (.slice (some ⟨m.s, 0, none⟩) c1.len 16) ∧ w'.cell? ⟨m.c, 31, none⟩ = some (.int .i64 (i : Int)) ∧ w'.cell? ⟨m.s, i * 4, none⟩ = some (.int .i64 (sl (i * 4))) ∧ w'.cell? ⟨m.s, i * 4 + 1, none⟩ = some (.int .i64 (sl (i * 4 + 1))) ∧ w'.cell? ⟨m.s, i * 4 + 2, none⟩ = some (.int .i64 (sl (i * 4 + 2))) ∧ w'.cell? ⟨m.s, i * 4 + 3, none⟩ = some (.int .i64 (sl (i * 4 + 3)))) (by kernel_rfl) (by simp only [mk_drewN, mk_drew, mk_alloc (by first | assumption | exact Base.drewN (by assumption) _ | exact Base.drew (Base.drewN (by assumption) _) | exact Base.alloc (Base.drew (Base.drewN (by assumption) _)) _)]; exact ⟨cell_30 (by first | assumption | exact Base.drewN (by assumption) _ | exact Base.drew (Base.drewN (by assumption) _) | exact Base.alloc (Base.drew (Base.drewN (by assumption) _)) _), cell_31 (by first | assumption | exact Base.drewN (by assumption) _ | exact Base.drew (Base.drewN (by assumption) _) | exact Base.alloc (Base.drew (Base.drewN (by assumption) _)) _), cell_s (by first | assumption | exact Base.drewN (by assumption) _ | exact Base.drew (Base.drewN (by assumption) _) | exact Base.alloc (Base.drew (Base.drewN (by assumption) _)) _) _ (by omega), cell_s (by first | assumption | exact Base.drewN (by assumption) _ | exact Base.drew (Base.drewN (by assumption) _) | exact Base.alloc (Base.drew (Base.drewN (by assumption) _)) _) _ (by omega), cell_s (by first | assumption | exact Base.drewN (by assumption) _ | exact Base.drew (Base.drewN (by assumption) _) | exact Base.alloc (Base.drew (Base.drewN (by assumption) _)) _) _ (by omega), cell_s (by first | assumption | exact Base.drewN (by assumption) _ | exact Base.drew (Base.drewN (by assumption) _) | exact Base.alloc (Base.drew (Base.drewN (by assumption) _)) _) _ (by omega)⟩) (fun hHeld => ?_)
      refine wpAnyT_pure (i := 0) (oi := { dst := some 43, op := Go.Op.move (Go.Operand.tmp 0), type := 60, pos := "cpu.go:258", after := #[], guard := none }) (v := ?Lv0) rfl (by kernel_rfl) (by kernel_rfl) (by kernel_rfl) (fun _ _ _ h => h) (Or.inl ⟨by rfl, ?Ly0⟩) ?Lr0
      case Ly0 => (intro w; go_simp; try with_reducible rfl)
      try simp only [Act.put, List.setIfInBounds_toArray, List.set_cons_zero, List.set_cons_succ]
      refine wpAnyT_pure (i := 1) (oi := { dst := some 44, op := Go.Op.nilCheck (Go.Operand.tmp 43), type := 0, pos := "cpu.go:258", after := #[{ on := 0, ground := Go.Ground.data }], guard := none }) (v := ?Lv1) rfl (by kernel_rfl) (by kernel_rfl) (by kernel_rfl) (fun _ _ _ h => h) (Or.inl ⟨by rfl, ?Ly1⟩) ?Lr1
      case Ly1 => (intro w; go_simp; try with_reducible rfl)
      try simp only [Act.put, List.setIfInBounds_toArray, List.set_cons_zero, List.set_cons_succ]
      refine wpAnyT_pure (i := 2) (oi := { dst := some 45, op := Go.Op.fieldAddr 79 (Go.Operand.tmp 44) 1, type := 0, pos := "cpu.go:258", after := #[{ on := 1, ground := Go.Ground.data }], guard := none }) (v := ?Lv2) rfl (by kernel_rfl) (by kernel_rfl) (by kernel_rfl) (fun _ _ _ h => h) (Or.inl ⟨by rfl, ?Ly2⟩) ?Lr2
      case Ly2 => (intro w; go_simp; try with_reducible rfl)
      try simp only [Act.put, List.setIfInBounds_toArray, List.set_cons_zero, List.set_cons_succ]
      refine wpAnyT_take (i := 3) (oi := { dst := some 46, op := Go.Op.load 76 (Go.Operand.tmp 45), type := 76, pos := "cpu.go:258", after := #[{ on := 2, ground := Go.Ground.data }], guard := none }) (v := ?Lv3) [11] rfl (by decide) (by kernel_rfl) (by kernel_rfl) (by kernel_rfl) (by kernel_rfl) (fun _ _ _ h => h) (Or.inl ⟨by rfl, ?Ly3⟩) hHeld ?Lr3
      case Ly3 => (intro w hSw; (try dsimp only at hSw); go_simp; try with_reducible rfl)
      try simp only [Act.put, List.setIfInBounds_toArray, List.set_cons_zero, List.set_cons_succ]
      refine wpAnyT_pure (i := 4) (oi := { dst := some 47, op := Go.Op.move (Go.Operand.tmp 0), type := 60, pos := "cpu.go:258", after := #[], guard := none }) (v := ?Lv4) rfl (by kernel_rfl) (by kernel_rfl) (by kernel_rfl) (fun _ _ _ h => h) (Or.inl ⟨by rfl, ?Ly4⟩) ?Lr4
      case Ly4 => (intro w; go_simp; try with_reducible rfl)
      try simp only [Act.put, List.setIfInBounds_toArray, List.set_cons_zero, List.set_cons_succ]
      refine wpAnyT_pure (i := 5) (oi := { dst := some 48, op := Go.Op.nilCheck (Go.Operand.tmp 47), type := 0, pos := "cpu.go:258", after := #[{ on := 4, ground := Go.Ground.data }], guard := none }) (v := ?Lv5) rfl (by kernel_rfl) (by kernel_rfl) (by kernel_rfl) (fun _ _ _ h => h) (Or.inl ⟨by rfl, ?Ly5⟩) ?Lr5
      case Ly5 => (intro w; go_simp; try with_reducible rfl)
      try simp only [Act.put, List.setIfInBounds_toArray, List.set_cons_zero, List.set_cons_succ]
      refine wpAnyT_pure (i := 6) (oi := { dst := some 49, op := Go.Op.fieldAddr 79 (Go.Operand.tmp 48) 2, type := 0, pos := "cpu.go:258", after := #[{ on := 5, ground := Go.Ground.data }], guard := none }) (v := ?Lv6) rfl (by kernel_rfl) (by kernel_rfl) (by kernel_rfl) (fun _ _ _ h => h) (Or.inl ⟨by rfl, ?Ly6⟩) ?Lr6
      case Ly6 => (intro w; go_simp; try with_reducible rfl)
      try simp only [Act.put, List.setIfInBounds_toArray, List.set_cons_zero, List.set_cons_succ]
      refine wpAnyT_take (i := 7) (oi := { dst := some 50, op := Go.Op.load 3 (Go.Operand.tmp 49), type := 3, pos := "cpu.go:258", after := #[{ on := 6, ground := Go.Ground.data }], guard := none }) (v := ?Lv7) [11] rfl (by decide) (by kernel_rfl) (by kernel_rfl) (by kernel_rfl) (by kernel_rfl) (fun _ _ _ h => h) (Or.inl ⟨by rfl, ?Ly7⟩) hHeld ?Lr7
      case Ly7 => (intro w hSw; (try dsimp only at hSw); go_simp; try with_reducible rfl)
      try simp only [Act.put, List.setIfInBounds_toArray, List.set_cons_zero, List.set_cons_succ]
      refine wpAnyT_pure (i := 8) (oi := { dst := some 51, op := Go.Op.indexAddr 76 (Go.Operand.tmp 46) (Go.Operand.tmp 50), type := 0, pos := "cpu.go:258", after := #[{ on := 3, ground := Go.Ground.data }, { on := 7, ground := Go.Ground.data }], guard := none }) (v := ?Lv8) rfl (by kernel_rfl) (by kernel_rfl) (by kernel_rfl) (fun _ _ _ h => h) (Or.inl ⟨by rfl, ?Ly8⟩) ?Lr8
      case Ly8 => (intro w; go_simp; try with_reducible rfl)
      try simp only [Act.put, List.setIfInBounds_toArray, List.set_cons_zero, List.set_cons_succ]
      refine wpAnyT_take (i := 9) (oi := { dst := some 52, op := Go.Op.load 115 (Go.Operand.tmp 51), type := 115, pos := "cpu.go:258", after := #[{ on := 8, ground := Go.Ground.data }], guard := none }) (v := ?Lv9) [11] rfl (by decide) (by kernel_rfl) (by kernel_rfl) (by kernel_rfl) (by kernel_rfl) (fun _ _ _ h => h) (Or.inl ⟨by rfl, ?Ly9⟩) hHeld ?Lr9
      case Ly9 => (intro w hSw; (try dsimp only at hSw); go_simp; try with_reducible rfl)
      try simp only [Act.put, List.setIfInBounds_toArray, List.set_cons_zero, List.set_cons_succ]
      refine wpAnyT_one (i := 10) (o := { dst := some 2, op := Go.Op.alloc 115, type := 0, pos := "cpu.go:258", after := #[], guard := none }) (by kernel_rfl) rfl (by decide) (fun K hK => ?_)
      go_simp
      refine hK.out _ _ ?_ (fun hHeld => ?_)
      · exact (by simp only [mk_drewN, mk_drew, mk_alloc (Base.drewN hb1 _)]; exact ⟨cell_30 (by first | assumption | exact Base.alloc (Base.drewN (by assumption) _) _ | exact Base.drewN (by assumption) _ | exact Base.drew (Base.drewN (by assumption) _)), cell_31 (by first | assumption | exact Base.alloc (Base.drewN (by assumption) _) _ | exact Base.drewN (by assumption) _ | exact Base.drew (Base.drewN (by assumption) _)), cell_s (by first | assumption | exact Base.alloc (Base.drewN (by assumption) _) _ | exact Base.drewN (by assumption) _ | exact Base.drew (Base.drewN (by assumption) _)) _ (by omega), cell_s (by first | assumption | exact Base.alloc (Base.drewN (by assumption) _) _ | exact Base.drewN (by assumption) _ | exact Base.drew (Base.drewN (by assumption) _)) _ (by omega), cell_s (by first | assumption | exact Base.alloc (Base.drewN (by assumption) _) _ | exact Base.drewN (by assumption) _ | exact Base.drew (Base.drewN (by assumption) _)) _ (by omega), cell_s (by first | assumption | exact Base.alloc (Base.drewN (by assumption) _) _ | exact Base.drewN (by assumption) _ | exact Base.drew (Base.drewN (by assumption) _)) _ (by omega)⟩)
      clear hK K
      try simp only [Act.put, List.setIfInBounds_toArray, List.set_cons_zero, List.set_cons_succ]
      refine wpAnyT_late (o := { dst := none, op := Go.Op.store 115 (Go.Operand.tmp 2) (Go.Operand.tmp 52), type := 0, pos := "cpu.go:258", after := #[{ on := 10, ground := Go.Ground.data }, { on := 9, ground := Go.Ground.data }, { on := 0, ground := Go.Ground.phase }, { on := 1, ground := Go.Ground.phase }, { on := 2, ground := Go.Ground.phase }, { on := 3, ground := Go.Ground.phase }, { on := 4, ground := Go.Ground.phase }, { on := 5, ground := Go.Ground.phase }, { on := 6, ground := Go.Ground.phase }, { on := 7, ground := Go.Ground.phase }, { on := 8, ground := Go.Ground.phase }, { on := 9, ground := Go.Ground.phase }, { on := 10, ground := Go.Ground.phase }], guard := none }) (by kernel_rfl) rfl (fun K hK => ?_)
      go_simp
      refine hK.out _ _ ?_
      clear hK K
      try simp only [Act.put, List.setIfInBounds_toArray, List.set_cons_zero, List.set_cons_succ]
      refine wpAnyT_done (by kernel_rfl) ?_ _
      clear hHeld
      obtain ⟨w2, hw2, hx2, hb2, hN⟩ := step_made hb1 (nq + 1) (sl (i * 4)) (sl (i * 4 + 1)) (sl (i * 4 + 2)) (sl (i * 4 + 3)) 115
      rw [mk_drewN, mk_alloc (Base.drewN hb1 _), ← hw2]
      have N0 := Lib.hid hN
      clear hw2 hN
      have n0 := fun c' => (N0.out w2 (Ext.refl _) c' sl b).1
      have n1 := fun c' => (N0.out w2 (Ext.refl _) c' sl b).2.1
      have n2 := fun c' => (N0.out w2 (Ext.refl _) c' sl b).2.2.1
      have n3 := fun c' => (N0.out w2 (Ext.refl _) c' sl b).2.2.2
      have hO := HO.out
      rw [HS.out] at hO
      simp only [okStp, Bool.and_eq_true, Bool.or_eq_true, decide_eq_true_eq, beq_iff_eq] at hO
      obtain ⟨⟨⟨p0, p1⟩, x0⟩, hO⟩ := hO
      have HO2 := Lib.hid hO
      clear hO
      by_cases k5 : sl (i * 4) = 5
      · have hW := Lib.hid (show okWork (sl (i * 4 + 2)) = true by rcases HO2.out with (⟨⟨⟨h, _⟩, _⟩, _⟩ | ⟨_, h⟩) | ⟨h, _⟩; (· omega); (· exact h); (· omega))
        go_wp2_with (go_at_call 74; refine Calls.mono (cwork_any (by assumption) _ sl b (HA.out _) _ hW.out) ?_; rintro e W ⟨rfl, w3, hx3, hb3, rfl⟩)
        go_roundg g
        case measure => exact Nat.lt_succ_self g
        case rel => first | exact rel_work ((hx.trans hx2).trans hx3) hb3 HM.out HC.out hlt HF.out hn1 (by rw [HS.out, k5]) | exact ⟨rel_work ((hx.trans hx2).trans hx3) hb3 HM.out HC.out hlt HF.out hn1 (by rw [HS.out, k5]), rfl⟩ | ((repeat apply Exists.intro); exact ⟨rel_work ((hx.trans hx2).trans hx3) hb3 HM.out HC.out hlt HF.out hn1 (by rw [HS.out, k5]), rfl⟩)
      by_cases k6 : sl (i * 4) = 6
      · have hx3 : sl (i * 4 + 2) ≤ 3 := by rcases HO2.out with (⟨⟨⟨h, _⟩, _⟩, _⟩ | ⟨h, _⟩) | ⟨_, h⟩ <;> omega
        by_cases hmet : ({ c1 with at_ := (i : Int) + 1, second := 0, ahead := false } : Cp).met (sl (i * 4 + 2)) = true
        · have HT := Lib.hid hmet
          clear hmet
          go_wp2_with (go_at_call 75; refine Calls.mono (met_any (by assumption) _ sl b (HA.out _) _ ⟨x0, by omega⟩) ?_; rintro e W ⟨rfl, nn, rfl⟩; rw [HT.out])
          go_roundg g
          case measure => exact Nat.lt_succ_self g
          case rel => first | exact rel_met ((hx.trans hx2).drewN' nn) (hb2.drewN nn) HM.out HC.out hlt HF.out hn1 (by rw [HS.out, k6]) HT.out | exact ⟨rel_met ((hx.trans hx2).drewN' nn) (hb2.drewN nn) HM.out HC.out hlt HF.out hn1 (by rw [HS.out, k6]) HT.out, rfl⟩ | ((repeat apply Exists.intro); exact ⟨rel_met ((hx.trans hx2).drewN' nn) (hb2.drewN nn) HM.out HC.out hlt HF.out hn1 (by rw [HS.out, k6]) HT.out, rfl⟩)
        · have HT := Lib.hid (show ({ c1 with at_ := (i : Int) + 1, second := 0, ahead := false } : Cp).met (sl (i * 4 + 2)) = false by simpa using hmet)
          clear hmet
          go_wp2_with (go_at_call 75; refine Calls.mono (met_any (by assumption) _ sl b (HA.out _) _ ⟨x0, by omega⟩) ?_; rintro e W ⟨rfl, nn, rfl⟩; rw [HT.out])
          go_roundg g
          case measure => exact Nat.lt_succ_self g
          case rel => first | exact rel_unmet ((hx.trans hx2).drewN' nn) (hb2.drewN nn) HM.out HC.out hlt HF.out hn1 (by rw [HS.out, k6]) HT.out | exact ⟨rel_unmet ((hx.trans hx2).drewN' nn) (hb2.drewN nn) HM.out HC.out hlt HF.out hn1 (by rw [HS.out, k6]) HT.out, rfl⟩ | ((repeat apply Exists.intro); exact ⟨rel_unmet ((hx.trans hx2).drewN' nn) (hb2.drewN nn) HM.out HC.out hlt HF.out hn1 (by rw [HS.out, k6]) HT.out, rfl⟩)
      have hK : (sl (i * 4) = 0 ∨ sl (i * 4) = 1 ∨ sl (i * 4) = 2) ∧ sl (i * 4 + 2) ≤ 13 := by rcases HO2.out with (⟨⟨⟨h, _⟩, _⟩, h'⟩ | ⟨h, _⟩) | ⟨h, _⟩ <;> omega
      obtain ⟨hK, x1⟩ := hK
      have HE := Lib.hid (at_cycle HC.out hlt HF.out HS.out k5 k6)
      have HB := Lib.hid (show ({ ({ c1 with at_ := (i : Int) + 1, second := 0, ahead := false } : Cp).placeC (sl (i * 4 + 1)) with what := sl (i * 4 + 2), port := false } : Cp).Ok from by
        have h := (HM.out.told2 (a := (i : Int) + 1) (by omega) (by omega)).placeC (sl (i * 4 + 1))
        exact { h.ok with })
      clear k5 k6
      rcases hK with k0 | k0 | k0
      · have HE2 := Lib.hid (show nextF 40 c sl = ({ c1 with at_ := (i : Int) + 1, second := 0, ahead := false } : Cp).cycle ⟨0, sl (i * 4 + 1), sl (i * 4 + 2), sl (i * 4 + 3)⟩ by rw [HE.out, k0])
        go_wp2_with (go_at_call 76; refine Calls.mono (cycle_0 (by assumption) _ sl b (HA.out _) _ _ _ p0 p1 x0 x1 HB.out) ?_; rintro e W ⟨rfl, w3, hx3, hb3, rfl⟩)
        all_goals
          (first | go_end0 | refine bodyPost_ret (results_none rfl _ _ _) rfl ?_)
          refine ⟨rfl, ?_⟩
          rw [HP.out, HE2.out]
          exact Lft.mk' (by assumption) ((hx.trans hx2).trans hx3)
      · have HE2 := Lib.hid (show nextF 40 c sl = ({ c1 with at_ := (i : Int) + 1, second := 0, ahead := false } : Cp).cycle ⟨1, sl (i * 4 + 1), sl (i * 4 + 2), sl (i * 4 + 3)⟩ by rw [HE.out, k0])
        go_wp2_with (go_at_call 76; refine Calls.mono (cycle_1 (by assumption) _ sl b (HA.out _) _ _ _ p0 p1 x0 x1 HB.out) ?_; rintro e W ⟨rfl, w3, hx3, hb3, rfl⟩)
        all_goals
          (first | go_end0 | refine bodyPost_ret (results_none rfl _ _ _) rfl ?_)
          refine ⟨rfl, ?_⟩
          rw [HP.out, HE2.out]
          exact Lft.mk' (by assumption) ((hx.trans hx2).trans hx3)
      · have HE2 := Lib.hid (show nextF 40 c sl = ({ c1 with at_ := (i : Int) + 1, second := 0, ahead := false } : Cp).cycle ⟨2, sl (i * 4 + 1), sl (i * 4 + 2), sl (i * 4 + 3)⟩ by rw [HE.out, k0])
        go_wp2_with (go_at_call 76; refine Calls.mono (cycle_2 (by assumption) _ sl b (HA.out _) _ _ _ p0 p1 x0 x1 HB.out) ?_; rintro e W ⟨rfl, w3, hx3, hb3, rfl⟩)
        all_goals
          (first | go_end0 | refine bodyPost_ret (results_none rfl _ _ _) rfl ?_)
          refine ⟨rfl, ?_⟩
          rw [HP.out, HE2.out]
          exact Lft.mk' (by assumption) ((hx.trans hx2).trans hx3)
    · have t1 : decide (c1.len ≤ i) = true := by simp; omega
      have HE := Lib.hid (show nextF 40 c sl = _ from HF.out.symm.trans (nextF_end HC.out hlt))
      unfold Cp.stepAt
      go_wp2
      go_quiet (fail)
      rw [mk_drewN]
      have hb1 := Base.drewN hb1 nq
      have hx := Ext.drewN' hx nq
      by_cases hw : c1.wrote = true
      all_goals
        first | (have HW := Lib.hid (ends_w HC.out hw)) | (have hw : c1.wrote = false := (by simpa using hw); have HW := Lib.hid (ends_w HC.out hw))
        go_wp2
        (first | go_end0 | refine bodyPost_ret (results_none rfl _ _ _) rfl ?_)
        refine ⟨rfl, ?_⟩
        rw [HP.out, HE.out, HW.out]
        exact Lft.mk' hb1 hx
theorem next_any (hts : m.ts = 115) (hm : Mid c sl) : Calls Tryz.prog 62 #[.pointer (some ⟨m.c, 0, none⟩)] (mk w m c sl b) fun e W => e = .returned (.tuple #[]) ∧ Lft w m (c.next sl) sl b W := by
  by_cases h2 : 0 < c.second
  · exact next_s hb c sl b hm h2
  · exact next_l hb c sl b hts hm (by have := hm.second; omega)

end
end Go.Proofs.YtneganpbamemmaaGreat
