/- The processor: a code that was fetched. -/
import Derived.Test.YtneganpbamemmaaGreatProc1
set_option linter.unusedVariables false
set_option linter.unusedSimpArgs false
set_option linter.unusedSectionVars false
namespace Go.Proofs.YtneganpbamemmaaGreat
open Go Go.RowKit Sq

theorem tick_halt (g : Rg) : g.tick.halt = g.halt := rfl
theorem tick_pre (g : Rg) : g.tick.pre = g.pre := rfl
theorem tick_pc (g : Rg) : g.tick.pc = g.pc := rfl
attribute [local go_sem] tick_halt tick_pre tick_pc
/-- The processor with those of its numbers spelled out on which a code's way hangs. -/
def _root_.Sq.Cp.told (c : Cp) (s : Int) (h : Bool) : Cp := { c with second := s, g := { c.g with pre := 0, halt := h } }
theorem told_eq {c : Cp} {s : Int} {h : Bool} (h1 : c.second = s) (h2 : c.g.halt = h) (h3 : c.g.pre = 0) : c = c.told s h := by
  obtain ⟨g, _, _, _, _, _, _, _, _, _, _, _, _, _, _, _, _, _, _, _, _⟩ := c
  obtain ⟨_, _, _, _, _, _, _, _, _, _, _, _, _, _, _, _, _, _, _, _, _, _, _, _, _, _, _, _, _, _⟩ := g
  dsimp only at h1 h2 h3
  subst h1 h2 h3
  rfl
section
variable {m : Mac} {w : World} (hb : Base m w) (c : Cp) (sl : Nat → Int) (b : Bd)
include hb
set_option maxHeartbeats 1000000 in
theorem fetched_h (ho : c.Ok) (hts : m.ts = 115) (v : Int) (h0 : 0 ≤ v) (h1 : v < 256) (s : Int) : Calls Tryz.prog 60 #[.pointer (some ⟨m.c, 0, none⟩), .int .u8 v] (mk w m (c.told s true) sl b) fun e W => e = .returned (.tuple #[]) ∧ Lft w m ((c.told s true).fetched v) ((c.told s true).fetchedS sl v) b W := by
  have hg : (c.told s true).g.Ok := { ho.g with pre := by show 0 ≤ (0 : Int) ∧ (0 : Int) ≤ 2; omega }
  have hc : (c.told s true).Ok := { ho with g := hg }
  have K1 : (c.told s true).counted.Ok := hc.setG (counted_ok hg)
  have K2 : ({ (c.told s true).counted with second := 0 } : Cp).Ok := { K1 with }
  have HP := Lib.hid (show (c.told s true).fetched v = _ from if_pos rfl)
  have HS := Lib.hid (show (c.told s true).fetchedS sl v = _ from if_pos rfl)
  unfold Cp.told at *
  go_enter Tryz.func60, Tryz.ntmps60
  go_wp2_with (go_at_call 71; (try simp only [mk_drew, mk_drewN]); refine Calls.mono (tick_any (by first | assumption | exact Base.drew (by assumption) | exact Base.drewN (by assumption) _ | exact Base.alloc (by assumption) _) _ _ _ (by assumption)) ?_; rintro e W ⟨rfl, w1, hx1, hb1, rfl⟩)
  all_goals
    (first | go_end0 | refine bodyPost_ret (results_none rfl _ _ _) rfl ?_)
    refine ⟨rfl, ?_⟩
    rw [HP.out, HS.out]
    exact Lft.mk' (by first | assumption | exact Base.drew (by assumption) | exact Base.drewN (by assumption) _ | exact Base.alloc (by assumption) _) (by repeat (first | exact Ext.refl _ | assumption | refine Ext.drew' ?_ | refine Ext.drewN' ?_ _ | refine Ext.alloc' ?_ _ | refine Ext.trans ?_ (by assumption)))
set_option maxHeartbeats 1000000 in
theorem fetched_s (ho : c.Ok) (hts : m.ts = 115) (v : Int) (h0 : 0 ≤ v) (h1 : v < 256) (n1 : v ≠ 221) (n2 : v ≠ 253) (s : Int) (hs1 : 0 < s) (hs2 : 0 ≤ s ∧ s ≤ 2) : Calls Tryz.prog 60 #[.pointer (some ⟨m.c, 0, none⟩), .int .u8 v] (mk w m (c.told s false) sl b) fun e W => e = .returned (.tuple #[]) ∧ Lft w m ((c.told s false).fetched v) ((c.told s false).fetchedS sl v) b W := by
  have hg : (c.told s false).g.Ok := { ho.g with pre := by show 0 ≤ (0 : Int) ∧ (0 : Int) ≤ 2; omega }
  have hc : (c.told s false).Ok := { ho with g := hg }
  have K1 : (c.told s false).counted.Ok := hc.setG (counted_ok hg)
  have K2 : ({ (c.told s false).counted with second := 0 } : Cp).Ok := { K1 with }
  have v1 : (v == 221) = false := by simpa using n1
  have v2 : (v == 253) = false := by simpa using n2
  have H := Lib.hid (fun (w' : World) (hb' : Base m w') (c' : Cp) (ho' : c'.Ok) (s : Int) (hs : 0 ≤ s ∧ s ≤ 2) => program_any hb' c' sl b ho' hts s v hs h0 h1)
  clear hts n1 n2
  have HP := Lib.hid (show (c.told s false).fetched v = _ from (if_neg (by show ¬ false = true; decide)).trans (if_pos hs1))
  have HS := Lib.hid (show (c.told s false).fetchedS sl v = _ from (if_neg (by show ¬ false = true; decide)).trans (if_pos hs1))
  unfold Cp.told at *
  go_enter Tryz.func60, Tryz.ntmps60
  go_wp2_with (first | (go_at_call 71; (try simp only [mk_drew, mk_drewN]); refine Calls.mono (tick_any (by first | assumption | exact Base.drew (by assumption) | exact Base.drewN (by assumption) _ | exact Base.alloc (by assumption) _) _ _ _ (by assumption)) ?_; rintro e W ⟨rfl, w1, hx1, hb1, rfl⟩) | (go_at_call 73; (try simp only [mk_drew, mk_drewN]); refine Calls.mono (H.out _ (by first | assumption | exact Base.drew (by assumption) | exact Base.drewN (by assumption) _ | exact Base.alloc (by assumption) _) _ (by first | exact K2 | exact K1) _ (by first | exact hs2 | omega)) ?_; rintro e W ⟨rfl, w1, hx1, hb1, rfl⟩))
  all_goals
    (first | go_end0 | refine bodyPost_ret (results_none rfl _ _ _) rfl ?_)
    refine ⟨rfl, ?_⟩
    rw [HP.out, HS.out]
    exact Lft.mk' (by first | assumption | exact Base.drew (by assumption) | exact Base.drewN (by assumption) _ | exact Base.alloc (by assumption) _) (by repeat (first | exact Ext.refl _ | assumption | refine Ext.drew' ?_ | refine Ext.drewN' ?_ _ | refine Ext.alloc' ?_ _ | refine Ext.trans ?_ (by assumption)))
set_option maxHeartbeats 1000000 in
theorem fetched_e (ho : c.Ok) (hts : m.ts = 115) : Calls Tryz.prog 60 #[.pointer (some ⟨m.c, 0, none⟩), .int .u8 237] (mk w m (c.told 0 false) sl b) fun e W => e = .returned (.tuple #[]) ∧ Lft w m ((c.told 0 false).fetched 237) ((c.told 0 false).fetchedS sl 237) b W := by
  have hg : (c.told 0 false).g.Ok := { ho.g with pre := by show 0 ≤ (0 : Int) ∧ (0 : Int) ≤ 2; omega }
  have hc : (c.told 0 false).Ok := { ho with g := hg }
  have K1 : (c.told 0 false).counted.Ok := hc.setG (counted_ok hg)
  have K2 : ({ (c.told 0 false).counted with second := 0 } : Cp).Ok := { K1 with }
  have HP := Lib.hid (show (c.told 0 false).fetched 237 = _ from (if_neg (by show ¬ false = true; decide)).trans ((if_neg (by show ¬ (0 : Int) < 0; omega)).trans (if_pos rfl)))
  have HS := Lib.hid (show (c.told 0 false).fetchedS sl 237 = _ from (if_neg (by show ¬ false = true; decide)).trans ((if_neg (by show ¬ (0 : Int) < 0; omega)).trans (if_pos rfl)))
  unfold Cp.told at *
  go_enter Tryz.func60, Tryz.ntmps60
  go_wp2_with (go_at_call 71; (try simp only [mk_drew, mk_drewN]); refine Calls.mono (tick_any (by first | assumption | exact Base.drew (by assumption) | exact Base.drewN (by assumption) _ | exact Base.alloc (by assumption) _) _ _ _ (by assumption)) ?_; rintro e W ⟨rfl, w1, hx1, hb1, rfl⟩)
  all_goals
    (first | go_end0 | refine bodyPost_ret (results_none rfl _ _ _) rfl ?_)
    refine ⟨rfl, ?_⟩
    rw [HP.out, HS.out]
    exact Lft.mk' (by first | assumption | exact Base.drew (by assumption) | exact Base.drewN (by assumption) _ | exact Base.alloc (by assumption) _) (by repeat (first | exact Ext.refl _ | assumption | refine Ext.drew' ?_ | refine Ext.drewN' ?_ _ | refine Ext.alloc' ?_ _ | refine Ext.trans ?_ (by assumption)))
set_option maxHeartbeats 1000000 in
theorem fetched_c (ho : c.Ok) (hts : m.ts = 115) : Calls Tryz.prog 60 #[.pointer (some ⟨m.c, 0, none⟩), .int .u8 203] (mk w m (c.told 0 false) sl b) fun e W => e = .returned (.tuple #[]) ∧ Lft w m ((c.told 0 false).fetched 203) ((c.told 0 false).fetchedS sl 203) b W := by
  have hg : (c.told 0 false).g.Ok := { ho.g with pre := by show 0 ≤ (0 : Int) ∧ (0 : Int) ≤ 2; omega }
  have hc : (c.told 0 false).Ok := { ho with g := hg }
  have K1 : (c.told 0 false).counted.Ok := hc.setG (counted_ok hg)
  have K2 : ({ (c.told 0 false).counted with second := 0 } : Cp).Ok := { K1 with }
  have HP := Lib.hid (show (c.told 0 false).fetched 203 = _ from (if_neg (by show ¬ false = true; decide)).trans ((if_neg (by show ¬ (0 : Int) < 0; omega)).trans ((if_neg (by decide)).trans (if_pos rfl))))
  have HS := Lib.hid (show (c.told 0 false).fetchedS sl 203 = _ from (if_neg (by show ¬ false = true; decide)).trans ((if_neg (by show ¬ (0 : Int) < 0; omega)).trans ((if_neg (by decide)).trans (if_pos rfl))))
  unfold Cp.told at *
  go_enter Tryz.func60, Tryz.ntmps60
  go_wp2_with (go_at_call 71; (try simp only [mk_drew, mk_drewN]); refine Calls.mono (tick_any (by first | assumption | exact Base.drew (by assumption) | exact Base.drewN (by assumption) _ | exact Base.alloc (by assumption) _) _ _ _ (by assumption)) ?_; rintro e W ⟨rfl, w1, hx1, hb1, rfl⟩)
  all_goals
    (first | go_end0 | refine bodyPost_ret (results_none rfl _ _ _) rfl ?_)
    refine ⟨rfl, ?_⟩
    rw [HP.out, HS.out]
    exact Lft.mk' (by first | assumption | exact Base.drew (by assumption) | exact Base.drewN (by assumption) _ | exact Base.alloc (by assumption) _) (by repeat (first | exact Ext.refl _ | assumption | refine Ext.drew' ?_ | refine Ext.drewN' ?_ _ | refine Ext.alloc' ?_ _ | refine Ext.trans ?_ (by assumption)))
set_option maxHeartbeats 1000000 in
theorem fetched_p (ho : c.Ok) (hts : m.ts = 115) (v : Int) (h0 : 0 ≤ v) (h1 : v < 256) (n1 : v ≠ 221) (n2 : v ≠ 253) (n3 : v ≠ 237) (n4 : v ≠ 203) : Calls Tryz.prog 60 #[.pointer (some ⟨m.c, 0, none⟩), .int .u8 v] (mk w m (c.told 0 false) sl b) fun e W => e = .returned (.tuple #[]) ∧ Lft w m ((c.told 0 false).fetched v) ((c.told 0 false).fetchedS sl v) b W := by
  have hg : (c.told 0 false).g.Ok := { ho.g with pre := by show 0 ≤ (0 : Int) ∧ (0 : Int) ≤ 2; omega }
  have hc : (c.told 0 false).Ok := { ho with g := hg }
  have K1 : (c.told 0 false).counted.Ok := hc.setG (counted_ok hg)
  have K2 : ({ (c.told 0 false).counted with second := 0 } : Cp).Ok := { K1 with }
  have v1 : (v == 221) = false := by simpa using n1
  have v2 : (v == 253) = false := by simpa using n2
  have H := Lib.hid (fun (w' : World) (hb' : Base m w') (c' : Cp) (ho' : c'.Ok) (s : Int) (hs : 0 ≤ s ∧ s ≤ 2) => program_any hb' c' sl b ho' hts s v hs h0 h1)
  clear hts n1 n2
  have HP := Lib.hid (show (c.told 0 false).fetched v = _ from (if_neg (by show ¬ false = true; decide)).trans ((if_neg (by show ¬ (0 : Int) < 0; omega)).trans ((if_neg n3).trans (if_neg n4))))
  have HS := Lib.hid (show (c.told 0 false).fetchedS sl v = _ from (if_neg (by show ¬ false = true; decide)).trans ((if_neg (by show ¬ (0 : Int) < 0; omega)).trans ((if_neg n3).trans (if_neg n4))))
  have v3 : (v == 237) = false := by simpa using n3
  have v4 : (v == 203) = false := by simpa using n4
  clear n3 n4
  unfold Cp.told at *
  go_enter Tryz.func60, Tryz.ntmps60
  go_wp2_with (first | (go_at_call 71; (try simp only [mk_drew, mk_drewN]); refine Calls.mono (tick_any (by first | assumption | exact Base.drew (by assumption) | exact Base.drewN (by assumption) _ | exact Base.alloc (by assumption) _) _ _ _ (by assumption)) ?_; rintro e W ⟨rfl, w1, hx1, hb1, rfl⟩) | (go_at_call 73; (try simp only [mk_drew, mk_drewN]); refine Calls.mono (H.out _ (by first | assumption | exact Base.drew (by assumption) | exact Base.drewN (by assumption) _ | exact Base.alloc (by assumption) _) _ (by first | exact K2 | exact K1) _ (by first | exact hs2 | omega)) ?_; rintro e W ⟨rfl, w1, hx1, hb1, rfl⟩))
  all_goals
    (first | go_end0 | refine bodyPost_ret (results_none rfl _ _ _) rfl ?_)
    refine ⟨rfl, ?_⟩
    rw [HP.out, HS.out]
    exact Lft.mk' (by first | assumption | exact Base.drew (by assumption) | exact Base.drewN (by assumption) _ | exact Base.alloc (by assumption) _) (by repeat (first | exact Ext.refl _ | assumption | refine Ext.drew' ?_ | refine Ext.drewN' ?_ _ | refine Ext.alloc' ?_ _ | refine Ext.trans ?_ (by assumption)))
theorem fetched_any (ho : c.Ok) (hts : m.ts = 115) (v : Int) (h0 : 0 ≤ v) (h1 : v < 256) (hs : 0 ≤ c.second ∧ c.second ≤ 2) (hpre : c.g.pre = 0) (hn : c.g.halt = false → v ≠ 221 ∧ v ≠ 253) : Calls Tryz.prog 60 #[.pointer (some ⟨m.c, 0, none⟩), .int .u8 v] (mk w m c sl b) fun e W => e = .returned (.tuple #[]) ∧ Lft w m (c.fetched v) (c.fetchedS sl v) b W := by
  by_cases hh : c.g.halt = true
  · rw [told_eq rfl hh hpre]
    exact fetched_h hb c sl b ho hts v h0 h1 c.second
  have hh : c.g.halt = false := by simpa using hh
  obtain ⟨n1, n2⟩ := hn hh
  by_cases h2 : 0 < c.second
  · rw [told_eq rfl hh hpre]
    exact fetched_s hb c sl b ho hts v h0 h1 n1 n2 c.second h2 hs
  rw [told_eq (show c.second = 0 from by omega) hh hpre]
  by_cases h3 : v = 237
  · subst h3; exact fetched_e hb c sl b ho hts
  by_cases h4 : v = 203
  · subst h4; exact fetched_c hb c sl b ho hts
  exact fetched_p hb c sl b ho hts v h0 h1 n1 n2 h3 h4
end
end Go.Proofs.YtneganpbamemmaaGreat
