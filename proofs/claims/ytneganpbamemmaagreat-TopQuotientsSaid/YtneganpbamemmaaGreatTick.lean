/- One T-state of the processor. -/
import Derived.Test.YtneganpbamemmaaGreatFin
set_option linter.unusedVariables false
set_option linter.unusedSimpArgs false
set_option linter.unusedSectionVars false
namespace Go.Proofs.YtneganpbamemmaaGreat
open Go Go.RowKit Sq
attribute [local go_sem] ahead_read ahead_write ahead_hold ahead_int meth_read meth_write meth_hold meth_int
theorem begin_eq {c : Cp} (h1 : c.nmi = false) (h2 : c.g.iff1 = false) : c = { c with nmi := false, g := { c.g with iff1 := false } } := by
  obtain ⟨g, _, _, _, _, _, _, _, _, _, _, _, _, _, _, _, _, _, _, _, _⟩ := c
  obtain ⟨_, _, _, _, _, _, _, _, _, _, _, _, _, _, _, _, _, _, _, _, _, _, _, _, _, _, _, _, _, _⟩ := g
  dsimp only at h1 h2
  subst h1 h2
  rfl
section
variable {m : Mac} {w : World} (hb : Base m w) (c : Cp) (sl : Nat → Int) (b : Bd)
include hb
set_option maxRecDepth 8000 in
set_option maxHeartbeats 1000000 in
theorem begin_true (t0 : 0 ≤ b.frame) (t1 : b.frame < 69888) (hf : decide (b.frame < 32) = true) : Calls Tryz.prog 50 #[.pointer (some ⟨m.c, 0, none⟩), .iface 61 (.pointer (some ⟨m.b, 0, none⟩))] (mk w m { c with nmi := false, g := { c.g with iff1 := false } } sl b) fun e W => e = .returned (.tuple #[]) ∧ Lft w m ({ c with nmi := false, g := { c.g with iff1 := false } } : Cp).begin sl b W := by
  have HI := Lib.hid (fun (w' : World) (hb' : Base m w') (c' : Cp) => bint_any hb' c' sl b t0 t1)
  have HF := Lib.hid hf
  clear hf
  go_enter Tryz.func50, Tryz.ntmps50
  go_wp2_with (first | (go_at_call 283; (try simp only [mk_drew, mk_drewN]); refine Calls.mono (HI.out _ (by first | assumption | exact Base.drew (by assumption) | exact Base.drewN (by assumption) _ | exact Base.drewN (Base.drew (by assumption)) _) _) ?_; rintro e W ⟨rfl, rfl⟩; rw [HF.out]) | (go_at_call 59; (try simp only [mk_drew, mk_drewN]); refine Calls.mono (start_any (by first | assumption | exact Base.drew (by assumption) | exact Base.drewN (by assumption) _ | exact Base.drewN (Base.drew (by assumption)) _) _ _ _ _ _ _) ?_; rintro e W ⟨rfl, rfl⟩))
  all_goals
    (first | go_end0 | refine bodyPost_ret (results_none rfl _ _ _) rfl ?_)
    exact ⟨rfl, Lft.mk' (by first | assumption | exact Base.drew (by assumption) | exact Base.drewN (by assumption) _ | exact Base.drewN (Base.drew (by assumption)) _) (by repeat (first | exact Ext.refl _ | assumption | refine Ext.drew' ?_ | refine Ext.drewN' ?_ _ | refine Ext.trans ?_ (by assumption)))⟩
set_option maxRecDepth 8000 in
set_option maxHeartbeats 1000000 in
theorem begin_false (t0 : 0 ≤ b.frame) (t1 : b.frame < 69888) (hf : decide (b.frame < 32) = false) : Calls Tryz.prog 50 #[.pointer (some ⟨m.c, 0, none⟩), .iface 61 (.pointer (some ⟨m.b, 0, none⟩))] (mk w m { c with nmi := false, g := { c.g with iff1 := false } } sl b) fun e W => e = .returned (.tuple #[]) ∧ Lft w m ({ c with nmi := false, g := { c.g with iff1 := false } } : Cp).begin sl b W := by
  have HI := Lib.hid (fun (w' : World) (hb' : Base m w') (c' : Cp) => bint_any hb' c' sl b t0 t1)
  have HF := Lib.hid hf
  clear hf
  go_enter Tryz.func50, Tryz.ntmps50
  go_wp2_with (first | (go_at_call 283; (try simp only [mk_drew, mk_drewN]); refine Calls.mono (HI.out _ (by first | assumption | exact Base.drew (by assumption) | exact Base.drewN (by assumption) _ | exact Base.drewN (Base.drew (by assumption)) _) _) ?_; rintro e W ⟨rfl, rfl⟩; rw [HF.out]) | (go_at_call 59; (try simp only [mk_drew, mk_drewN]); refine Calls.mono (start_any (by first | assumption | exact Base.drew (by assumption) | exact Base.drewN (by assumption) _ | exact Base.drewN (Base.drew (by assumption)) _) _ _ _ _ _ _) ?_; rintro e W ⟨rfl, rfl⟩))
  all_goals
    (first | go_end0 | refine bodyPost_ret (results_none rfl _ _ _) rfl ?_)
    exact ⟨rfl, Lft.mk' (by first | assumption | exact Base.drew (by assumption) | exact Base.drewN (by assumption) _ | exact Base.drewN (Base.drew (by assumption)) _) (by repeat (first | exact Ext.refl _ | assumption | refine Ext.drew' ?_ | refine Ext.drewN' ?_ _ | refine Ext.trans ?_ (by assumption)))⟩
theorem begin_any (hn : c.nmi = false) (hi : c.g.iff1 = false) (t0 : 0 ≤ b.frame) (t1 : b.frame < 69888) : Calls Tryz.prog 50 #[.pointer (some ⟨m.c, 0, none⟩), .iface 61 (.pointer (some ⟨m.b, 0, none⟩))] (mk w m c sl b) fun e W => e = .returned (.tuple #[]) ∧ Lft w m c.begin sl b W := by
  rw [begin_eq hn hi]
  cases hf : decide (b.frame < 32)
  · exact begin_false hb c sl b t0 t1 hf
  · exact begin_true hb c sl b t0 t1 hf
set_option maxRecDepth 8000 in
set_option maxHeartbeats 1000000 in
theorem tick_x_true_w (k : Int) (k1 : k ≠ -1) (k4 : k ≠ 4) (kk : k = 0 ∨ k = 1 ∨ k = 2) (w0 : 0 < c.wait) (w6 : c.wait ≤ 6) : Calls Tryz.prog 45 #[.pointer (some ⟨m.c, 0, none⟩), .iface 61 (.pointer (some ⟨m.b, 0, none⟩))] (mk w m { c with kind := k, held := true } sl b) fun e W => e = .returned (.tuple #[]) ∧ Lft w m { c with kind := k, held := true, wait := c.wait - 1 } sl b W := by
  have e1 : (k == -1) = false := by simpa using k1
  have e4 : (k == 4) = false := by simpa using k4
  clear k1 k4 kk
  go_enter Tryz.func45, Tryz.ntmps45
  go_wp2_with fail
  all_goals
    (first | go_end0 | refine bodyPost_ret (results_none rfl _ _ _) rfl ?_)
    exact ⟨rfl, Lft.mk' (by first | assumption | exact Base.drew (by assumption) | exact Base.drewN (by assumption) _ | exact Base.drewN (Base.drew (by assumption)) _) (by repeat (first | exact Ext.refl _ | assumption | refine Ext.drew' ?_ | refine Ext.drewN' ?_ _ | refine Ext.trans ?_ (by assumption)))⟩
set_option maxRecDepth 8000 in
set_option maxHeartbeats 1000000 in
theorem tick_x_true_g (k : Int) (k1 : k ≠ -1) (k4 : k ≠ 4) (kk : k = 0 ∨ k = 1 ∨ k = 2) (tt0 : 0 ≤ c.t) (tt1 : c.t ≤ 8) (nn0 : 0 ≤ c.n) (nn1 : c.n ≤ 8) (w0 : ¬ 0 < c.wait) (hq : (c.t + 1 == c.n) = false) : Calls Tryz.prog 45 #[.pointer (some ⟨m.c, 0, none⟩), .iface 61 (.pointer (some ⟨m.b, 0, none⟩))] (mk w m { c with kind := k, held := true } sl b) fun e W => e = .returned (.tuple #[]) ∧ Lft w m { c with kind := k, held := false, t := c.t + 1 } sl b W := by
  have e1 : (k == -1) = false := by simpa using k1
  have e4 : (k == 4) = false := by simpa using k4
  clear k1 k4 kk
  go_enter Tryz.func45, Tryz.ntmps45
  go_wp2_with fail
  all_goals
    go_quiet (fail)
    rw [mk_drewN]
    go_wp2_with fail
    (first | go_end0 | refine bodyPost_ret (results_none rfl _ _ _) rfl ?_)
    exact ⟨rfl, Lft.mk' (by first | assumption | exact Base.drew (by assumption) | exact Base.drewN (by assumption) _ | exact Base.drewN (Base.drew (by assumption)) _) (by repeat (first | exact Ext.refl _ | assumption | refine Ext.drew' ?_ | refine Ext.drewN' ?_ _ | refine Ext.trans ?_ (by assumption)))⟩
set_option maxRecDepth 8000 in
set_option maxHeartbeats 1000000 in
theorem tick_x_true_f (k : Int) (k1 : k ≠ -1) (k4 : k ≠ 4) (kk : k = 0 ∨ k = 1 ∨ k = 2) (tt0 : 0 ≤ c.t) (tt1 : c.t ≤ 8) (nn0 : 0 ≤ c.n) (nn1 : c.n ≤ 8) (w0 : ¬ 0 < c.wait) (hq : (c.t + 1 == c.n) = true) (cR : Cp) (slR : Nat → Int) (bR : Bd) (HF : ∀ w' : World, Base m w' → Calls Tryz.prog 51 #[.pointer (some ⟨m.c, 0, none⟩), .iface 61 (.pointer (some ⟨m.b, 0, none⟩))] (mk w' m { c with kind := k, held := false, t := c.t + 1 } sl b) fun e W => e = .returned (.tuple #[]) ∧ Lft w' m cR slR bR W) : Calls Tryz.prog 45 #[.pointer (some ⟨m.c, 0, none⟩), .iface 61 (.pointer (some ⟨m.b, 0, none⟩))] (mk w m { c with kind := k, held := true } sl b) fun e W => e = .returned (.tuple #[]) ∧ Lft w m cR slR bR W := by
  have e1 : (k == -1) = false := by simpa using k1
  have e4 : (k == 4) = false := by simpa using k4
  have HF := Lib.hid HF
  clear k1 k4 kk
  go_enter Tryz.func45, Tryz.ntmps45
  go_wp2_with fail
  all_goals
    go_quiet (fail)
    rw [mk_drewN]
    go_wp2_with (go_at_call 51; (try simp only [mk_drew, mk_drewN]); refine Calls.mono (HF.out _ (by first | assumption | exact Base.drew (by assumption) | exact Base.drewN (by assumption) _ | exact Base.drewN (Base.drew (by assumption)) _)) ?_; rintro e W ⟨rfl, w2, hx2, hb2, rfl⟩)
    (first | go_end0 | refine bodyPost_ret (results_none rfl _ _ _) rfl ?_)
    exact ⟨rfl, Lft.mk' (by first | assumption | exact Base.drew (by assumption) | exact Base.drewN (by assumption) _ | exact Base.drewN (Base.drew (by assumption)) _) (by repeat (first | exact Ext.refl _ | assumption | refine Ext.drew' ?_ | refine Ext.drewN' ?_ _ | refine Ext.trans ?_ (by assumption)))⟩
set_option maxRecDepth 8000 in
set_option maxHeartbeats 1000000 in
theorem tick_x_false_w (k : Int) (k1 : k ≠ -1) (k4 : k ≠ 4) (kk : k = 0 ∨ k = 1 ∨ k = 2) (a0 : 0 ≤ c.addr) (a1 : c.addr < 65536) (t0 : 0 ≤ b.frame) (t1 : b.frame < 69888) (w0 : 0 < (b.hold k c.addr c.t)) (w6 : (b.hold k c.addr c.t) ≤ 6) : Calls Tryz.prog 45 #[.pointer (some ⟨m.c, 0, none⟩), .iface 61 (.pointer (some ⟨m.b, 0, none⟩))] (mk w m { c with kind := k, held := false } sl b) fun e W => e = .returned (.tuple #[]) ∧ Lft w m { c with kind := k, held := true, wait := (b.hold k c.addr c.t) - 1 } sl b W := by
  have e1 : (k == -1) = false := by simpa using k1
  have e4 : (k == 4) = false := by simpa using k4
  have HH := Lib.hid (fun (w' : World) (hb' : Base m w') (c' : Cp) => bhold_any hb' c' sl b k c.addr c.t (by omega) a0 a1 t0 t1)
  clear k1 k4 kk
  go_enter Tryz.func45, Tryz.ntmps45
  go_wp2_with fail
  go_region_held3 (fun w' => w'.cell? ⟨m.c, 42, none⟩ = some (.int .i64 k) ∧ w'.cell? ⟨m.c, 45, none⟩ = some (.int .u16 c.addr) ∧ w'.cell? ⟨m.c, 47, none⟩ = some (.int .i64 c.t)) (first | exact ⟨cell_42 (by first | assumption | exact Base.drew (by assumption) | exact Base.drewN (by assumption) _ | exact Base.drewN (Base.drew (by assumption)) _), cell_45 (by first | assumption | exact Base.drew (by assumption) | exact Base.drewN (by assumption) _ | exact Base.drewN (Base.drew (by assumption)) _), cell_47 (by first | assumption | exact Base.drew (by assumption) | exact Base.drewN (by assumption) _ | exact Base.drewN (Base.drew (by assumption)) _)⟩ | exact ⟨(by rw [World.cell?_drew]; exact cell_42 (by first | assumption | exact Base.drew (by assumption) | exact Base.drewN (by assumption) _ | exact Base.drewN (Base.drew (by assumption)) _)), (by rw [World.cell?_drew]; exact cell_45 (by first | assumption | exact Base.drew (by assumption) | exact Base.drewN (by assumption) _ | exact Base.drewN (Base.drew (by assumption)) _)), (by rw [World.cell?_drew]; exact cell_47 (by first | assumption | exact Base.drew (by assumption) | exact Base.drewN (by assumption) _ | exact Base.drewN (Base.drew (by assumption)) _))⟩) ((go_at_call 281; (try simp only [mk_drew, mk_drewN]); refine Calls.mono (HH.out _ (by first | assumption | exact Base.drew (by assumption) | exact Base.drewN (by assumption) _ | exact Base.drewN (Base.drew (by assumption)) _) _) ?_; rintro e W ⟨rfl, rfl⟩))
  all_goals go_wp2_with fail
  all_goals
    (first | go_end0 | refine bodyPost_ret (results_none rfl _ _ _) rfl ?_)
    exact ⟨rfl, Lft.mk' (by first | assumption | exact Base.drew (by assumption) | exact Base.drewN (by assumption) _ | exact Base.drewN (Base.drew (by assumption)) _) (by repeat (first | exact Ext.refl _ | assumption | refine Ext.drew' ?_ | refine Ext.drewN' ?_ _ | refine Ext.trans ?_ (by assumption)))⟩
set_option maxRecDepth 8000 in
set_option maxHeartbeats 1000000 in
theorem tick_x_false_g (k : Int) (k1 : k ≠ -1) (k4 : k ≠ 4) (kk : k = 0 ∨ k = 1 ∨ k = 2) (a0 : 0 ≤ c.addr) (a1 : c.addr < 65536) (t0 : 0 ≤ b.frame) (t1 : b.frame < 69888) (tt0 : 0 ≤ c.t) (tt1 : c.t ≤ 8) (nn0 : 0 ≤ c.n) (nn1 : c.n ≤ 8) (w0 : ¬ 0 < (b.hold k c.addr c.t)) (hq : (c.t + 1 == c.n) = false) : Calls Tryz.prog 45 #[.pointer (some ⟨m.c, 0, none⟩), .iface 61 (.pointer (some ⟨m.b, 0, none⟩))] (mk w m { c with kind := k, held := false } sl b) fun e W => e = .returned (.tuple #[]) ∧ Lft w m { c with kind := k, wait := (b.hold k c.addr c.t), held := false, t := c.t + 1 } sl b W := by
  have e1 : (k == -1) = false := by simpa using k1
  have e4 : (k == 4) = false := by simpa using k4
  have HH := Lib.hid (fun (w' : World) (hb' : Base m w') (c' : Cp) => bhold_any hb' c' sl b k c.addr c.t (by omega) a0 a1 t0 t1)
  clear k1 k4 kk
  go_enter Tryz.func45, Tryz.ntmps45
  go_wp2_with fail
  go_region_held3 (fun w' => w'.cell? ⟨m.c, 42, none⟩ = some (.int .i64 k) ∧ w'.cell? ⟨m.c, 45, none⟩ = some (.int .u16 c.addr) ∧ w'.cell? ⟨m.c, 47, none⟩ = some (.int .i64 c.t)) (first | exact ⟨cell_42 (by first | assumption | exact Base.drew (by assumption) | exact Base.drewN (by assumption) _ | exact Base.drewN (Base.drew (by assumption)) _), cell_45 (by first | assumption | exact Base.drew (by assumption) | exact Base.drewN (by assumption) _ | exact Base.drewN (Base.drew (by assumption)) _), cell_47 (by first | assumption | exact Base.drew (by assumption) | exact Base.drewN (by assumption) _ | exact Base.drewN (Base.drew (by assumption)) _)⟩ | exact ⟨(by rw [World.cell?_drew]; exact cell_42 (by first | assumption | exact Base.drew (by assumption) | exact Base.drewN (by assumption) _ | exact Base.drewN (Base.drew (by assumption)) _)), (by rw [World.cell?_drew]; exact cell_45 (by first | assumption | exact Base.drew (by assumption) | exact Base.drewN (by assumption) _ | exact Base.drewN (Base.drew (by assumption)) _)), (by rw [World.cell?_drew]; exact cell_47 (by first | assumption | exact Base.drew (by assumption) | exact Base.drewN (by assumption) _ | exact Base.drewN (Base.drew (by assumption)) _))⟩) ((go_at_call 281; (try simp only [mk_drew, mk_drewN]); refine Calls.mono (HH.out _ (by first | assumption | exact Base.drew (by assumption) | exact Base.drewN (by assumption) _ | exact Base.drewN (Base.drew (by assumption)) _) _) ?_; rintro e W ⟨rfl, rfl⟩))
  all_goals go_wp2_with fail
  all_goals
    go_quiet (fail)
    rw [mk_drewN]
    go_wp2_with fail
    (first | go_end0 | refine bodyPost_ret (results_none rfl _ _ _) rfl ?_)
    exact ⟨rfl, Lft.mk' (by first | assumption | exact Base.drew (by assumption) | exact Base.drewN (by assumption) _ | exact Base.drewN (Base.drew (by assumption)) _) (by repeat (first | exact Ext.refl _ | assumption | refine Ext.drew' ?_ | refine Ext.drewN' ?_ _ | refine Ext.trans ?_ (by assumption)))⟩
set_option maxRecDepth 8000 in
set_option maxHeartbeats 1000000 in
theorem tick_x_false_f (k : Int) (k1 : k ≠ -1) (k4 : k ≠ 4) (kk : k = 0 ∨ k = 1 ∨ k = 2) (a0 : 0 ≤ c.addr) (a1 : c.addr < 65536) (t0 : 0 ≤ b.frame) (t1 : b.frame < 69888) (tt0 : 0 ≤ c.t) (tt1 : c.t ≤ 8) (nn0 : 0 ≤ c.n) (nn1 : c.n ≤ 8) (w0 : ¬ 0 < (b.hold k c.addr c.t)) (hq : (c.t + 1 == c.n) = true) (cR : Cp) (slR : Nat → Int) (bR : Bd) (HF : ∀ w' : World, Base m w' → Calls Tryz.prog 51 #[.pointer (some ⟨m.c, 0, none⟩), .iface 61 (.pointer (some ⟨m.b, 0, none⟩))] (mk w' m { c with kind := k, wait := (b.hold k c.addr c.t), held := false, t := c.t + 1 } sl b) fun e W => e = .returned (.tuple #[]) ∧ Lft w' m cR slR bR W) : Calls Tryz.prog 45 #[.pointer (some ⟨m.c, 0, none⟩), .iface 61 (.pointer (some ⟨m.b, 0, none⟩))] (mk w m { c with kind := k, held := false } sl b) fun e W => e = .returned (.tuple #[]) ∧ Lft w m cR slR bR W := by
  have e1 : (k == -1) = false := by simpa using k1
  have e4 : (k == 4) = false := by simpa using k4
  have HH := Lib.hid (fun (w' : World) (hb' : Base m w') (c' : Cp) => bhold_any hb' c' sl b k c.addr c.t (by omega) a0 a1 t0 t1)
  have HF := Lib.hid HF
  clear k1 k4 kk
  go_enter Tryz.func45, Tryz.ntmps45
  go_wp2_with fail
  go_region_held3 (fun w' => w'.cell? ⟨m.c, 42, none⟩ = some (.int .i64 k) ∧ w'.cell? ⟨m.c, 45, none⟩ = some (.int .u16 c.addr) ∧ w'.cell? ⟨m.c, 47, none⟩ = some (.int .i64 c.t)) (first | exact ⟨cell_42 (by first | assumption | exact Base.drew (by assumption) | exact Base.drewN (by assumption) _ | exact Base.drewN (Base.drew (by assumption)) _), cell_45 (by first | assumption | exact Base.drew (by assumption) | exact Base.drewN (by assumption) _ | exact Base.drewN (Base.drew (by assumption)) _), cell_47 (by first | assumption | exact Base.drew (by assumption) | exact Base.drewN (by assumption) _ | exact Base.drewN (Base.drew (by assumption)) _)⟩ | exact ⟨(by rw [World.cell?_drew]; exact cell_42 (by first | assumption | exact Base.drew (by assumption) | exact Base.drewN (by assumption) _ | exact Base.drewN (Base.drew (by assumption)) _)), (by rw [World.cell?_drew]; exact cell_45 (by first | assumption | exact Base.drew (by assumption) | exact Base.drewN (by assumption) _ | exact Base.drewN (Base.drew (by assumption)) _)), (by rw [World.cell?_drew]; exact cell_47 (by first | assumption | exact Base.drew (by assumption) | exact Base.drewN (by assumption) _ | exact Base.drewN (Base.drew (by assumption)) _))⟩) ((go_at_call 281; (try simp only [mk_drew, mk_drewN]); refine Calls.mono (HH.out _ (by first | assumption | exact Base.drew (by assumption) | exact Base.drewN (by assumption) _ | exact Base.drewN (Base.drew (by assumption)) _) _) ?_; rintro e W ⟨rfl, rfl⟩))
  all_goals go_wp2_with fail
  all_goals
    go_quiet (fail)
    rw [mk_drewN]
    go_wp2_with (go_at_call 51; (try simp only [mk_drew, mk_drewN]); refine Calls.mono (HF.out _ (by first | assumption | exact Base.drew (by assumption) | exact Base.drewN (by assumption) _ | exact Base.drewN (Base.drew (by assumption)) _)) ?_; rintro e W ⟨rfl, w2, hx2, hb2, rfl⟩)
    (first | go_end0 | refine bodyPost_ret (results_none rfl _ _ _) rfl ?_)
    exact ⟨rfl, Lft.mk' (by first | assumption | exact Base.drew (by assumption) | exact Base.drewN (by assumption) _ | exact Base.drewN (Base.drew (by assumption)) _) (by repeat (first | exact Ext.refl _ | assumption | refine Ext.drew' ?_ | refine Ext.drewN' ?_ _ | refine Ext.trans ?_ (by assumption)))⟩
set_option maxRecDepth 8000 in
set_option maxHeartbeats 1000000 in
theorem tick_4_true_w (w0 : 0 < c.wait) (w6 : c.wait ≤ 6) : Calls Tryz.prog 45 #[.pointer (some ⟨m.c, 0, none⟩), .iface 61 (.pointer (some ⟨m.b, 0, none⟩))] (mk w m { c with kind := 4, held := true } sl b) fun e W => e = .returned (.tuple #[]) ∧ Lft w m { c with kind := 4, held := true, wait := c.wait - 1 } sl b W := by
  go_enter Tryz.func45, Tryz.ntmps45
  go_wp2_with fail
  all_goals
    (first | go_end0 | refine bodyPost_ret (results_none rfl _ _ _) rfl ?_)
    exact ⟨rfl, Lft.mk' (by first | assumption | exact Base.drew (by assumption) | exact Base.drewN (by assumption) _ | exact Base.drewN (Base.drew (by assumption)) _) (by repeat (first | exact Ext.refl _ | assumption | refine Ext.drew' ?_ | refine Ext.drewN' ?_ _ | refine Ext.trans ?_ (by assumption)))⟩
set_option maxRecDepth 8000 in
set_option maxHeartbeats 1000000 in
theorem tick_4_true_g (tt0 : 0 ≤ c.t) (tt1 : c.t ≤ 8) (nn0 : 0 ≤ c.n) (nn1 : c.n ≤ 8) (w0 : ¬ 0 < c.wait) (hq : (0 == c.n - 1) = false) : Calls Tryz.prog 45 #[.pointer (some ⟨m.c, 0, none⟩), .iface 61 (.pointer (some ⟨m.b, 0, none⟩))] (mk w m { c with kind := 4, held := true } sl b) fun e W => e = .returned (.tuple #[]) ∧ Lft w m { c with kind := 4, held := false, t := 0, n := c.n - 1 } sl b W := by
  go_enter Tryz.func45, Tryz.ntmps45
  go_wp2_with fail
  all_goals
    go_quiet (fail)
    rw [mk_drewN]
    go_wp2_with fail
    (first | go_end0 | refine bodyPost_ret (results_none rfl _ _ _) rfl ?_)
    exact ⟨rfl, Lft.mk' (by first | assumption | exact Base.drew (by assumption) | exact Base.drewN (by assumption) _ | exact Base.drewN (Base.drew (by assumption)) _) (by repeat (first | exact Ext.refl _ | assumption | refine Ext.drew' ?_ | refine Ext.drewN' ?_ _ | refine Ext.trans ?_ (by assumption)))⟩
set_option maxRecDepth 8000 in
set_option maxHeartbeats 1000000 in
theorem tick_4_true_f (tt0 : 0 ≤ c.t) (tt1 : c.t ≤ 8) (nn0 : 0 ≤ c.n) (nn1 : c.n ≤ 8) (w0 : ¬ 0 < c.wait) (hq : (0 == c.n - 1) = true) (cR : Cp) (slR : Nat → Int) (bR : Bd) (HF : ∀ w' : World, Base m w' → Calls Tryz.prog 51 #[.pointer (some ⟨m.c, 0, none⟩), .iface 61 (.pointer (some ⟨m.b, 0, none⟩))] (mk w' m { c with kind := 4, held := false, t := 0, n := c.n - 1 } sl b) fun e W => e = .returned (.tuple #[]) ∧ Lft w' m cR slR bR W) : Calls Tryz.prog 45 #[.pointer (some ⟨m.c, 0, none⟩), .iface 61 (.pointer (some ⟨m.b, 0, none⟩))] (mk w m { c with kind := 4, held := true } sl b) fun e W => e = .returned (.tuple #[]) ∧ Lft w m cR slR bR W := by
  have HF := Lib.hid HF
  go_enter Tryz.func45, Tryz.ntmps45
  go_wp2_with fail
  all_goals
    go_quiet (fail)
    rw [mk_drewN]
    go_wp2_with (go_at_call 51; (try simp only [mk_drew, mk_drewN]); refine Calls.mono (HF.out _ (by first | assumption | exact Base.drew (by assumption) | exact Base.drewN (by assumption) _ | exact Base.drewN (Base.drew (by assumption)) _)) ?_; rintro e W ⟨rfl, w2, hx2, hb2, rfl⟩)
    (first | go_end0 | refine bodyPost_ret (results_none rfl _ _ _) rfl ?_)
    exact ⟨rfl, Lft.mk' (by first | assumption | exact Base.drew (by assumption) | exact Base.drewN (by assumption) _ | exact Base.drewN (Base.drew (by assumption)) _) (by repeat (first | exact Ext.refl _ | assumption | refine Ext.drew' ?_ | refine Ext.drewN' ?_ _ | refine Ext.trans ?_ (by assumption)))⟩
set_option maxRecDepth 8000 in
set_option maxHeartbeats 1000000 in
theorem tick_4_false_w (a0 : 0 ≤ c.addr) (a1 : c.addr < 65536) (t0 : 0 ≤ b.frame) (t1 : b.frame < 69888) (w0 : 0 < (b.hold 4 c.addr c.t)) (w6 : (b.hold 4 c.addr c.t) ≤ 6) : Calls Tryz.prog 45 #[.pointer (some ⟨m.c, 0, none⟩), .iface 61 (.pointer (some ⟨m.b, 0, none⟩))] (mk w m { c with kind := 4, held := false } sl b) fun e W => e = .returned (.tuple #[]) ∧ Lft w m { c with kind := 4, held := true, wait := (b.hold 4 c.addr c.t) - 1 } sl b W := by
  have HH := Lib.hid (fun (w' : World) (hb' : Base m w') (c' : Cp) => bhold_any hb' c' sl b 4 c.addr c.t (by omega) a0 a1 t0 t1)
  go_enter Tryz.func45, Tryz.ntmps45
  go_wp2_with fail
  go_region_held3 (fun w' => w'.cell? ⟨m.c, 42, none⟩ = some (.int .i64 4) ∧ w'.cell? ⟨m.c, 45, none⟩ = some (.int .u16 c.addr) ∧ w'.cell? ⟨m.c, 47, none⟩ = some (.int .i64 c.t)) (first | exact ⟨cell_42 (by first | assumption | exact Base.drew (by assumption) | exact Base.drewN (by assumption) _ | exact Base.drewN (Base.drew (by assumption)) _), cell_45 (by first | assumption | exact Base.drew (by assumption) | exact Base.drewN (by assumption) _ | exact Base.drewN (Base.drew (by assumption)) _), cell_47 (by first | assumption | exact Base.drew (by assumption) | exact Base.drewN (by assumption) _ | exact Base.drewN (Base.drew (by assumption)) _)⟩ | exact ⟨(by rw [World.cell?_drew]; exact cell_42 (by first | assumption | exact Base.drew (by assumption) | exact Base.drewN (by assumption) _ | exact Base.drewN (Base.drew (by assumption)) _)), (by rw [World.cell?_drew]; exact cell_45 (by first | assumption | exact Base.drew (by assumption) | exact Base.drewN (by assumption) _ | exact Base.drewN (Base.drew (by assumption)) _)), (by rw [World.cell?_drew]; exact cell_47 (by first | assumption | exact Base.drew (by assumption) | exact Base.drewN (by assumption) _ | exact Base.drewN (Base.drew (by assumption)) _))⟩) ((go_at_call 281; (try simp only [mk_drew, mk_drewN]); refine Calls.mono (HH.out _ (by first | assumption | exact Base.drew (by assumption) | exact Base.drewN (by assumption) _ | exact Base.drewN (Base.drew (by assumption)) _) _) ?_; rintro e W ⟨rfl, rfl⟩))
  all_goals go_wp2_with fail
  all_goals
    (first | go_end0 | refine bodyPost_ret (results_none rfl _ _ _) rfl ?_)
    exact ⟨rfl, Lft.mk' (by first | assumption | exact Base.drew (by assumption) | exact Base.drewN (by assumption) _ | exact Base.drewN (Base.drew (by assumption)) _) (by repeat (first | exact Ext.refl _ | assumption | refine Ext.drew' ?_ | refine Ext.drewN' ?_ _ | refine Ext.trans ?_ (by assumption)))⟩
set_option maxRecDepth 8000 in
set_option maxHeartbeats 1000000 in
theorem tick_4_false_g (a0 : 0 ≤ c.addr) (a1 : c.addr < 65536) (t0 : 0 ≤ b.frame) (t1 : b.frame < 69888) (tt0 : 0 ≤ c.t) (tt1 : c.t ≤ 8) (nn0 : 0 ≤ c.n) (nn1 : c.n ≤ 8) (w0 : ¬ 0 < (b.hold 4 c.addr c.t)) (hq : (0 == c.n - 1) = false) : Calls Tryz.prog 45 #[.pointer (some ⟨m.c, 0, none⟩), .iface 61 (.pointer (some ⟨m.b, 0, none⟩))] (mk w m { c with kind := 4, held := false } sl b) fun e W => e = .returned (.tuple #[]) ∧ Lft w m { c with kind := 4, wait := (b.hold 4 c.addr c.t), held := false, t := 0, n := c.n - 1 } sl b W := by
  have HH := Lib.hid (fun (w' : World) (hb' : Base m w') (c' : Cp) => bhold_any hb' c' sl b 4 c.addr c.t (by omega) a0 a1 t0 t1)
  go_enter Tryz.func45, Tryz.ntmps45
  go_wp2_with fail
  go_region_held3 (fun w' => w'.cell? ⟨m.c, 42, none⟩ = some (.int .i64 4) ∧ w'.cell? ⟨m.c, 45, none⟩ = some (.int .u16 c.addr) ∧ w'.cell? ⟨m.c, 47, none⟩ = some (.int .i64 c.t)) (first | exact ⟨cell_42 (by first | assumption | exact Base.drew (by assumption) | exact Base.drewN (by assumption) _ | exact Base.drewN (Base.drew (by assumption)) _), cell_45 (by first | assumption | exact Base.drew (by assumption) | exact Base.drewN (by assumption) _ | exact Base.drewN (Base.drew (by assumption)) _), cell_47 (by first | assumption | exact Base.drew (by assumption) | exact Base.drewN (by assumption) _ | exact Base.drewN (Base.drew (by assumption)) _)⟩ | exact ⟨(by rw [World.cell?_drew]; exact cell_42 (by first | assumption | exact Base.drew (by assumption) | exact Base.drewN (by assumption) _ | exact Base.drewN (Base.drew (by assumption)) _)), (by rw [World.cell?_drew]; exact cell_45 (by first | assumption | exact Base.drew (by assumption) | exact Base.drewN (by assumption) _ | exact Base.drewN (Base.drew (by assumption)) _)), (by rw [World.cell?_drew]; exact cell_47 (by first | assumption | exact Base.drew (by assumption) | exact Base.drewN (by assumption) _ | exact Base.drewN (Base.drew (by assumption)) _))⟩) ((go_at_call 281; (try simp only [mk_drew, mk_drewN]); refine Calls.mono (HH.out _ (by first | assumption | exact Base.drew (by assumption) | exact Base.drewN (by assumption) _ | exact Base.drewN (Base.drew (by assumption)) _) _) ?_; rintro e W ⟨rfl, rfl⟩))
  all_goals go_wp2_with fail
  all_goals
    go_quiet (fail)
    rw [mk_drewN]
    go_wp2_with fail
    (first | go_end0 | refine bodyPost_ret (results_none rfl _ _ _) rfl ?_)
    exact ⟨rfl, Lft.mk' (by first | assumption | exact Base.drew (by assumption) | exact Base.drewN (by assumption) _ | exact Base.drewN (Base.drew (by assumption)) _) (by repeat (first | exact Ext.refl _ | assumption | refine Ext.drew' ?_ | refine Ext.drewN' ?_ _ | refine Ext.trans ?_ (by assumption)))⟩
set_option maxRecDepth 8000 in
set_option maxHeartbeats 1000000 in
theorem tick_4_false_f (a0 : 0 ≤ c.addr) (a1 : c.addr < 65536) (t0 : 0 ≤ b.frame) (t1 : b.frame < 69888) (tt0 : 0 ≤ c.t) (tt1 : c.t ≤ 8) (nn0 : 0 ≤ c.n) (nn1 : c.n ≤ 8) (w0 : ¬ 0 < (b.hold 4 c.addr c.t)) (hq : (0 == c.n - 1) = true) (cR : Cp) (slR : Nat → Int) (bR : Bd) (HF : ∀ w' : World, Base m w' → Calls Tryz.prog 51 #[.pointer (some ⟨m.c, 0, none⟩), .iface 61 (.pointer (some ⟨m.b, 0, none⟩))] (mk w' m { c with kind := 4, wait := (b.hold 4 c.addr c.t), held := false, t := 0, n := c.n - 1 } sl b) fun e W => e = .returned (.tuple #[]) ∧ Lft w' m cR slR bR W) : Calls Tryz.prog 45 #[.pointer (some ⟨m.c, 0, none⟩), .iface 61 (.pointer (some ⟨m.b, 0, none⟩))] (mk w m { c with kind := 4, held := false } sl b) fun e W => e = .returned (.tuple #[]) ∧ Lft w m cR slR bR W := by
  have HH := Lib.hid (fun (w' : World) (hb' : Base m w') (c' : Cp) => bhold_any hb' c' sl b 4 c.addr c.t (by omega) a0 a1 t0 t1)
  have HF := Lib.hid HF
  go_enter Tryz.func45, Tryz.ntmps45
  go_wp2_with fail
  go_region_held3 (fun w' => w'.cell? ⟨m.c, 42, none⟩ = some (.int .i64 4) ∧ w'.cell? ⟨m.c, 45, none⟩ = some (.int .u16 c.addr) ∧ w'.cell? ⟨m.c, 47, none⟩ = some (.int .i64 c.t)) (first | exact ⟨cell_42 (by first | assumption | exact Base.drew (by assumption) | exact Base.drewN (by assumption) _ | exact Base.drewN (Base.drew (by assumption)) _), cell_45 (by first | assumption | exact Base.drew (by assumption) | exact Base.drewN (by assumption) _ | exact Base.drewN (Base.drew (by assumption)) _), cell_47 (by first | assumption | exact Base.drew (by assumption) | exact Base.drewN (by assumption) _ | exact Base.drewN (Base.drew (by assumption)) _)⟩ | exact ⟨(by rw [World.cell?_drew]; exact cell_42 (by first | assumption | exact Base.drew (by assumption) | exact Base.drewN (by assumption) _ | exact Base.drewN (Base.drew (by assumption)) _)), (by rw [World.cell?_drew]; exact cell_45 (by first | assumption | exact Base.drew (by assumption) | exact Base.drewN (by assumption) _ | exact Base.drewN (Base.drew (by assumption)) _)), (by rw [World.cell?_drew]; exact cell_47 (by first | assumption | exact Base.drew (by assumption) | exact Base.drewN (by assumption) _ | exact Base.drewN (Base.drew (by assumption)) _))⟩) ((go_at_call 281; (try simp only [mk_drew, mk_drewN]); refine Calls.mono (HH.out _ (by first | assumption | exact Base.drew (by assumption) | exact Base.drewN (by assumption) _ | exact Base.drewN (Base.drew (by assumption)) _) _) ?_; rintro e W ⟨rfl, rfl⟩))
  all_goals go_wp2_with fail
  all_goals
    go_quiet (fail)
    rw [mk_drewN]
    go_wp2_with (go_at_call 51; (try simp only [mk_drew, mk_drewN]); refine Calls.mono (HF.out _ (by first | assumption | exact Base.drew (by assumption) | exact Base.drewN (by assumption) _ | exact Base.drewN (Base.drew (by assumption)) _)) ?_; rintro e W ⟨rfl, w2, hx2, hb2, rfl⟩)
    (first | go_end0 | refine bodyPost_ret (results_none rfl _ _ _) rfl ?_)
    exact ⟨rfl, Lft.mk' (by first | assumption | exact Base.drew (by assumption) | exact Base.drewN (by assumption) _ | exact Base.drewN (Base.drew (by assumption)) _) (by repeat (first | exact Ext.refl _ | assumption | refine Ext.drew' ?_ | refine Ext.drewN' ?_ _ | refine Ext.trans ?_ (by assumption)))⟩
set_option maxRecDepth 8000 in
set_option maxHeartbeats 1000000 in
theorem tick_n_w (hn : c.nmi = false) (hi : c.g.iff1 = false) (a0 : 0 ≤ c.g.pc) (a1 : c.g.pc < 65536) (t0 : 0 ≤ b.frame) (t1 : b.frame < 69888) (w0 : 0 < (b.hold 0 c.g.pc 0)) (w6 : (b.hold 0 c.g.pc 0) ≤ 6) : Calls Tryz.prog 45 #[.pointer (some ⟨m.c, 0, none⟩), .iface 61 (.pointer (some ⟨m.b, 0, none⟩))] (mk w m { c with kind := -1 } sl b) fun e W => e = .returned (.tuple #[]) ∧ Lft w m { c with len := 0, at_ := 0, second := 0, wrote := false, kind := 0, addr := c.g.pc, n := 4, t := 0, wait := (b.hold 0 c.g.pc 0) - 1, held := true, g := { c.g with hold := false } } sl b W := by
  have HH := Lib.hid (fun (w' : World) (hb' : Base m w') (c' : Cp) => bhold_any hb' c' sl b 0 c.g.pc 0 (by omega) a0 a1 t0 t1)
  have HBg := Lib.hid (fun (w' : World) (hb' : Base m w') => (show Calls Tryz.prog 50 #[.pointer (some ⟨m.c, 0, none⟩), .iface 61 (.pointer (some ⟨m.b, 0, none⟩))] (mk w' m { c with kind := -1 } sl b) fun e W => e = .returned (.tuple #[]) ∧ Lft w' m { c with len := 0, at_ := 0, second := 0, wrote := false, kind := 0, addr := c.g.pc, n := 4, t := 0, held := false, g := { c.g with hold := false } } sl b W from begin_any hb' { c with kind := -1 } sl b hn hi t0 t1))
  clear hn hi
  go_enter Tryz.func45, Tryz.ntmps45
  go_wp2_with (go_at_call 50; (try simp only [mk_drew, mk_drewN]); refine Calls.mono (HBg.out _ (by first | assumption | exact Base.drew (by assumption) | exact Base.drewN (by assumption) _ | exact Base.drewN (Base.drew (by assumption)) _)) ?_; rintro e W ⟨rfl, w2, hx2, hb2, rfl⟩)
  go_region_held3 (fun w' => w'.cell? ⟨m.c, 42, none⟩ = some (.int .i64 0) ∧ w'.cell? ⟨m.c, 45, none⟩ = some (.int .u16 c.g.pc) ∧ w'.cell? ⟨m.c, 47, none⟩ = some (.int .i64 0)) (first | exact ⟨cell_42 (by first | assumption | exact Base.drew (by assumption) | exact Base.drewN (by assumption) _ | exact Base.drewN (Base.drew (by assumption)) _), cell_45 (by first | assumption | exact Base.drew (by assumption) | exact Base.drewN (by assumption) _ | exact Base.drewN (Base.drew (by assumption)) _), cell_47 (by first | assumption | exact Base.drew (by assumption) | exact Base.drewN (by assumption) _ | exact Base.drewN (Base.drew (by assumption)) _)⟩ | exact ⟨(by rw [World.cell?_drew]; exact cell_42 (by first | assumption | exact Base.drew (by assumption) | exact Base.drewN (by assumption) _ | exact Base.drewN (Base.drew (by assumption)) _)), (by rw [World.cell?_drew]; exact cell_45 (by first | assumption | exact Base.drew (by assumption) | exact Base.drewN (by assumption) _ | exact Base.drewN (Base.drew (by assumption)) _)), (by rw [World.cell?_drew]; exact cell_47 (by first | assumption | exact Base.drew (by assumption) | exact Base.drewN (by assumption) _ | exact Base.drewN (Base.drew (by assumption)) _))⟩) ((go_at_call 281; (try simp only [mk_drew, mk_drewN]); refine Calls.mono (HH.out _ (by first | assumption | exact Base.drew (by assumption) | exact Base.drewN (by assumption) _ | exact Base.drewN (Base.drew (by assumption)) _) _) ?_; rintro e W ⟨rfl, rfl⟩))
  all_goals
    go_wp2_with fail
    (first | go_end0 | refine bodyPost_ret (results_none rfl _ _ _) rfl ?_)
    exact ⟨rfl, Lft.mk' (by first | assumption | exact Base.drew (by assumption) | exact Base.drewN (by assumption) _ | exact Base.drewN (Base.drew (by assumption)) _) (by repeat (first | exact Ext.refl _ | assumption | refine Ext.drew' ?_ | refine Ext.drewN' ?_ _ | refine Ext.trans ?_ (by assumption)))⟩
set_option maxRecDepth 8000 in
set_option maxHeartbeats 1000000 in
theorem tick_n_g (hn : c.nmi = false) (hi : c.g.iff1 = false) (a0 : 0 ≤ c.g.pc) (a1 : c.g.pc < 65536) (t0 : 0 ≤ b.frame) (t1 : b.frame < 69888) (w0 : ¬ 0 < (b.hold 0 c.g.pc 0)) : Calls Tryz.prog 45 #[.pointer (some ⟨m.c, 0, none⟩), .iface 61 (.pointer (some ⟨m.b, 0, none⟩))] (mk w m { c with kind := -1 } sl b) fun e W => e = .returned (.tuple #[]) ∧ Lft w m { c with len := 0, at_ := 0, second := 0, wrote := false, kind := 0, addr := c.g.pc, n := 4, t := 1, wait := (b.hold 0 c.g.pc 0), held := false, g := { c.g with hold := false } } sl b W := by
  have HH := Lib.hid (fun (w' : World) (hb' : Base m w') (c' : Cp) => bhold_any hb' c' sl b 0 c.g.pc 0 (by omega) a0 a1 t0 t1)
  have HBg := Lib.hid (fun (w' : World) (hb' : Base m w') => (show Calls Tryz.prog 50 #[.pointer (some ⟨m.c, 0, none⟩), .iface 61 (.pointer (some ⟨m.b, 0, none⟩))] (mk w' m { c with kind := -1 } sl b) fun e W => e = .returned (.tuple #[]) ∧ Lft w' m { c with len := 0, at_ := 0, second := 0, wrote := false, kind := 0, addr := c.g.pc, n := 4, t := 0, held := false, g := { c.g with hold := false } } sl b W from begin_any hb' { c with kind := -1 } sl b hn hi t0 t1))
  clear hn hi
  go_enter Tryz.func45, Tryz.ntmps45
  go_wp2_with (go_at_call 50; (try simp only [mk_drew, mk_drewN]); refine Calls.mono (HBg.out _ (by first | assumption | exact Base.drew (by assumption) | exact Base.drewN (by assumption) _ | exact Base.drewN (Base.drew (by assumption)) _)) ?_; rintro e W ⟨rfl, w2, hx2, hb2, rfl⟩)
  go_region_held3 (fun w' => w'.cell? ⟨m.c, 42, none⟩ = some (.int .i64 0) ∧ w'.cell? ⟨m.c, 45, none⟩ = some (.int .u16 c.g.pc) ∧ w'.cell? ⟨m.c, 47, none⟩ = some (.int .i64 0)) (first | exact ⟨cell_42 (by first | assumption | exact Base.drew (by assumption) | exact Base.drewN (by assumption) _ | exact Base.drewN (Base.drew (by assumption)) _), cell_45 (by first | assumption | exact Base.drew (by assumption) | exact Base.drewN (by assumption) _ | exact Base.drewN (Base.drew (by assumption)) _), cell_47 (by first | assumption | exact Base.drew (by assumption) | exact Base.drewN (by assumption) _ | exact Base.drewN (Base.drew (by assumption)) _)⟩ | exact ⟨(by rw [World.cell?_drew]; exact cell_42 (by first | assumption | exact Base.drew (by assumption) | exact Base.drewN (by assumption) _ | exact Base.drewN (Base.drew (by assumption)) _)), (by rw [World.cell?_drew]; exact cell_45 (by first | assumption | exact Base.drew (by assumption) | exact Base.drewN (by assumption) _ | exact Base.drewN (Base.drew (by assumption)) _)), (by rw [World.cell?_drew]; exact cell_47 (by first | assumption | exact Base.drew (by assumption) | exact Base.drewN (by assumption) _ | exact Base.drewN (Base.drew (by assumption)) _))⟩) ((go_at_call 281; (try simp only [mk_drew, mk_drewN]); refine Calls.mono (HH.out _ (by first | assumption | exact Base.drew (by assumption) | exact Base.drewN (by assumption) _ | exact Base.drewN (Base.drew (by assumption)) _) _) ?_; rintro e W ⟨rfl, rfl⟩))
  all_goals
    go_wp2_with fail
    go_quiet (fail)
    rw [mk_drewN]
    go_wp2_with fail
    (first | go_end0 | refine bodyPost_ret (results_none rfl _ _ _) rfl ?_)
    exact ⟨rfl, Lft.mk' (by first | assumption | exact Base.drew (by assumption) | exact Base.drewN (by assumption) _ | exact Base.drewN (Base.drew (by assumption)) _) (by repeat (first | exact Ext.refl _ | assumption | refine Ext.drew' ?_ | refine Ext.drewN' ?_ _ | refine Ext.trans ?_ (by assumption)))⟩
end
end Go.Proofs.YtneganpbamemmaaGreat
