/- The works of the codes, by their numbers. -/
import Derived.Test.YtneganpbamemmaaGreatWork1
import Derived.Test.YtneganpbamemmaaGreatWork2
import Derived.Test.YtneganpbamemmaaGreatWork23
import Derived.Test.YtneganpbamemmaaGreatWork3
import Derived.Test.YtneganpbamemmaaGreatWork4
import Derived.Test.YtneganpbamemmaaGreatPlainA
set_option linter.unusedVariables false
set_option linter.unusedSimpArgs false
set_option linter.unusedSectionVars false
namespace Go.Proofs.YtneganpbamemmaaGreat
open Go Go.RowKit Sq
section
variable {m : Mac} {w : World} (hb : Base m w) (c : Cp) (sl : Nat → Int) (b : Bd)
include hb
set_option maxRecDepth 8000 in
set_option maxHeartbeats 1000000 in
theorem first_13 (ho : c.Ok) : Calls Tryz.prog 83 #[.pointer (some ⟨m.c, 0, none⟩), .int .i64 13] (mk w m c sl b) fun e W => e = .returned (.tuple #[]) ∧ Lft w m (c.counts 13) sl b W := by
  have H := Lib.hid (counts_13 hb c sl b ho)
  go_enter Tryz.func83, Tryz.ntmps83
  go_wp2_with (go_at_call 125; refine Calls.mono H.out ?_; rintro e W ⟨rfl, w1, hx1, hb1, rfl⟩)
  all_goals
    (first | go_end0 | refine bodyPost_ret (results_none rfl _ _ _) rfl ?_)
    exact ⟨rfl, Lft.mk' (by first | assumption | exact Base.drew (by assumption) | exact Base.drewN (by assumption) _ | exact Base.alloc (by assumption) _) (by repeat (first | exact Ext.refl _ | assumption | refine Ext.drew' ?_ | refine Ext.drewN' ?_ _ | refine Ext.alloc' ?_ _ | refine Ext.trans ?_ (by assumption)))⟩
set_option maxRecDepth 8000 in
set_option maxHeartbeats 1000000 in
theorem first_14 (ho : c.Ok) : Calls Tryz.prog 83 #[.pointer (some ⟨m.c, 0, none⟩), .int .i64 14] (mk w m c sl b) fun e W => e = .returned (.tuple #[]) ∧ Lft w m (c.counts 14) sl b W := by
  have H := Lib.hid (counts_14 hb c sl b ho)
  go_enter Tryz.func83, Tryz.ntmps83
  go_wp2_with (go_at_call 125; refine Calls.mono H.out ?_; rintro e W ⟨rfl, w1, hx1, hb1, rfl⟩)
  all_goals
    (first | go_end0 | refine bodyPost_ret (results_none rfl _ _ _) rfl ?_)
    exact ⟨rfl, Lft.mk' (by first | assumption | exact Base.drew (by assumption) | exact Base.drewN (by assumption) _ | exact Base.alloc (by assumption) _) (by repeat (first | exact Ext.refl _ | assumption | refine Ext.drew' ?_ | refine Ext.drewN' ?_ _ | refine Ext.alloc' ?_ _ | refine Ext.trans ?_ (by assumption)))⟩
set_option maxRecDepth 8000 in
set_option maxHeartbeats 1000000 in
theorem first_15 (ho : c.Ok) : Calls Tryz.prog 83 #[.pointer (some ⟨m.c, 0, none⟩), .int .i64 15] (mk w m c sl b) fun e W => e = .returned (.tuple #[]) ∧ Lft w m (c.counts 15) sl b W := by
  have H := Lib.hid (counts_15 hb c sl b ho)
  go_enter Tryz.func83, Tryz.ntmps83
  go_wp2_with (go_at_call 125; refine Calls.mono H.out ?_; rintro e W ⟨rfl, w1, hx1, hb1, rfl⟩)
  all_goals
    (first | go_end0 | refine bodyPost_ret (results_none rfl _ _ _) rfl ?_)
    exact ⟨rfl, Lft.mk' (by first | assumption | exact Base.drew (by assumption) | exact Base.drewN (by assumption) _ | exact Base.alloc (by assumption) _) (by repeat (first | exact Ext.refl _ | assumption | refine Ext.drew' ?_ | refine Ext.drewN' ?_ _ | refine Ext.alloc' ?_ _ | refine Ext.trans ?_ (by assumption)))⟩
set_option maxRecDepth 8000 in
set_option maxHeartbeats 1000000 in
theorem first_16 (ho : c.Ok) : Calls Tryz.prog 83 #[.pointer (some ⟨m.c, 0, none⟩), .int .i64 16] (mk w m c sl b) fun e W => e = .returned (.tuple #[]) ∧ Lft w m (c.counts 16) sl b W := by
  have H := Lib.hid (counts_16 hb c sl b ho)
  go_enter Tryz.func83, Tryz.ntmps83
  go_wp2_with (go_at_call 125; refine Calls.mono H.out ?_; rintro e W ⟨rfl, w1, hx1, hb1, rfl⟩)
  all_goals
    (first | go_end0 | refine bodyPost_ret (results_none rfl _ _ _) rfl ?_)
    exact ⟨rfl, Lft.mk' (by first | assumption | exact Base.drew (by assumption) | exact Base.drewN (by assumption) _ | exact Base.alloc (by assumption) _) (by repeat (first | exact Ext.refl _ | assumption | refine Ext.drew' ?_ | refine Ext.drewN' ?_ _ | refine Ext.alloc' ?_ _ | refine Ext.trans ?_ (by assumption)))⟩
set_option maxRecDepth 8000 in
set_option maxHeartbeats 1000000 in
theorem first_17 (ho : c.Ok) : Calls Tryz.prog 83 #[.pointer (some ⟨m.c, 0, none⟩), .int .i64 17] (mk w m c sl b) fun e W => e = .returned (.tuple #[]) ∧ Lft w m (c.counts 17) sl b W := by
  have H := Lib.hid (counts_17 hb c sl b ho)
  go_enter Tryz.func83, Tryz.ntmps83
  go_wp2_with (go_at_call 125; refine Calls.mono H.out ?_; rintro e W ⟨rfl, w1, hx1, hb1, rfl⟩)
  all_goals
    (first | go_end0 | refine bodyPost_ret (results_none rfl _ _ _) rfl ?_)
    exact ⟨rfl, Lft.mk' (by first | assumption | exact Base.drew (by assumption) | exact Base.drewN (by assumption) _ | exact Base.alloc (by assumption) _) (by repeat (first | exact Ext.refl _ | assumption | refine Ext.drew' ?_ | refine Ext.drewN' ?_ _ | refine Ext.alloc' ?_ _ | refine Ext.trans ?_ (by assumption)))⟩
set_option maxRecDepth 8000 in
set_option maxHeartbeats 1000000 in
theorem first_19 (ho : c.Ok) : Calls Tryz.prog 83 #[.pointer (some ⟨m.c, 0, none⟩), .int .i64 19] (mk w m c sl b) fun e W => e = .returned (.tuple #[]) ∧ Lft w m (c.counts 19) sl b W := by
  have H := Lib.hid (counts_19 hb c sl b ho)
  go_enter Tryz.func83, Tryz.ntmps83
  go_wp2_with (go_at_call 125; refine Calls.mono H.out ?_; rintro e W ⟨rfl, w1, hx1, hb1, rfl⟩)
  all_goals
    (first | go_end0 | refine bodyPost_ret (results_none rfl _ _ _) rfl ?_)
    exact ⟨rfl, Lft.mk' (by first | assumption | exact Base.drew (by assumption) | exact Base.drewN (by assumption) _ | exact Base.alloc (by assumption) _) (by repeat (first | exact Ext.refl _ | assumption | refine Ext.drew' ?_ | refine Ext.drewN' ?_ _ | refine Ext.alloc' ?_ _ | refine Ext.trans ?_ (by assumption)))⟩
set_option maxRecDepth 8000 in
set_option maxHeartbeats 1000000 in
theorem first_20 (ho : c.Ok) : Calls Tryz.prog 83 #[.pointer (some ⟨m.c, 0, none⟩), .int .i64 20] (mk w m c sl b) fun e W => e = .returned (.tuple #[]) ∧ Lft w m (c.counts 20) sl b W := by
  have H := Lib.hid (counts_20 hb c sl b ho)
  go_enter Tryz.func83, Tryz.ntmps83
  go_wp2_with (go_at_call 125; refine Calls.mono H.out ?_; rintro e W ⟨rfl, w1, hx1, hb1, rfl⟩)
  all_goals
    (first | go_end0 | refine bodyPost_ret (results_none rfl _ _ _) rfl ?_)
    exact ⟨rfl, Lft.mk' (by first | assumption | exact Base.drew (by assumption) | exact Base.drewN (by assumption) _ | exact Base.alloc (by assumption) _) (by repeat (first | exact Ext.refl _ | assumption | refine Ext.drew' ?_ | refine Ext.drewN' ?_ _ | refine Ext.alloc' ?_ _ | refine Ext.trans ?_ (by assumption)))⟩
set_option maxRecDepth 8000 in
set_option maxHeartbeats 1000000 in
theorem first_21 (ho : c.Ok) : Calls Tryz.prog 83 #[.pointer (some ⟨m.c, 0, none⟩), .int .i64 21] (mk w m c sl b) fun e W => e = .returned (.tuple #[]) ∧ Lft w m (c.counts 21) sl b W := by
  have H := Lib.hid (counts_21 hb c sl b ho)
  go_enter Tryz.func83, Tryz.ntmps83
  go_wp2_with (go_at_call 125; refine Calls.mono H.out ?_; rintro e W ⟨rfl, w1, hx1, hb1, rfl⟩)
  all_goals
    (first | go_end0 | refine bodyPost_ret (results_none rfl _ _ _) rfl ?_)
    exact ⟨rfl, Lft.mk' (by first | assumption | exact Base.drew (by assumption) | exact Base.drewN (by assumption) _ | exact Base.alloc (by assumption) _) (by repeat (first | exact Ext.refl _ | assumption | refine Ext.drew' ?_ | refine Ext.drewN' ?_ _ | refine Ext.alloc' ?_ _ | refine Ext.trans ?_ (by assumption)))⟩
set_option maxRecDepth 8000 in
set_option maxHeartbeats 1000000 in
theorem first_22 (ho : c.Ok) : Calls Tryz.prog 83 #[.pointer (some ⟨m.c, 0, none⟩), .int .i64 22] (mk w m c sl b) fun e W => e = .returned (.tuple #[]) ∧ Lft w m (c.counts 22) sl b W := by
  have H := Lib.hid (counts_22 hb c sl b ho)
  go_enter Tryz.func83, Tryz.ntmps83
  go_wp2_with (go_at_call 125; refine Calls.mono H.out ?_; rintro e W ⟨rfl, w1, hx1, hb1, rfl⟩)
  all_goals
    (first | go_end0 | refine bodyPost_ret (results_none rfl _ _ _) rfl ?_)
    exact ⟨rfl, Lft.mk' (by first | assumption | exact Base.drew (by assumption) | exact Base.drewN (by assumption) _ | exact Base.alloc (by assumption) _) (by repeat (first | exact Ext.refl _ | assumption | refine Ext.drew' ?_ | refine Ext.drewN' ?_ _ | refine Ext.alloc' ?_ _ | refine Ext.trans ?_ (by assumption)))⟩
set_option maxRecDepth 8000 in
set_option maxHeartbeats 1000000 in
theorem first_23 (ho : c.Ok) : Calls Tryz.prog 83 #[.pointer (some ⟨m.c, 0, none⟩), .int .i64 23] (mk w m c sl b) fun e W => e = .returned (.tuple #[]) ∧ Lft w m (c.counts 23) sl b W := by
  have H := Lib.hid (counts_23 hb c sl b ho)
  go_enter Tryz.func83, Tryz.ntmps83
  go_wp2_with (go_at_call 125; refine Calls.mono H.out ?_; rintro e W ⟨rfl, w1, hx1, hb1, rfl⟩)
  all_goals
    (first | go_end0 | refine bodyPost_ret (results_none rfl _ _ _) rfl ?_)
    exact ⟨rfl, Lft.mk' (by first | assumption | exact Base.drew (by assumption) | exact Base.drewN (by assumption) _ | exact Base.alloc (by assumption) _) (by repeat (first | exact Ext.refl _ | assumption | refine Ext.drew' ?_ | refine Ext.drewN' ?_ _ | refine Ext.alloc' ?_ _ | refine Ext.trans ?_ (by assumption)))⟩
set_option maxRecDepth 8000 in
set_option maxHeartbeats 1000000 in
theorem more_52 (ho : c.Ok) : Calls Tryz.prog 85 #[.pointer (some ⟨m.c, 0, none⟩), .int .i64 52] (mk w m c sl b) fun e W => e = .returned (.tuple #[]) ∧ Lft w m (c.blocks 52) sl b W := by
  have hg := ho.g
  have H := Lib.hid (fun (w' : World) (hb' : Base m w') => blocks_52 hb' c sl b ho)
  go_enter Tryz.func85, Tryz.ntmps85
  go_wp2_with (first | (go_at_call 82; (try simp only [mk_drew, mk_drewN]); refine Calls.mono (pair_any (by first | assumption | exact Base.drew (by assumption) | exact Base.drewN (by assumption) _ | exact Base.alloc (by assumption) _) _ _ _ (by assumption) _ _ (by first | assumption | omega) (by first | assumption | omega) (by first | assumption | omega) (by first | assumption | omega)) ?_; rintro e W ⟨rfl, n1, rfl⟩) | (go_at_call 138; (try simp only [mk_drew, mk_drewN]); refine Calls.mono (H.out _ (by first | assumption | exact Base.drew (by assumption) | exact Base.drewN (by assumption) _ | exact Base.alloc (by assumption) _)) ?_; rintro e W ⟨rfl, w1, hx1, hb1, rfl⟩))
  all_goals
    (first | go_end0 | refine bodyPost_ret (results_none rfl _ _ _) rfl ?_)
    exact ⟨rfl, Lft.mk' (by first | assumption | exact Base.drew (by assumption) | exact Base.drewN (by assumption) _ | exact Base.alloc (by assumption) _) (by repeat (first | exact Ext.refl _ | assumption | refine Ext.drew' ?_ | refine Ext.drewN' ?_ _ | refine Ext.alloc' ?_ _ | refine Ext.trans ?_ (by assumption)))⟩
set_option maxRecDepth 8000 in
set_option maxHeartbeats 1000000 in
theorem more_57 (ho : c.Ok) : Calls Tryz.prog 85 #[.pointer (some ⟨m.c, 0, none⟩), .int .i64 57] (mk w m c sl b) fun e W => e = .returned (.tuple #[]) ∧ Lft w m (c.blocks 57) sl b W := by
  have hg := ho.g
  have H := Lib.hid (fun (w' : World) (hb' : Base m w') => blocks_57 hb' c sl b ho)
  go_enter Tryz.func85, Tryz.ntmps85
  go_wp2_with (first | (go_at_call 82; (try simp only [mk_drew, mk_drewN]); refine Calls.mono (pair_any (by first | assumption | exact Base.drew (by assumption) | exact Base.drewN (by assumption) _ | exact Base.alloc (by assumption) _) _ _ _ (by assumption) _ _ (by first | assumption | omega) (by first | assumption | omega) (by first | assumption | omega) (by first | assumption | omega)) ?_; rintro e W ⟨rfl, n1, rfl⟩) | (go_at_call 138; (try simp only [mk_drew, mk_drewN]); refine Calls.mono (H.out _ (by first | assumption | exact Base.drew (by assumption) | exact Base.drewN (by assumption) _ | exact Base.alloc (by assumption) _)) ?_; rintro e W ⟨rfl, w1, hx1, hb1, rfl⟩))
  all_goals
    (first | go_end0 | refine bodyPost_ret (results_none rfl _ _ _) rfl ?_)
    exact ⟨rfl, Lft.mk' (by first | assumption | exact Base.drew (by assumption) | exact Base.drewN (by assumption) _ | exact Base.alloc (by assumption) _) (by repeat (first | exact Ext.refl _ | assumption | refine Ext.drew' ?_ | refine Ext.drewN' ?_ _ | refine Ext.alloc' ?_ _ | refine Ext.trans ?_ (by assumption)))⟩
set_option maxRecDepth 8000 in
theorem work_0 (ho : c.Ok) : Calls Tryz.prog 74 #[.pointer (some ⟨m.c, 0, none⟩), .int .i64 0] (mk w m c sl b) fun e W => e = .returned (.tuple #[]) ∧ Lft w m (c.work 0) sl b W := by
  rw [show c.work 0 = c.first 0 from by simp [Cp.work, isCount, isMore]]
  have H := Lib.hid (first_0 hb c sl b ho)
  go_enter Tryz.func74, Tryz.ntmps74
  go_wp2_with (go_at_call 83; refine Calls.mono H.out ?_; rintro e W ⟨rfl, w1, hx1, hb1, rfl⟩)
  all_goals
    (first | go_end0 | refine bodyPost_ret (results_none rfl _ _ _) rfl ?_)
    exact ⟨rfl, Lft.mk' (by first | assumption | exact Base.drew (by assumption) | exact Base.drewN (by assumption) _ | exact Base.alloc (by assumption) _) (by repeat (first | exact Ext.refl _ | assumption | refine Ext.drew' ?_ | refine Ext.drewN' ?_ _ | refine Ext.alloc' ?_ _ | refine Ext.trans ?_ (by assumption)))⟩
set_option maxRecDepth 8000 in
theorem work_1 (ho : c.Ok) : Calls Tryz.prog 74 #[.pointer (some ⟨m.c, 0, none⟩), .int .i64 1] (mk w m c sl b) fun e W => e = .returned (.tuple #[]) ∧ Lft w m (c.work 1) sl b W := by
  rw [show c.work 1 = c.first 1 from by simp [Cp.work, isCount, isMore]]
  have H := Lib.hid (first_1 hb c sl b ho)
  go_enter Tryz.func74, Tryz.ntmps74
  go_wp2_with (go_at_call 83; refine Calls.mono H.out ?_; rintro e W ⟨rfl, w1, hx1, hb1, rfl⟩)
  all_goals
    (first | go_end0 | refine bodyPost_ret (results_none rfl _ _ _) rfl ?_)
    exact ⟨rfl, Lft.mk' (by first | assumption | exact Base.drew (by assumption) | exact Base.drewN (by assumption) _ | exact Base.alloc (by assumption) _) (by repeat (first | exact Ext.refl _ | assumption | refine Ext.drew' ?_ | refine Ext.drewN' ?_ _ | refine Ext.alloc' ?_ _ | refine Ext.trans ?_ (by assumption)))⟩
set_option maxRecDepth 8000 in
theorem work_2 (ho : c.Ok) : Calls Tryz.prog 74 #[.pointer (some ⟨m.c, 0, none⟩), .int .i64 2] (mk w m c sl b) fun e W => e = .returned (.tuple #[]) ∧ Lft w m (c.work 2) sl b W := by
  rw [show c.work 2 = c.first 2 from by simp [Cp.work, isCount, isMore]]
  have H := Lib.hid (first_2 hb c sl b ho)
  go_enter Tryz.func74, Tryz.ntmps74
  go_wp2_with (go_at_call 83; refine Calls.mono H.out ?_; rintro e W ⟨rfl, w1, hx1, hb1, rfl⟩)
  all_goals
    (first | go_end0 | refine bodyPost_ret (results_none rfl _ _ _) rfl ?_)
    exact ⟨rfl, Lft.mk' (by first | assumption | exact Base.drew (by assumption) | exact Base.drewN (by assumption) _ | exact Base.alloc (by assumption) _) (by repeat (first | exact Ext.refl _ | assumption | refine Ext.drew' ?_ | refine Ext.drewN' ?_ _ | refine Ext.alloc' ?_ _ | refine Ext.trans ?_ (by assumption)))⟩
set_option maxRecDepth 8000 in
theorem work_3 (ho : c.Ok) : Calls Tryz.prog 74 #[.pointer (some ⟨m.c, 0, none⟩), .int .i64 3] (mk w m c sl b) fun e W => e = .returned (.tuple #[]) ∧ Lft w m (c.work 3) sl b W := by
  rw [show c.work 3 = c.first 3 from by simp [Cp.work, isCount, isMore]]
  have H := Lib.hid (first_3 hb c sl b ho)
  go_enter Tryz.func74, Tryz.ntmps74
  go_wp2_with (go_at_call 83; refine Calls.mono H.out ?_; rintro e W ⟨rfl, w1, hx1, hb1, rfl⟩)
  all_goals
    (first | go_end0 | refine bodyPost_ret (results_none rfl _ _ _) rfl ?_)
    exact ⟨rfl, Lft.mk' (by first | assumption | exact Base.drew (by assumption) | exact Base.drewN (by assumption) _ | exact Base.alloc (by assumption) _) (by repeat (first | exact Ext.refl _ | assumption | refine Ext.drew' ?_ | refine Ext.drewN' ?_ _ | refine Ext.alloc' ?_ _ | refine Ext.trans ?_ (by assumption)))⟩
set_option maxRecDepth 8000 in
theorem work_4 (ho : c.Ok) : Calls Tryz.prog 74 #[.pointer (some ⟨m.c, 0, none⟩), .int .i64 4] (mk w m c sl b) fun e W => e = .returned (.tuple #[]) ∧ Lft w m (c.work 4) sl b W := by
  rw [show c.work 4 = c.first 4 from by simp [Cp.work, isCount, isMore]]
  have H := Lib.hid (first_4 hb c sl b ho)
  go_enter Tryz.func74, Tryz.ntmps74
  go_wp2_with (go_at_call 83; refine Calls.mono H.out ?_; rintro e W ⟨rfl, w1, hx1, hb1, rfl⟩)
  all_goals
    (first | go_end0 | refine bodyPost_ret (results_none rfl _ _ _) rfl ?_)
    exact ⟨rfl, Lft.mk' (by first | assumption | exact Base.drew (by assumption) | exact Base.drewN (by assumption) _ | exact Base.alloc (by assumption) _) (by repeat (first | exact Ext.refl _ | assumption | refine Ext.drew' ?_ | refine Ext.drewN' ?_ _ | refine Ext.alloc' ?_ _ | refine Ext.trans ?_ (by assumption)))⟩
set_option maxRecDepth 8000 in
theorem work_5 (ho : c.Ok) : Calls Tryz.prog 74 #[.pointer (some ⟨m.c, 0, none⟩), .int .i64 5] (mk w m c sl b) fun e W => e = .returned (.tuple #[]) ∧ Lft w m (c.work 5) sl b W := by
  rw [show c.work 5 = c.first 5 from by simp [Cp.work, isCount, isMore]]
  have H := Lib.hid (first_5 hb c sl b ho)
  go_enter Tryz.func74, Tryz.ntmps74
  go_wp2_with (go_at_call 83; refine Calls.mono H.out ?_; rintro e W ⟨rfl, w1, hx1, hb1, rfl⟩)
  all_goals
    (first | go_end0 | refine bodyPost_ret (results_none rfl _ _ _) rfl ?_)
    exact ⟨rfl, Lft.mk' (by first | assumption | exact Base.drew (by assumption) | exact Base.drewN (by assumption) _ | exact Base.alloc (by assumption) _) (by repeat (first | exact Ext.refl _ | assumption | refine Ext.drew' ?_ | refine Ext.drewN' ?_ _ | refine Ext.alloc' ?_ _ | refine Ext.trans ?_ (by assumption)))⟩
set_option maxRecDepth 8000 in
theorem work_6 (ho : c.Ok) : Calls Tryz.prog 74 #[.pointer (some ⟨m.c, 0, none⟩), .int .i64 6] (mk w m c sl b) fun e W => e = .returned (.tuple #[]) ∧ Lft w m (c.work 6) sl b W := by
  rw [show c.work 6 = c.first 6 from by simp [Cp.work, isCount, isMore]]
  have H := Lib.hid (first_6 hb c sl b ho)
  go_enter Tryz.func74, Tryz.ntmps74
  go_wp2_with (go_at_call 83; refine Calls.mono H.out ?_; rintro e W ⟨rfl, w1, hx1, hb1, rfl⟩)
  all_goals
    (first | go_end0 | refine bodyPost_ret (results_none rfl _ _ _) rfl ?_)
    exact ⟨rfl, Lft.mk' (by first | assumption | exact Base.drew (by assumption) | exact Base.drewN (by assumption) _ | exact Base.alloc (by assumption) _) (by repeat (first | exact Ext.refl _ | assumption | refine Ext.drew' ?_ | refine Ext.drewN' ?_ _ | refine Ext.alloc' ?_ _ | refine Ext.trans ?_ (by assumption)))⟩
set_option maxRecDepth 8000 in
theorem work_7 (ho : c.Ok) : Calls Tryz.prog 74 #[.pointer (some ⟨m.c, 0, none⟩), .int .i64 7] (mk w m c sl b) fun e W => e = .returned (.tuple #[]) ∧ Lft w m (c.work 7) sl b W := by
  rw [show c.work 7 = c.first 7 from by simp [Cp.work, isCount, isMore]]
  have H := Lib.hid (first_7 hb c sl b ho)
  go_enter Tryz.func74, Tryz.ntmps74
  go_wp2_with (go_at_call 83; refine Calls.mono H.out ?_; rintro e W ⟨rfl, w1, hx1, hb1, rfl⟩)
  all_goals
    (first | go_end0 | refine bodyPost_ret (results_none rfl _ _ _) rfl ?_)
    exact ⟨rfl, Lft.mk' (by first | assumption | exact Base.drew (by assumption) | exact Base.drewN (by assumption) _ | exact Base.alloc (by assumption) _) (by repeat (first | exact Ext.refl _ | assumption | refine Ext.drew' ?_ | refine Ext.drewN' ?_ _ | refine Ext.alloc' ?_ _ | refine Ext.trans ?_ (by assumption)))⟩
set_option maxRecDepth 8000 in
theorem work_8 (ho : c.Ok) : Calls Tryz.prog 74 #[.pointer (some ⟨m.c, 0, none⟩), .int .i64 8] (mk w m c sl b) fun e W => e = .returned (.tuple #[]) ∧ Lft w m (c.work 8) sl b W := by
  rw [show c.work 8 = c.first 8 from by simp [Cp.work, isCount, isMore]]
  have H := Lib.hid (first_8 hb c sl b ho)
  go_enter Tryz.func74, Tryz.ntmps74
  go_wp2_with (go_at_call 83; refine Calls.mono H.out ?_; rintro e W ⟨rfl, w1, hx1, hb1, rfl⟩)
  all_goals
    (first | go_end0 | refine bodyPost_ret (results_none rfl _ _ _) rfl ?_)
    exact ⟨rfl, Lft.mk' (by first | assumption | exact Base.drew (by assumption) | exact Base.drewN (by assumption) _ | exact Base.alloc (by assumption) _) (by repeat (first | exact Ext.refl _ | assumption | refine Ext.drew' ?_ | refine Ext.drewN' ?_ _ | refine Ext.alloc' ?_ _ | refine Ext.trans ?_ (by assumption)))⟩
set_option maxRecDepth 8000 in
theorem work_9 (ho : c.Ok) : Calls Tryz.prog 74 #[.pointer (some ⟨m.c, 0, none⟩), .int .i64 9] (mk w m c sl b) fun e W => e = .returned (.tuple #[]) ∧ Lft w m (c.work 9) sl b W := by
  rw [show c.work 9 = c.first 9 from by simp [Cp.work, isCount, isMore]]
  have H := Lib.hid (first_9 hb c sl b ho)
  go_enter Tryz.func74, Tryz.ntmps74
  go_wp2_with (go_at_call 83; refine Calls.mono H.out ?_; rintro e W ⟨rfl, w1, hx1, hb1, rfl⟩)
  all_goals
    (first | go_end0 | refine bodyPost_ret (results_none rfl _ _ _) rfl ?_)
    exact ⟨rfl, Lft.mk' (by first | assumption | exact Base.drew (by assumption) | exact Base.drewN (by assumption) _ | exact Base.alloc (by assumption) _) (by repeat (first | exact Ext.refl _ | assumption | refine Ext.drew' ?_ | refine Ext.drewN' ?_ _ | refine Ext.alloc' ?_ _ | refine Ext.trans ?_ (by assumption)))⟩
set_option maxRecDepth 8000 in
theorem work_10 (ho : c.Ok) : Calls Tryz.prog 74 #[.pointer (some ⟨m.c, 0, none⟩), .int .i64 10] (mk w m c sl b) fun e W => e = .returned (.tuple #[]) ∧ Lft w m (c.work 10) sl b W := by
  rw [show c.work 10 = c.first 10 from by simp [Cp.work, isCount, isMore]]
  have H := Lib.hid (first_10 hb c sl b ho)
  go_enter Tryz.func74, Tryz.ntmps74
  go_wp2_with (go_at_call 83; refine Calls.mono H.out ?_; rintro e W ⟨rfl, w1, hx1, hb1, rfl⟩)
  all_goals
    (first | go_end0 | refine bodyPost_ret (results_none rfl _ _ _) rfl ?_)
    exact ⟨rfl, Lft.mk' (by first | assumption | exact Base.drew (by assumption) | exact Base.drewN (by assumption) _ | exact Base.alloc (by assumption) _) (by repeat (first | exact Ext.refl _ | assumption | refine Ext.drew' ?_ | refine Ext.drewN' ?_ _ | refine Ext.alloc' ?_ _ | refine Ext.trans ?_ (by assumption)))⟩
set_option maxRecDepth 8000 in
theorem work_11 (ho : c.Ok) : Calls Tryz.prog 74 #[.pointer (some ⟨m.c, 0, none⟩), .int .i64 11] (mk w m c sl b) fun e W => e = .returned (.tuple #[]) ∧ Lft w m (c.work 11) sl b W := by
  rw [show c.work 11 = c.first 11 from by simp [Cp.work, isCount, isMore]]
  have H := Lib.hid (first_11 hb c sl b ho)
  go_enter Tryz.func74, Tryz.ntmps74
  go_wp2_with (go_at_call 83; refine Calls.mono H.out ?_; rintro e W ⟨rfl, w1, hx1, hb1, rfl⟩)
  all_goals
    (first | go_end0 | refine bodyPost_ret (results_none rfl _ _ _) rfl ?_)
    exact ⟨rfl, Lft.mk' (by first | assumption | exact Base.drew (by assumption) | exact Base.drewN (by assumption) _ | exact Base.alloc (by assumption) _) (by repeat (first | exact Ext.refl _ | assumption | refine Ext.drew' ?_ | refine Ext.drewN' ?_ _ | refine Ext.alloc' ?_ _ | refine Ext.trans ?_ (by assumption)))⟩
set_option maxRecDepth 8000 in
theorem work_12 (ho : c.Ok) : Calls Tryz.prog 74 #[.pointer (some ⟨m.c, 0, none⟩), .int .i64 12] (mk w m c sl b) fun e W => e = .returned (.tuple #[]) ∧ Lft w m (c.work 12) sl b W := by
  rw [show c.work 12 = c.first 12 from by simp [Cp.work, isCount, isMore]]
  have H := Lib.hid (first_12 hb c sl b ho)
  go_enter Tryz.func74, Tryz.ntmps74
  go_wp2_with (go_at_call 83; refine Calls.mono H.out ?_; rintro e W ⟨rfl, w1, hx1, hb1, rfl⟩)
  all_goals
    (first | go_end0 | refine bodyPost_ret (results_none rfl _ _ _) rfl ?_)
    exact ⟨rfl, Lft.mk' (by first | assumption | exact Base.drew (by assumption) | exact Base.drewN (by assumption) _ | exact Base.alloc (by assumption) _) (by repeat (first | exact Ext.refl _ | assumption | refine Ext.drew' ?_ | refine Ext.drewN' ?_ _ | refine Ext.alloc' ?_ _ | refine Ext.trans ?_ (by assumption)))⟩
set_option maxRecDepth 8000 in
theorem work_18 (ho : c.Ok) : Calls Tryz.prog 74 #[.pointer (some ⟨m.c, 0, none⟩), .int .i64 18] (mk w m c sl b) fun e W => e = .returned (.tuple #[]) ∧ Lft w m (c.work 18) sl b W := by
  rw [show c.work 18 = c.first 18 from by simp [Cp.work, isCount, isMore]]
  have H := Lib.hid (first_18 hb c sl b ho)
  go_enter Tryz.func74, Tryz.ntmps74
  go_wp2_with (go_at_call 83; refine Calls.mono H.out ?_; rintro e W ⟨rfl, w1, hx1, hb1, rfl⟩)
  all_goals
    (first | go_end0 | refine bodyPost_ret (results_none rfl _ _ _) rfl ?_)
    exact ⟨rfl, Lft.mk' (by first | assumption | exact Base.drew (by assumption) | exact Base.drewN (by assumption) _ | exact Base.alloc (by assumption) _) (by repeat (first | exact Ext.refl _ | assumption | refine Ext.drew' ?_ | refine Ext.drewN' ?_ _ | refine Ext.alloc' ?_ _ | refine Ext.trans ?_ (by assumption)))⟩
set_option maxRecDepth 8000 in
theorem work_24 (ho : c.Ok) : Calls Tryz.prog 74 #[.pointer (some ⟨m.c, 0, none⟩), .int .i64 24] (mk w m c sl b) fun e W => e = .returned (.tuple #[]) ∧ Lft w m (c.work 24) sl b W := by
  rw [show c.work 24 = c.first 24 from by simp [Cp.work, isCount, isMore]]
  have H := Lib.hid (first_24 hb c sl b ho)
  go_enter Tryz.func74, Tryz.ntmps74
  go_wp2_with (go_at_call 83; refine Calls.mono H.out ?_; rintro e W ⟨rfl, w1, hx1, hb1, rfl⟩)
  all_goals
    (first | go_end0 | refine bodyPost_ret (results_none rfl _ _ _) rfl ?_)
    exact ⟨rfl, Lft.mk' (by first | assumption | exact Base.drew (by assumption) | exact Base.drewN (by assumption) _ | exact Base.alloc (by assumption) _) (by repeat (first | exact Ext.refl _ | assumption | refine Ext.drew' ?_ | refine Ext.drewN' ?_ _ | refine Ext.alloc' ?_ _ | refine Ext.trans ?_ (by assumption)))⟩
set_option maxRecDepth 8000 in
theorem work_25 (ho : c.Ok) : Calls Tryz.prog 74 #[.pointer (some ⟨m.c, 0, none⟩), .int .i64 25] (mk w m c sl b) fun e W => e = .returned (.tuple #[]) ∧ Lft w m (c.work 25) sl b W := by
  rw [show c.work 25 = c.first 25 from by simp [Cp.work, isCount, isMore]]
  have H := Lib.hid (first_25 hb c sl b ho)
  go_enter Tryz.func74, Tryz.ntmps74
  go_wp2_with (go_at_call 83; refine Calls.mono H.out ?_; rintro e W ⟨rfl, w1, hx1, hb1, rfl⟩)
  all_goals
    (first | go_end0 | refine bodyPost_ret (results_none rfl _ _ _) rfl ?_)
    exact ⟨rfl, Lft.mk' (by first | assumption | exact Base.drew (by assumption) | exact Base.drewN (by assumption) _ | exact Base.alloc (by assumption) _) (by repeat (first | exact Ext.refl _ | assumption | refine Ext.drew' ?_ | refine Ext.drewN' ?_ _ | refine Ext.alloc' ?_ _ | refine Ext.trans ?_ (by assumption)))⟩
set_option maxRecDepth 8000 in
theorem work_26 (ho : c.Ok) : Calls Tryz.prog 74 #[.pointer (some ⟨m.c, 0, none⟩), .int .i64 26] (mk w m c sl b) fun e W => e = .returned (.tuple #[]) ∧ Lft w m (c.work 26) sl b W := by
  rw [show c.work 26 = c.first 26 from by simp [Cp.work, isCount, isMore]]
  have H := Lib.hid (first_26 hb c sl b ho)
  go_enter Tryz.func74, Tryz.ntmps74
  go_wp2_with (go_at_call 83; refine Calls.mono H.out ?_; rintro e W ⟨rfl, w1, hx1, hb1, rfl⟩)
  all_goals
    (first | go_end0 | refine bodyPost_ret (results_none rfl _ _ _) rfl ?_)
    exact ⟨rfl, Lft.mk' (by first | assumption | exact Base.drew (by assumption) | exact Base.drewN (by assumption) _ | exact Base.alloc (by assumption) _) (by repeat (first | exact Ext.refl _ | assumption | refine Ext.drew' ?_ | refine Ext.drewN' ?_ _ | refine Ext.alloc' ?_ _ | refine Ext.trans ?_ (by assumption)))⟩
set_option maxRecDepth 8000 in
theorem work_27 (ho : c.Ok) : Calls Tryz.prog 74 #[.pointer (some ⟨m.c, 0, none⟩), .int .i64 27] (mk w m c sl b) fun e W => e = .returned (.tuple #[]) ∧ Lft w m (c.work 27) sl b W := by
  rw [show c.work 27 = c.first 27 from by simp [Cp.work, isCount, isMore]]
  have H := Lib.hid (first_27 hb c sl b ho)
  go_enter Tryz.func74, Tryz.ntmps74
  go_wp2_with (go_at_call 83; refine Calls.mono H.out ?_; rintro e W ⟨rfl, w1, hx1, hb1, rfl⟩)
  all_goals
    (first | go_end0 | refine bodyPost_ret (results_none rfl _ _ _) rfl ?_)
    exact ⟨rfl, Lft.mk' (by first | assumption | exact Base.drew (by assumption) | exact Base.drewN (by assumption) _ | exact Base.alloc (by assumption) _) (by repeat (first | exact Ext.refl _ | assumption | refine Ext.drew' ?_ | refine Ext.drewN' ?_ _ | refine Ext.alloc' ?_ _ | refine Ext.trans ?_ (by assumption)))⟩
set_option maxRecDepth 8000 in
theorem work_28 (ho : c.Ok) : Calls Tryz.prog 74 #[.pointer (some ⟨m.c, 0, none⟩), .int .i64 28] (mk w m c sl b) fun e W => e = .returned (.tuple #[]) ∧ Lft w m (c.work 28) sl b W := by
  rw [show c.work 28 = c.first 28 from by simp [Cp.work, isCount, isMore]]
  have H := Lib.hid (first_28 hb c sl b ho)
  go_enter Tryz.func74, Tryz.ntmps74
  go_wp2_with (go_at_call 83; refine Calls.mono H.out ?_; rintro e W ⟨rfl, w1, hx1, hb1, rfl⟩)
  all_goals
    (first | go_end0 | refine bodyPost_ret (results_none rfl _ _ _) rfl ?_)
    exact ⟨rfl, Lft.mk' (by first | assumption | exact Base.drew (by assumption) | exact Base.drewN (by assumption) _ | exact Base.alloc (by assumption) _) (by repeat (first | exact Ext.refl _ | assumption | refine Ext.drew' ?_ | refine Ext.drewN' ?_ _ | refine Ext.alloc' ?_ _ | refine Ext.trans ?_ (by assumption)))⟩
set_option maxRecDepth 8000 in
theorem work_29 (ho : c.Ok) : Calls Tryz.prog 74 #[.pointer (some ⟨m.c, 0, none⟩), .int .i64 29] (mk w m c sl b) fun e W => e = .returned (.tuple #[]) ∧ Lft w m (c.work 29) sl b W := by
  rw [show c.work 29 = c.first 29 from by simp [Cp.work, isCount, isMore]]
  have H := Lib.hid (first_29 hb c sl b ho)
  go_enter Tryz.func74, Tryz.ntmps74
  go_wp2_with (go_at_call 83; refine Calls.mono H.out ?_; rintro e W ⟨rfl, w1, hx1, hb1, rfl⟩)
  all_goals
    (first | go_end0 | refine bodyPost_ret (results_none rfl _ _ _) rfl ?_)
    exact ⟨rfl, Lft.mk' (by first | assumption | exact Base.drew (by assumption) | exact Base.drewN (by assumption) _ | exact Base.alloc (by assumption) _) (by repeat (first | exact Ext.refl _ | assumption | refine Ext.drew' ?_ | refine Ext.drewN' ?_ _ | refine Ext.alloc' ?_ _ | refine Ext.trans ?_ (by assumption)))⟩
set_option maxRecDepth 8000 in
theorem work_30 (ho : c.Ok) : Calls Tryz.prog 74 #[.pointer (some ⟨m.c, 0, none⟩), .int .i64 30] (mk w m c sl b) fun e W => e = .returned (.tuple #[]) ∧ Lft w m (c.work 30) sl b W := by
  rw [show c.work 30 = c.first 30 from by simp [Cp.work, isCount, isMore]]
  have H := Lib.hid (first_30 hb c sl b ho)
  go_enter Tryz.func74, Tryz.ntmps74
  go_wp2_with (go_at_call 83; refine Calls.mono H.out ?_; rintro e W ⟨rfl, w1, hx1, hb1, rfl⟩)
  all_goals
    (first | go_end0 | refine bodyPost_ret (results_none rfl _ _ _) rfl ?_)
    exact ⟨rfl, Lft.mk' (by first | assumption | exact Base.drew (by assumption) | exact Base.drewN (by assumption) _ | exact Base.alloc (by assumption) _) (by repeat (first | exact Ext.refl _ | assumption | refine Ext.drew' ?_ | refine Ext.drewN' ?_ _ | refine Ext.alloc' ?_ _ | refine Ext.trans ?_ (by assumption)))⟩
set_option maxRecDepth 8000 in
theorem work_31 (ho : c.Ok) : Calls Tryz.prog 74 #[.pointer (some ⟨m.c, 0, none⟩), .int .i64 31] (mk w m c sl b) fun e W => e = .returned (.tuple #[]) ∧ Lft w m (c.work 31) sl b W := by
  rw [show c.work 31 = c.first 31 from by simp [Cp.work, isCount, isMore]]
  have H := Lib.hid (first_31 hb c sl b ho)
  go_enter Tryz.func74, Tryz.ntmps74
  go_wp2_with (go_at_call 83; refine Calls.mono H.out ?_; rintro e W ⟨rfl, w1, hx1, hb1, rfl⟩)
  all_goals
    (first | go_end0 | refine bodyPost_ret (results_none rfl _ _ _) rfl ?_)
    exact ⟨rfl, Lft.mk' (by first | assumption | exact Base.drew (by assumption) | exact Base.drewN (by assumption) _ | exact Base.alloc (by assumption) _) (by repeat (first | exact Ext.refl _ | assumption | refine Ext.drew' ?_ | refine Ext.drewN' ?_ _ | refine Ext.alloc' ?_ _ | refine Ext.trans ?_ (by assumption)))⟩
set_option maxRecDepth 8000 in
theorem work_13 (ho : c.Ok) : Calls Tryz.prog 74 #[.pointer (some ⟨m.c, 0, none⟩), .int .i64 13] (mk w m c sl b) fun e W => e = .returned (.tuple #[]) ∧ Lft w m (c.work 13) sl b W := by
  rw [show c.work 13 = c.counts 13 from by simp [Cp.work, isCount, isMore]]
  have H := Lib.hid (first_13 hb c sl b ho)
  go_enter Tryz.func74, Tryz.ntmps74
  go_wp2_with (go_at_call 83; refine Calls.mono H.out ?_; rintro e W ⟨rfl, w1, hx1, hb1, rfl⟩)
  all_goals
    (first | go_end0 | refine bodyPost_ret (results_none rfl _ _ _) rfl ?_)
    exact ⟨rfl, Lft.mk' (by first | assumption | exact Base.drew (by assumption) | exact Base.drewN (by assumption) _ | exact Base.alloc (by assumption) _) (by repeat (first | exact Ext.refl _ | assumption | refine Ext.drew' ?_ | refine Ext.drewN' ?_ _ | refine Ext.alloc' ?_ _ | refine Ext.trans ?_ (by assumption)))⟩
set_option maxRecDepth 8000 in
theorem work_14 (ho : c.Ok) : Calls Tryz.prog 74 #[.pointer (some ⟨m.c, 0, none⟩), .int .i64 14] (mk w m c sl b) fun e W => e = .returned (.tuple #[]) ∧ Lft w m (c.work 14) sl b W := by
  rw [show c.work 14 = c.counts 14 from by simp [Cp.work, isCount, isMore]]
  have H := Lib.hid (first_14 hb c sl b ho)
  go_enter Tryz.func74, Tryz.ntmps74
  go_wp2_with (go_at_call 83; refine Calls.mono H.out ?_; rintro e W ⟨rfl, w1, hx1, hb1, rfl⟩)
  all_goals
    (first | go_end0 | refine bodyPost_ret (results_none rfl _ _ _) rfl ?_)
    exact ⟨rfl, Lft.mk' (by first | assumption | exact Base.drew (by assumption) | exact Base.drewN (by assumption) _ | exact Base.alloc (by assumption) _) (by repeat (first | exact Ext.refl _ | assumption | refine Ext.drew' ?_ | refine Ext.drewN' ?_ _ | refine Ext.alloc' ?_ _ | refine Ext.trans ?_ (by assumption)))⟩
set_option maxRecDepth 8000 in
theorem work_15 (ho : c.Ok) : Calls Tryz.prog 74 #[.pointer (some ⟨m.c, 0, none⟩), .int .i64 15] (mk w m c sl b) fun e W => e = .returned (.tuple #[]) ∧ Lft w m (c.work 15) sl b W := by
  rw [show c.work 15 = c.counts 15 from by simp [Cp.work, isCount, isMore]]
  have H := Lib.hid (first_15 hb c sl b ho)
  go_enter Tryz.func74, Tryz.ntmps74
  go_wp2_with (go_at_call 83; refine Calls.mono H.out ?_; rintro e W ⟨rfl, w1, hx1, hb1, rfl⟩)
  all_goals
    (first | go_end0 | refine bodyPost_ret (results_none rfl _ _ _) rfl ?_)
    exact ⟨rfl, Lft.mk' (by first | assumption | exact Base.drew (by assumption) | exact Base.drewN (by assumption) _ | exact Base.alloc (by assumption) _) (by repeat (first | exact Ext.refl _ | assumption | refine Ext.drew' ?_ | refine Ext.drewN' ?_ _ | refine Ext.alloc' ?_ _ | refine Ext.trans ?_ (by assumption)))⟩
set_option maxRecDepth 8000 in
theorem work_16 (ho : c.Ok) : Calls Tryz.prog 74 #[.pointer (some ⟨m.c, 0, none⟩), .int .i64 16] (mk w m c sl b) fun e W => e = .returned (.tuple #[]) ∧ Lft w m (c.work 16) sl b W := by
  rw [show c.work 16 = c.counts 16 from by simp [Cp.work, isCount, isMore]]
  have H := Lib.hid (first_16 hb c sl b ho)
  go_enter Tryz.func74, Tryz.ntmps74
  go_wp2_with (go_at_call 83; refine Calls.mono H.out ?_; rintro e W ⟨rfl, w1, hx1, hb1, rfl⟩)
  all_goals
    (first | go_end0 | refine bodyPost_ret (results_none rfl _ _ _) rfl ?_)
    exact ⟨rfl, Lft.mk' (by first | assumption | exact Base.drew (by assumption) | exact Base.drewN (by assumption) _ | exact Base.alloc (by assumption) _) (by repeat (first | exact Ext.refl _ | assumption | refine Ext.drew' ?_ | refine Ext.drewN' ?_ _ | refine Ext.alloc' ?_ _ | refine Ext.trans ?_ (by assumption)))⟩
set_option maxRecDepth 8000 in
theorem work_17 (ho : c.Ok) : Calls Tryz.prog 74 #[.pointer (some ⟨m.c, 0, none⟩), .int .i64 17] (mk w m c sl b) fun e W => e = .returned (.tuple #[]) ∧ Lft w m (c.work 17) sl b W := by
  rw [show c.work 17 = c.counts 17 from by simp [Cp.work, isCount, isMore]]
  have H := Lib.hid (first_17 hb c sl b ho)
  go_enter Tryz.func74, Tryz.ntmps74
  go_wp2_with (go_at_call 83; refine Calls.mono H.out ?_; rintro e W ⟨rfl, w1, hx1, hb1, rfl⟩)
  all_goals
    (first | go_end0 | refine bodyPost_ret (results_none rfl _ _ _) rfl ?_)
    exact ⟨rfl, Lft.mk' (by first | assumption | exact Base.drew (by assumption) | exact Base.drewN (by assumption) _ | exact Base.alloc (by assumption) _) (by repeat (first | exact Ext.refl _ | assumption | refine Ext.drew' ?_ | refine Ext.drewN' ?_ _ | refine Ext.alloc' ?_ _ | refine Ext.trans ?_ (by assumption)))⟩
set_option maxRecDepth 8000 in
theorem work_19 (ho : c.Ok) : Calls Tryz.prog 74 #[.pointer (some ⟨m.c, 0, none⟩), .int .i64 19] (mk w m c sl b) fun e W => e = .returned (.tuple #[]) ∧ Lft w m (c.work 19) sl b W := by
  rw [show c.work 19 = c.counts 19 from by simp [Cp.work, isCount, isMore]]
  have H := Lib.hid (first_19 hb c sl b ho)
  go_enter Tryz.func74, Tryz.ntmps74
  go_wp2_with (go_at_call 83; refine Calls.mono H.out ?_; rintro e W ⟨rfl, w1, hx1, hb1, rfl⟩)
  all_goals
    (first | go_end0 | refine bodyPost_ret (results_none rfl _ _ _) rfl ?_)
    exact ⟨rfl, Lft.mk' (by first | assumption | exact Base.drew (by assumption) | exact Base.drewN (by assumption) _ | exact Base.alloc (by assumption) _) (by repeat (first | exact Ext.refl _ | assumption | refine Ext.drew' ?_ | refine Ext.drewN' ?_ _ | refine Ext.alloc' ?_ _ | refine Ext.trans ?_ (by assumption)))⟩
set_option maxRecDepth 8000 in
theorem work_20 (ho : c.Ok) : Calls Tryz.prog 74 #[.pointer (some ⟨m.c, 0, none⟩), .int .i64 20] (mk w m c sl b) fun e W => e = .returned (.tuple #[]) ∧ Lft w m (c.work 20) sl b W := by
  rw [show c.work 20 = c.counts 20 from by simp [Cp.work, isCount, isMore]]
  have H := Lib.hid (first_20 hb c sl b ho)
  go_enter Tryz.func74, Tryz.ntmps74
  go_wp2_with (go_at_call 83; refine Calls.mono H.out ?_; rintro e W ⟨rfl, w1, hx1, hb1, rfl⟩)
  all_goals
    (first | go_end0 | refine bodyPost_ret (results_none rfl _ _ _) rfl ?_)
    exact ⟨rfl, Lft.mk' (by first | assumption | exact Base.drew (by assumption) | exact Base.drewN (by assumption) _ | exact Base.alloc (by assumption) _) (by repeat (first | exact Ext.refl _ | assumption | refine Ext.drew' ?_ | refine Ext.drewN' ?_ _ | refine Ext.alloc' ?_ _ | refine Ext.trans ?_ (by assumption)))⟩
set_option maxRecDepth 8000 in
theorem work_21 (ho : c.Ok) : Calls Tryz.prog 74 #[.pointer (some ⟨m.c, 0, none⟩), .int .i64 21] (mk w m c sl b) fun e W => e = .returned (.tuple #[]) ∧ Lft w m (c.work 21) sl b W := by
  rw [show c.work 21 = c.counts 21 from by simp [Cp.work, isCount, isMore]]
  have H := Lib.hid (first_21 hb c sl b ho)
  go_enter Tryz.func74, Tryz.ntmps74
  go_wp2_with (go_at_call 83; refine Calls.mono H.out ?_; rintro e W ⟨rfl, w1, hx1, hb1, rfl⟩)
  all_goals
    (first | go_end0 | refine bodyPost_ret (results_none rfl _ _ _) rfl ?_)
    exact ⟨rfl, Lft.mk' (by first | assumption | exact Base.drew (by assumption) | exact Base.drewN (by assumption) _ | exact Base.alloc (by assumption) _) (by repeat (first | exact Ext.refl _ | assumption | refine Ext.drew' ?_ | refine Ext.drewN' ?_ _ | refine Ext.alloc' ?_ _ | refine Ext.trans ?_ (by assumption)))⟩
set_option maxRecDepth 8000 in
theorem work_22 (ho : c.Ok) : Calls Tryz.prog 74 #[.pointer (some ⟨m.c, 0, none⟩), .int .i64 22] (mk w m c sl b) fun e W => e = .returned (.tuple #[]) ∧ Lft w m (c.work 22) sl b W := by
  rw [show c.work 22 = c.counts 22 from by simp [Cp.work, isCount, isMore]]
  have H := Lib.hid (first_22 hb c sl b ho)
  go_enter Tryz.func74, Tryz.ntmps74
  go_wp2_with (go_at_call 83; refine Calls.mono H.out ?_; rintro e W ⟨rfl, w1, hx1, hb1, rfl⟩)
  all_goals
    (first | go_end0 | refine bodyPost_ret (results_none rfl _ _ _) rfl ?_)
    exact ⟨rfl, Lft.mk' (by first | assumption | exact Base.drew (by assumption) | exact Base.drewN (by assumption) _ | exact Base.alloc (by assumption) _) (by repeat (first | exact Ext.refl _ | assumption | refine Ext.drew' ?_ | refine Ext.drewN' ?_ _ | refine Ext.alloc' ?_ _ | refine Ext.trans ?_ (by assumption)))⟩
set_option maxRecDepth 8000 in
theorem work_23 (ho : c.Ok) : Calls Tryz.prog 74 #[.pointer (some ⟨m.c, 0, none⟩), .int .i64 23] (mk w m c sl b) fun e W => e = .returned (.tuple #[]) ∧ Lft w m (c.work 23) sl b W := by
  rw [show c.work 23 = c.counts 23 from by simp [Cp.work, isCount, isMore]]
  have H := Lib.hid (first_23 hb c sl b ho)
  go_enter Tryz.func74, Tryz.ntmps74
  go_wp2_with (go_at_call 83; refine Calls.mono H.out ?_; rintro e W ⟨rfl, w1, hx1, hb1, rfl⟩)
  all_goals
    (first | go_end0 | refine bodyPost_ret (results_none rfl _ _ _) rfl ?_)
    exact ⟨rfl, Lft.mk' (by first | assumption | exact Base.drew (by assumption) | exact Base.drewN (by assumption) _ | exact Base.alloc (by assumption) _) (by repeat (first | exact Ext.refl _ | assumption | refine Ext.drew' ?_ | refine Ext.drewN' ?_ _ | refine Ext.alloc' ?_ _ | refine Ext.trans ?_ (by assumption)))⟩
set_option maxRecDepth 8000 in
theorem work_32 (ho : c.Ok) : Calls Tryz.prog 74 #[.pointer (some ⟨m.c, 0, none⟩), .int .i64 32] (mk w m c sl b) fun e W => e = .returned (.tuple #[]) ∧ Lft w m (c.work 32) sl b W := by
  rw [show c.work 32 = c.other 32 from by simp [Cp.work, isCount, isMore]]
  have H := Lib.hid (other_32 hb c sl b ho)
  go_enter Tryz.func74, Tryz.ntmps74
  go_wp2_with (go_at_call 84; refine Calls.mono H.out ?_; rintro e W ⟨rfl, w1, hx1, hb1, rfl⟩)
  all_goals
    (first | go_end0 | refine bodyPost_ret (results_none rfl _ _ _) rfl ?_)
    exact ⟨rfl, Lft.mk' (by first | assumption | exact Base.drew (by assumption) | exact Base.drewN (by assumption) _ | exact Base.alloc (by assumption) _) (by repeat (first | exact Ext.refl _ | assumption | refine Ext.drew' ?_ | refine Ext.drewN' ?_ _ | refine Ext.alloc' ?_ _ | refine Ext.trans ?_ (by assumption)))⟩
set_option maxRecDepth 8000 in
theorem work_33 (ho : c.Ok) : Calls Tryz.prog 74 #[.pointer (some ⟨m.c, 0, none⟩), .int .i64 33] (mk w m c sl b) fun e W => e = .returned (.tuple #[]) ∧ Lft w m (c.work 33) sl b W := by
  rw [show c.work 33 = c.other 33 from by simp [Cp.work, isCount, isMore]]
  have H := Lib.hid (other_33 hb c sl b ho)
  go_enter Tryz.func74, Tryz.ntmps74
  go_wp2_with (go_at_call 84; refine Calls.mono H.out ?_; rintro e W ⟨rfl, w1, hx1, hb1, rfl⟩)
  all_goals
    (first | go_end0 | refine bodyPost_ret (results_none rfl _ _ _) rfl ?_)
    exact ⟨rfl, Lft.mk' (by first | assumption | exact Base.drew (by assumption) | exact Base.drewN (by assumption) _ | exact Base.alloc (by assumption) _) (by repeat (first | exact Ext.refl _ | assumption | refine Ext.drew' ?_ | refine Ext.drewN' ?_ _ | refine Ext.alloc' ?_ _ | refine Ext.trans ?_ (by assumption)))⟩
set_option maxRecDepth 8000 in
theorem work_34 (ho : c.Ok) : Calls Tryz.prog 74 #[.pointer (some ⟨m.c, 0, none⟩), .int .i64 34] (mk w m c sl b) fun e W => e = .returned (.tuple #[]) ∧ Lft w m (c.work 34) sl b W := by
  rw [show c.work 34 = c.other 34 from by simp [Cp.work, isCount, isMore]]
  have H := Lib.hid (other_34 hb c sl b ho)
  go_enter Tryz.func74, Tryz.ntmps74
  go_wp2_with (go_at_call 84; refine Calls.mono H.out ?_; rintro e W ⟨rfl, w1, hx1, hb1, rfl⟩)
  all_goals
    (first | go_end0 | refine bodyPost_ret (results_none rfl _ _ _) rfl ?_)
    exact ⟨rfl, Lft.mk' (by first | assumption | exact Base.drew (by assumption) | exact Base.drewN (by assumption) _ | exact Base.alloc (by assumption) _) (by repeat (first | exact Ext.refl _ | assumption | refine Ext.drew' ?_ | refine Ext.drewN' ?_ _ | refine Ext.alloc' ?_ _ | refine Ext.trans ?_ (by assumption)))⟩
set_option maxRecDepth 8000 in
theorem work_35 (ho : c.Ok) : Calls Tryz.prog 74 #[.pointer (some ⟨m.c, 0, none⟩), .int .i64 35] (mk w m c sl b) fun e W => e = .returned (.tuple #[]) ∧ Lft w m (c.work 35) sl b W := by
  rw [show c.work 35 = c.other 35 from by simp [Cp.work, isCount, isMore]]
  have H := Lib.hid (other_35 hb c sl b ho)
  go_enter Tryz.func74, Tryz.ntmps74
  go_wp2_with (go_at_call 84; refine Calls.mono H.out ?_; rintro e W ⟨rfl, w1, hx1, hb1, rfl⟩)
  all_goals
    (first | go_end0 | refine bodyPost_ret (results_none rfl _ _ _) rfl ?_)
    exact ⟨rfl, Lft.mk' (by first | assumption | exact Base.drew (by assumption) | exact Base.drewN (by assumption) _ | exact Base.alloc (by assumption) _) (by repeat (first | exact Ext.refl _ | assumption | refine Ext.drew' ?_ | refine Ext.drewN' ?_ _ | refine Ext.alloc' ?_ _ | refine Ext.trans ?_ (by assumption)))⟩
set_option maxRecDepth 8000 in
theorem work_36 (ho : c.Ok) : Calls Tryz.prog 74 #[.pointer (some ⟨m.c, 0, none⟩), .int .i64 36] (mk w m c sl b) fun e W => e = .returned (.tuple #[]) ∧ Lft w m (c.work 36) sl b W := by
  rw [show c.work 36 = c.other 36 from by simp [Cp.work, isCount, isMore]]
  have H := Lib.hid (other_36 hb c sl b ho)
  go_enter Tryz.func74, Tryz.ntmps74
  go_wp2_with (go_at_call 84; refine Calls.mono H.out ?_; rintro e W ⟨rfl, w1, hx1, hb1, rfl⟩)
  all_goals
    (first | go_end0 | refine bodyPost_ret (results_none rfl _ _ _) rfl ?_)
    exact ⟨rfl, Lft.mk' (by first | assumption | exact Base.drew (by assumption) | exact Base.drewN (by assumption) _ | exact Base.alloc (by assumption) _) (by repeat (first | exact Ext.refl _ | assumption | refine Ext.drew' ?_ | refine Ext.drewN' ?_ _ | refine Ext.alloc' ?_ _ | refine Ext.trans ?_ (by assumption)))⟩
set_option maxRecDepth 8000 in
theorem work_37 (ho : c.Ok) : Calls Tryz.prog 74 #[.pointer (some ⟨m.c, 0, none⟩), .int .i64 37] (mk w m c sl b) fun e W => e = .returned (.tuple #[]) ∧ Lft w m (c.work 37) sl b W := by
  rw [show c.work 37 = c.other 37 from by simp [Cp.work, isCount, isMore]]
  have H := Lib.hid (other_37 hb c sl b ho)
  go_enter Tryz.func74, Tryz.ntmps74
  go_wp2_with (go_at_call 84; refine Calls.mono H.out ?_; rintro e W ⟨rfl, w1, hx1, hb1, rfl⟩)
  all_goals
    (first | go_end0 | refine bodyPost_ret (results_none rfl _ _ _) rfl ?_)
    exact ⟨rfl, Lft.mk' (by first | assumption | exact Base.drew (by assumption) | exact Base.drewN (by assumption) _ | exact Base.alloc (by assumption) _) (by repeat (first | exact Ext.refl _ | assumption | refine Ext.drew' ?_ | refine Ext.drewN' ?_ _ | refine Ext.alloc' ?_ _ | refine Ext.trans ?_ (by assumption)))⟩
set_option maxRecDepth 8000 in
theorem work_38 (ho : c.Ok) : Calls Tryz.prog 74 #[.pointer (some ⟨m.c, 0, none⟩), .int .i64 38] (mk w m c sl b) fun e W => e = .returned (.tuple #[]) ∧ Lft w m (c.work 38) sl b W := by
  rw [show c.work 38 = c.other 38 from by simp [Cp.work, isCount, isMore]]
  have H := Lib.hid (other_38 hb c sl b ho)
  go_enter Tryz.func74, Tryz.ntmps74
  go_wp2_with (go_at_call 84; refine Calls.mono H.out ?_; rintro e W ⟨rfl, w1, hx1, hb1, rfl⟩)
  all_goals
    (first | go_end0 | refine bodyPost_ret (results_none rfl _ _ _) rfl ?_)
    exact ⟨rfl, Lft.mk' (by first | assumption | exact Base.drew (by assumption) | exact Base.drewN (by assumption) _ | exact Base.alloc (by assumption) _) (by repeat (first | exact Ext.refl _ | assumption | refine Ext.drew' ?_ | refine Ext.drewN' ?_ _ | refine Ext.alloc' ?_ _ | refine Ext.trans ?_ (by assumption)))⟩
set_option maxRecDepth 8000 in
theorem work_41 (ho : c.Ok) : Calls Tryz.prog 74 #[.pointer (some ⟨m.c, 0, none⟩), .int .i64 41] (mk w m c sl b) fun e W => e = .returned (.tuple #[]) ∧ Lft w m (c.work 41) sl b W := by
  rw [show c.work 41 = c.more 41 from by simp [Cp.work, isCount, isMore]]
  have H := Lib.hid (more_41 hb c sl b ho)
  go_enter Tryz.func74, Tryz.ntmps74
  go_wp2_with (go_at_call 85; refine Calls.mono H.out ?_; rintro e W ⟨rfl, w1, hx1, hb1, rfl⟩)
  all_goals
    (first | go_end0 | refine bodyPost_ret (results_none rfl _ _ _) rfl ?_)
    exact ⟨rfl, Lft.mk' (by first | assumption | exact Base.drew (by assumption) | exact Base.drewN (by assumption) _ | exact Base.alloc (by assumption) _) (by repeat (first | exact Ext.refl _ | assumption | refine Ext.drew' ?_ | refine Ext.drewN' ?_ _ | refine Ext.alloc' ?_ _ | refine Ext.trans ?_ (by assumption)))⟩
set_option maxRecDepth 8000 in
theorem work_42 (ho : c.Ok) : Calls Tryz.prog 74 #[.pointer (some ⟨m.c, 0, none⟩), .int .i64 42] (mk w m c sl b) fun e W => e = .returned (.tuple #[]) ∧ Lft w m (c.work 42) sl b W := by
  rw [show c.work 42 = c.more 42 from by simp [Cp.work, isCount, isMore]]
  have H := Lib.hid (more_42 hb c sl b ho)
  go_enter Tryz.func74, Tryz.ntmps74
  go_wp2_with (go_at_call 85; refine Calls.mono H.out ?_; rintro e W ⟨rfl, w1, hx1, hb1, rfl⟩)
  all_goals
    (first | go_end0 | refine bodyPost_ret (results_none rfl _ _ _) rfl ?_)
    exact ⟨rfl, Lft.mk' (by first | assumption | exact Base.drew (by assumption) | exact Base.drewN (by assumption) _ | exact Base.alloc (by assumption) _) (by repeat (first | exact Ext.refl _ | assumption | refine Ext.drew' ?_ | refine Ext.drewN' ?_ _ | refine Ext.alloc' ?_ _ | refine Ext.trans ?_ (by assumption)))⟩
set_option maxRecDepth 8000 in
theorem work_43 (ho : c.Ok) : Calls Tryz.prog 74 #[.pointer (some ⟨m.c, 0, none⟩), .int .i64 43] (mk w m c sl b) fun e W => e = .returned (.tuple #[]) ∧ Lft w m (c.work 43) sl b W := by
  rw [show c.work 43 = c.more 43 from by simp [Cp.work, isCount, isMore]]
  have H := Lib.hid (more_43 hb c sl b ho)
  go_enter Tryz.func74, Tryz.ntmps74
  go_wp2_with (go_at_call 85; refine Calls.mono H.out ?_; rintro e W ⟨rfl, w1, hx1, hb1, rfl⟩)
  all_goals
    (first | go_end0 | refine bodyPost_ret (results_none rfl _ _ _) rfl ?_)
    exact ⟨rfl, Lft.mk' (by first | assumption | exact Base.drew (by assumption) | exact Base.drewN (by assumption) _ | exact Base.alloc (by assumption) _) (by repeat (first | exact Ext.refl _ | assumption | refine Ext.drew' ?_ | refine Ext.drewN' ?_ _ | refine Ext.alloc' ?_ _ | refine Ext.trans ?_ (by assumption)))⟩
set_option maxRecDepth 8000 in
theorem work_48 (ho : c.Ok) : Calls Tryz.prog 74 #[.pointer (some ⟨m.c, 0, none⟩), .int .i64 48] (mk w m c sl b) fun e W => e = .returned (.tuple #[]) ∧ Lft w m (c.work 48) sl b W := by
  rw [show c.work 48 = c.more 48 from by simp [Cp.work, isCount, isMore]]
  have H := Lib.hid (more_48 hb c sl b ho)
  go_enter Tryz.func74, Tryz.ntmps74
  go_wp2_with (go_at_call 85; refine Calls.mono H.out ?_; rintro e W ⟨rfl, w1, hx1, hb1, rfl⟩)
  all_goals
    (first | go_end0 | refine bodyPost_ret (results_none rfl _ _ _) rfl ?_)
    exact ⟨rfl, Lft.mk' (by first | assumption | exact Base.drew (by assumption) | exact Base.drewN (by assumption) _ | exact Base.alloc (by assumption) _) (by repeat (first | exact Ext.refl _ | assumption | refine Ext.drew' ?_ | refine Ext.drewN' ?_ _ | refine Ext.alloc' ?_ _ | refine Ext.trans ?_ (by assumption)))⟩
set_option maxRecDepth 8000 in
theorem work_49 (ho : c.Ok) : Calls Tryz.prog 74 #[.pointer (some ⟨m.c, 0, none⟩), .int .i64 49] (mk w m c sl b) fun e W => e = .returned (.tuple #[]) ∧ Lft w m (c.work 49) sl b W := by
  rw [show c.work 49 = c.more 49 from by simp [Cp.work, isCount, isMore]]
  have H := Lib.hid (more_49 hb c sl b ho)
  go_enter Tryz.func74, Tryz.ntmps74
  go_wp2_with (go_at_call 85; refine Calls.mono H.out ?_; rintro e W ⟨rfl, w1, hx1, hb1, rfl⟩)
  all_goals
    (first | go_end0 | refine bodyPost_ret (results_none rfl _ _ _) rfl ?_)
    exact ⟨rfl, Lft.mk' (by first | assumption | exact Base.drew (by assumption) | exact Base.drewN (by assumption) _ | exact Base.alloc (by assumption) _) (by repeat (first | exact Ext.refl _ | assumption | refine Ext.drew' ?_ | refine Ext.drewN' ?_ _ | refine Ext.alloc' ?_ _ | refine Ext.trans ?_ (by assumption)))⟩
set_option maxRecDepth 8000 in
theorem work_52 (ho : c.Ok) : Calls Tryz.prog 74 #[.pointer (some ⟨m.c, 0, none⟩), .int .i64 52] (mk w m c sl b) fun e W => e = .returned (.tuple #[]) ∧ Lft w m (c.work 52) sl b W := by
  rw [show c.work 52 = c.blocks 52 from by simp [Cp.work, isCount, isMore]]
  have H := Lib.hid (more_52 hb c sl b ho)
  go_enter Tryz.func74, Tryz.ntmps74
  go_wp2_with (go_at_call 85; refine Calls.mono H.out ?_; rintro e W ⟨rfl, w1, hx1, hb1, rfl⟩)
  all_goals
    (first | go_end0 | refine bodyPost_ret (results_none rfl _ _ _) rfl ?_)
    exact ⟨rfl, Lft.mk' (by first | assumption | exact Base.drew (by assumption) | exact Base.drewN (by assumption) _ | exact Base.alloc (by assumption) _) (by repeat (first | exact Ext.refl _ | assumption | refine Ext.drew' ?_ | refine Ext.drewN' ?_ _ | refine Ext.alloc' ?_ _ | refine Ext.trans ?_ (by assumption)))⟩
set_option maxRecDepth 8000 in
theorem work_57 (ho : c.Ok) : Calls Tryz.prog 74 #[.pointer (some ⟨m.c, 0, none⟩), .int .i64 57] (mk w m c sl b) fun e W => e = .returned (.tuple #[]) ∧ Lft w m (c.work 57) sl b W := by
  rw [show c.work 57 = c.blocks 57 from by simp [Cp.work, isCount, isMore]]
  have H := Lib.hid (more_57 hb c sl b ho)
  go_enter Tryz.func74, Tryz.ntmps74
  go_wp2_with (go_at_call 85; refine Calls.mono H.out ?_; rintro e W ⟨rfl, w1, hx1, hb1, rfl⟩)
  all_goals
    (first | go_end0 | refine bodyPost_ret (results_none rfl _ _ _) rfl ?_)
    exact ⟨rfl, Lft.mk' (by first | assumption | exact Base.drew (by assumption) | exact Base.drewN (by assumption) _ | exact Base.alloc (by assumption) _) (by repeat (first | exact Ext.refl _ | assumption | refine Ext.drew' ?_ | refine Ext.drewN' ?_ _ | refine Ext.alloc' ?_ _ | refine Ext.trans ?_ (by assumption)))⟩
theorem cwork_nat (ho : c.Ok) : ∀ n : Nat, okWork n = true → Calls Tryz.prog 74 #[.pointer (some ⟨m.c, 0, none⟩), .int .i64 (n : Int)] (mk w m c sl b) fun e W => e = .returned (.tuple #[]) ∧ Lft w m (c.work n) sl b W
  | 0, hk => work_0 hb c sl b ho
  | 1, hk => work_1 hb c sl b ho
  | 2, hk => work_2 hb c sl b ho
  | 3, hk => work_3 hb c sl b ho
  | 4, hk => work_4 hb c sl b ho
  | 5, hk => work_5 hb c sl b ho
  | 6, hk => work_6 hb c sl b ho
  | 7, hk => work_7 hb c sl b ho
  | 8, hk => work_8 hb c sl b ho
  | 9, hk => work_9 hb c sl b ho
  | 10, hk => work_10 hb c sl b ho
  | 11, hk => work_11 hb c sl b ho
  | 12, hk => work_12 hb c sl b ho
  | 13, hk => work_13 hb c sl b ho
  | 14, hk => work_14 hb c sl b ho
  | 15, hk => work_15 hb c sl b ho
  | 16, hk => work_16 hb c sl b ho
  | 17, hk => work_17 hb c sl b ho
  | 18, hk => work_18 hb c sl b ho
  | 19, hk => work_19 hb c sl b ho
  | 20, hk => work_20 hb c sl b ho
  | 21, hk => work_21 hb c sl b ho
  | 22, hk => work_22 hb c sl b ho
  | 23, hk => work_23 hb c sl b ho
  | 24, hk => work_24 hb c sl b ho
  | 25, hk => work_25 hb c sl b ho
  | 26, hk => work_26 hb c sl b ho
  | 27, hk => work_27 hb c sl b ho
  | 28, hk => work_28 hb c sl b ho
  | 29, hk => work_29 hb c sl b ho
  | 30, hk => work_30 hb c sl b ho
  | 31, hk => work_31 hb c sl b ho
  | 32, hk => work_32 hb c sl b ho
  | 33, hk => work_33 hb c sl b ho
  | 34, hk => work_34 hb c sl b ho
  | 35, hk => work_35 hb c sl b ho
  | 36, hk => work_36 hb c sl b ho
  | 37, hk => work_37 hb c sl b ho
  | 38, hk => work_38 hb c sl b ho
  | 39, hk => absurd hk (by decide)
  | 40, hk => absurd hk (by decide)
  | 41, hk => work_41 hb c sl b ho
  | 42, hk => work_42 hb c sl b ho
  | 43, hk => work_43 hb c sl b ho
  | 44, hk => absurd hk (by decide)
  | 45, hk => absurd hk (by decide)
  | 46, hk => absurd hk (by decide)
  | 47, hk => absurd hk (by decide)
  | 48, hk => work_48 hb c sl b ho
  | 49, hk => work_49 hb c sl b ho
  | 50, hk => absurd hk (by decide)
  | 51, hk => absurd hk (by decide)
  | 52, hk => work_52 hb c sl b ho
  | 53, hk => absurd hk (by decide)
  | 54, hk => absurd hk (by decide)
  | 55, hk => absurd hk (by decide)
  | 56, hk => absurd hk (by decide)
  | 57, hk => work_57 hb c sl b ho
  | n + 58, hk => absurd hk (by unfold okWork; simp; omega)
theorem cwork_any (ho : c.Ok) (k : Int) (hk : okWork k = true) : Calls Tryz.prog 74 #[.pointer (some ⟨m.c, 0, none⟩), .int .i64 k] (mk w m c sl b) fun e W => e = .returned (.tuple #[]) ∧ Lft w m (c.work k) sl b W := by
  have h0 : 0 ≤ k := by
    unfold okWork at hk
    simp only [Bool.or_eq_true, Bool.and_eq_true, decide_eq_true_eq, beq_iff_eq] at hk
    omega
  obtain ⟨n, rfl⟩ : ∃ n : Nat, k = n := ⟨k.toNat, by omega⟩
  exact cwork_nat hb c sl b ho n hk
end
end Go.Proofs.YtneganpbamemmaaGreat
