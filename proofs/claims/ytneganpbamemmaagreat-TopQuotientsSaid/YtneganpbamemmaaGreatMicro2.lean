/- Package micro: the steps of each code: the parts. -/
import Derived.Test.YtneganpbamemmaaGreatMicro
set_option linter.unusedVariables false
set_option linter.unusedSimpArgs false
set_option linter.unusedSectionVars false
namespace Go.Proofs.YtneganpbamemmaaGreat
open Go Go.RowKit Sq

theorem code_bd {k : Int} (h0 : 0 ≤ k) (h1 : k < 256) : (0 ≤ cy k ∧ cy k < 8) ∧ (0 ≤ cz k ∧ cz k < 8) ∧ (0 ≤ cx k ∧ cx k < 4) ∧ (0 ≤ cq k ∧ cq k < 2) ∧ (0 ≤ cp k ∧ cp k < 4) := by
  unfold cy cz cx cq cp; omega
theorem mPlace_le (ix : Int) : (mPlace ix).length ≤ 3 := by unfold mPlace; split <;> simp
theorem ret_sl {a : Option Addr} {n n' c : Nat} (h : n = n') : Ending.returned (.slice a n c) = .returned (.slice a n' c) := by rw [h]
def ofVals : List Value → List Stp
  | .int _ a :: .int _ b :: .int _ c :: .int _ d :: r => ⟨a, b, c, d⟩ :: ofVals r
  | _ => []
theorem app_app3 (sl : Nat → Int) (n : Nat) (x y z : List Stp) : app (app (app sl n x) (n + x.length) y) (n + x.length + y.length) z = app sl n (x ++ y ++ z) := by
  rw [app_app sl n x y, show n + x.length + y.length = n + (x ++ y).length from by rw [List.length_append, Nat.add_assoc], app_app]
theorem fin {m : Mac} {w w1 : World} {c : Cp} {sl sl' : Nat → Int} {b : Bd} {n : Nat} {l : List Stp} (hb : Base m w1) (hx : Ext w w1) (h : sl' = app sl n l) : Lft w m c (app sl n l) b (mk w1 m c sl' b) := by
  rw [h]; exact Lft.mk' hb hx
theorem more_v1 {m : Mac} {w : World} (hb : Base m w) (hts : m.ts = 115) (c : Cp) (sl : Nat → Int) (b : Bd) (n k : Nat) (arr : Array Value) (t : TypeId) (ha : arr = ((flat (ofVals arr.toList)).map (Value.int .i64)).toArray) (hl : (ofVals arr.toList).length = k) (hr : n + k ≤ 16) :
    Calls Tryz.prog 152 #[.slice (some ⟨m.s, 0, none⟩) n 16, .slice (some ⟨w.heap.size, 0, none⟩) k k] ((mk w m c sl b).alloc (.cells arr t)) fun e W => e = .returned (.slice (some ⟨m.s, 0, none⟩) (n + k) 16) ∧ Lft w m c (app sl n (ofVals arr.toList)) b W :=
  more_new hts c sl b (Lft.same hb) n k _ _ arr t (by rw [mk_size]) ha hl hr
theorem read_ov {m : Mac} {w : World} (hb : Base m w) (c : Cp) (sl : Nat → Int) (b : Bd) (p x : Int) : Calls Tryz.prog 159 #[.int .i64 p, .int .i64 x] (mk w m c sl b) fun e W => e = .returned (.agg #[.int .i64 1, .int .i64 p, .int .i64 x, .int .i64 3]) ∧ Lft w m c sl b W := by
  refine (read_any _ _ _ ).mono ?_
  rintro e W ⟨rfl, rfl⟩
  exact ⟨rfl, Lft.alloc (Lft.same hb) _⟩
theorem write_ov {m : Mac} {w : World} (hb : Base m w) (c : Cp) (sl : Nat → Int) (b : Bd) (p x : Int) : Calls Tryz.prog 160 #[.int .i64 p, .int .i64 x] (mk w m c sl b) fun e W => e = .returned (.agg #[.int .i64 2, .int .i64 p, .int .i64 x, .int .i64 3]) ∧ Lft w m c sl b W := by
  refine (write_any _ _ _ ).mono ?_
  rintro e W ⟨rfl, rfl⟩
  exact ⟨rfl, Lft.alloc (Lft.same hb) _⟩
theorem wait_ov {m : Mac} {w : World} (hb : Base m w) (c : Cp) (sl : Nat → Int) (b : Bd) (n p : Int) : Calls Tryz.prog 155 #[.int .i64 n, .int .i64 p] (mk w m c sl b) fun e W => e = .returned (.agg #[.int .i64 0, .int .i64 p, .int .i64 0, .int .i64 n]) ∧ Lft w m c sl b W := by
  refine (wait_any _ _ _ ).mono ?_
  rintro e W ⟨rfl, rfl⟩
  exact ⟨rfl, Lft.alloc (Lft.same hb) _⟩
theorem work_ov {m : Mac} {w : World} (hb : Base m w) (c : Cp) (sl : Nat → Int) (b : Bd) (x : Int) : Calls Tryz.prog 154 #[.int .i64 x] (mk w m c sl b) fun e W => e = .returned (.agg #[.int .i64 5, .int .i64 0, .int .i64 x, .int .i64 0]) ∧ Lft w m c sl b W := by
  refine (work_any _ _ ).mono ?_
  rintro e W ⟨rfl, rfl⟩
  exact ⟨rfl, Lft.alloc (Lft.same hb) _⟩
theorem unless_ov {m : Mac} {w : World} (hb : Base m w) (c : Cp) (sl : Nat → Int) (b : Bd) (x : Int) : Calls Tryz.prog 161 #[.int .i64 x] (mk w m c sl b) fun e W => e = .returned (.agg #[.int .i64 6, .int .i64 0, .int .i64 x, .int .i64 0]) ∧ Lft w m c sl b W := by
  refine (unless_any _ _ ).mono ?_
  rintro e W ⟨rfl, rfl⟩
  exact ⟨rfl, Lft.alloc (Lft.same hb) _⟩
theorem place_any {m : Mac} {w : World} (hb : Base m w) (hts : m.ts = 115) (c : Cp) (sl : Nat → Int) (b : Bd) (n : Nat) (ix : Int) (h0 : 0 ≤ ix) (h1 : ix ≤ 2) (hr : n + 3 ≤ 16) : Calls Tryz.prog 158 #[.slice (some ⟨m.s, 0, none⟩) n 16, .int .i64 ix] (mk w m c sl b) fun e W => e = .returned (.slice (some ⟨m.s, 0, none⟩) (n + (mPlace ix).length) 16) ∧ Lft w m c (app sl n (mPlace ix)) b W := by
  have H := Lib.hid hts
  clear hts
  rcases (by omega : ix = 0 ∨ ix = 1 ∨ ix = 2) with rfl | rfl | rfl
  · go_enter Tryz.func158, Tryz.ntmps158
    go_wp2
    go_ret
    rw [show mPlace 0 = [] from rfl, app_nil]
    exact ⟨rfl, Lft.same hb⟩
  all_goals
    rw [show mPlace _ = [sRead 0 0, sWait 5 9, sWork 18] from rfl]
    go_enter Tryz.func158, Tryz.ntmps158
    go_wp2_with (first | (go_at_call 159; refine Calls.mono (read_ov (by assumption) _ _ _ _ _) ?_; rintro e W ⟨rfl, w1, hx1, hb1, rfl⟩) | (go_at_call 155; refine Calls.mono (wait_ov (by assumption) _ _ _ _ _) ?_; rintro e W ⟨rfl, w1, hx1, hb1, rfl⟩) | (go_at_call 154; refine Calls.mono (work_ov (by assumption) _ _ _ _) ?_; rintro e W ⟨rfl, w1, hx1, hb1, rfl⟩) | (go_at_call 152; refine Calls.mono (more_v1 (by assumption) H.out _ _ _ _ _ _ _ ?_ ?_ ?_) ?_; (· rfl); (· rfl); (· omega); rintro e W ⟨rfl, w1, hx1, hb1, rfl⟩))
    go_ret
    exact ⟨ret_sl (by first | rfl | (simp only [List.length_append, List.length_cons, List.length_nil]; omega)), fin (by assumption) (by repeat (first | exact Ext.refl _ | assumption | refine Ext.trans ?_ (by assumption))) (by first | rfl | exact (app_nil _ _).symm | exact app_app _ _ _ _ | exact app_app3 _ _ _ _ _)⟩
theorem word_any {m : Mac} {w : World} (hb : Base m w) (hts : m.ts = 115) (c : Cp) (sl : Nat → Int) (b : Bd) (n : Nat) (hr : n + 2 ≤ 16) : Calls Tryz.prog 153 #[.slice (some ⟨m.s, 0, none⟩) n 16] (mk w m c sl b) fun e W => e = .returned (.slice (some ⟨m.s, 0, none⟩) (n + 2) 16) ∧ Lft w m c (app sl n mWord) b W := by
  have H := Lib.hid hts
  clear hts
  go_enter Tryz.func153, Tryz.ntmps153
  go_wp2_with (first | (go_at_call 159; refine Calls.mono (read_ov (by assumption) _ _ _ _ _) ?_; rintro e W ⟨rfl, w1, hx1, hb1, rfl⟩) | (go_at_call 152; refine Calls.mono (more_v1 (by assumption) H.out _ _ _ _ _ _ _ ?_ ?_ ?_) ?_; (· rfl); (· rfl); (· omega); rintro e W ⟨rfl, w1, hx1, hb1, rfl⟩))
  go_ret
  exact ⟨ret_sl (by first | rfl | (simp only [List.length_append, List.length_cons, List.length_nil]; omega)), fin (by assumption) (by repeat (first | exact Ext.refl _ | assumption | refine Ext.trans ?_ (by assumption))) (by first | rfl | exact (app_nil _ _).symm | exact app_app _ _ _ _ | exact app_app3 _ _ _ _ _)⟩
theorem call_any {m : Mac} {w : World} (hb : Base m w) (hts : m.ts = 115) (c : Cp) (sl : Nat → Int) (b : Bd) (n : Nat) (hr : n + 4 ≤ 16) : Calls Tryz.prog 164 #[.slice (some ⟨m.s, 0, none⟩) n 16] (mk w m c sl b) fun e W => e = .returned (.slice (some ⟨m.s, 0, none⟩) (n + 4) 16) ∧ Lft w m c (app sl n mCall) b W := by
  have H := Lib.hid hts
  clear hts
  go_enter Tryz.func164, Tryz.ntmps164
  go_wp2_with (first | (go_at_call 155; refine Calls.mono (wait_ov (by assumption) _ _ _ _ _) ?_; rintro e W ⟨rfl, w1, hx1, hb1, rfl⟩) | (go_at_call 160; refine Calls.mono (write_ov (by assumption) _ _ _ _ _) ?_; rintro e W ⟨rfl, w1, hx1, hb1, rfl⟩) | (go_at_call 154; refine Calls.mono (work_ov (by assumption) _ _ _ _) ?_; rintro e W ⟨rfl, w1, hx1, hb1, rfl⟩) | (go_at_call 152; refine Calls.mono (more_v1 (by assumption) H.out _ _ _ _ _ _ _ ?_ ?_ ?_) ?_; (· rfl); (· rfl); (· omega); rintro e W ⟨rfl, w1, hx1, hb1, rfl⟩))
  go_ret
  exact ⟨ret_sl (by first | rfl | (simp only [List.length_append, List.length_cons, List.length_nil]; omega)), fin (by assumption) (by repeat (first | exact Ext.refl _ | assumption | refine Ext.trans ?_ (by assumption))) (by first | rfl | exact (app_nil _ _).symm | exact app_app _ _ _ _ | exact app_app3 _ _ _ _ _)⟩
def mJumps_Said (m : Mac) (w : World) (c : Cp) (sl : Nat → Int) (b : Bd) (n : Nat) (k : Int) : Prop := Calls Tryz.prog 150 #[.slice (some ⟨m.s, 0, none⟩) n 16, .int .u8 k] (mk w m c sl b) fun e W => e = .returned (.slice (some ⟨m.s, 0, none⟩) (n + (mJumps k).length) 16) ∧ Lft w m c (app sl n (mJumps k)) b W
set_option maxHeartbeats 1000000 in
theorem mJumps_0 {m : Mac} {w : World} (hb : Base m w) (hts : m.ts = 115) (c : Cp) (sl : Nat → Int) (b : Bd) (n : Nat) (k : Int) (hc0 : 0 ≤ k) (hc1 : k < 256) (hr : n ≤ 4) (hd0 : cy k = 0) : mJumps_Said m w c sl b n k := by
  unfold mJumps_Said
  have H := Lib.hid hts
  clear hts
  obtain ⟨⟨hy0, hy1⟩, ⟨hz0, hz1⟩, ⟨hx0, hx3⟩, ⟨hq0, hq1⟩, ⟨hp0, hp1⟩⟩ := code_bd hc0 hc1
  obtain ⟨l, hm⟩ : ∃ l, mJumps k = l := ⟨_, rfl⟩
  have HL := Lib.hid hm
  simp [mJumps, *] at hm
  subst hm
  go_enter Tryz.func150, Tryz.ntmps150
  go_wp2_with (first | (go_at_call 159; refine Calls.mono (read_ov (by assumption) _ _ _ _ _) ?_; rintro e W ⟨rfl, w1, hx1, hb1, rfl⟩) | (go_at_call 155; refine Calls.mono (wait_ov (by assumption) _ _ _ _ _) ?_; rintro e W ⟨rfl, w1, hx1, hb1, rfl⟩) | (go_at_call 154; refine Calls.mono (work_ov (by assumption) _ _ _ _) ?_; rintro e W ⟨rfl, w1, hx1, hb1, rfl⟩) | (go_at_call 161; refine Calls.mono (unless_ov (by assumption) _ _ _ _) ?_; rintro e W ⟨rfl, w1, hx1, hb1, rfl⟩) | (go_at_call 152; refine Calls.mono (more_v1 (by assumption) H.out _ _ _ _ _ _ _ ?_ ?_ ?_) ?_; (· rfl); (· rfl); (· omega); rintro e W ⟨rfl, w1, hx1, hb1, rfl⟩) | (go_at_call 157; refine (my_any _ _ hc0 hc1).mono ?_; rintro e W ⟨rfl, rfl⟩))
  rw [HL.out]
  go_ret
  exact ⟨ret_sl (by first | rfl | (simp only [List.length_append, List.length_cons, List.length_nil]; omega)), fin (by assumption) (by repeat (first | exact Ext.refl _ | assumption | refine Ext.trans ?_ (by assumption))) (by first | rfl | exact (app_nil _ _).symm | exact app_app _ _ _ _ | exact app_app3 _ _ _ _ _)⟩
set_option maxHeartbeats 1000000 in
theorem mJumps_1 {m : Mac} {w : World} (hb : Base m w) (hts : m.ts = 115) (c : Cp) (sl : Nat → Int) (b : Bd) (n : Nat) (k : Int) (hc0 : 0 ≤ k) (hc1 : k < 256) (hr : n ≤ 4) (hd0 : cy k = 1) : mJumps_Said m w c sl b n k := by
  unfold mJumps_Said
  have H := Lib.hid hts
  clear hts
  obtain ⟨⟨hy0, hy1⟩, ⟨hz0, hz1⟩, ⟨hx0, hx3⟩, ⟨hq0, hq1⟩, ⟨hp0, hp1⟩⟩ := code_bd hc0 hc1
  obtain ⟨l, hm⟩ : ∃ l, mJumps k = l := ⟨_, rfl⟩
  have HL := Lib.hid hm
  simp [mJumps, *] at hm
  subst hm
  go_enter Tryz.func150, Tryz.ntmps150
  go_wp2_with (first | (go_at_call 159; refine Calls.mono (read_ov (by assumption) _ _ _ _ _) ?_; rintro e W ⟨rfl, w1, hx1, hb1, rfl⟩) | (go_at_call 155; refine Calls.mono (wait_ov (by assumption) _ _ _ _ _) ?_; rintro e W ⟨rfl, w1, hx1, hb1, rfl⟩) | (go_at_call 154; refine Calls.mono (work_ov (by assumption) _ _ _ _) ?_; rintro e W ⟨rfl, w1, hx1, hb1, rfl⟩) | (go_at_call 161; refine Calls.mono (unless_ov (by assumption) _ _ _ _) ?_; rintro e W ⟨rfl, w1, hx1, hb1, rfl⟩) | (go_at_call 152; refine Calls.mono (more_v1 (by assumption) H.out _ _ _ _ _ _ _ ?_ ?_ ?_) ?_; (· rfl); (· rfl); (· omega); rintro e W ⟨rfl, w1, hx1, hb1, rfl⟩) | (go_at_call 157; refine (my_any _ _ hc0 hc1).mono ?_; rintro e W ⟨rfl, rfl⟩))
  rw [HL.out]
  go_ret
  exact ⟨ret_sl (by first | rfl | (simp only [List.length_append, List.length_cons, List.length_nil]; omega)), fin (by assumption) (by repeat (first | exact Ext.refl _ | assumption | refine Ext.trans ?_ (by assumption))) (by first | rfl | exact (app_nil _ _).symm | exact app_app _ _ _ _ | exact app_app3 _ _ _ _ _)⟩
set_option maxHeartbeats 1000000 in
theorem mJumps_2 {m : Mac} {w : World} (hb : Base m w) (hts : m.ts = 115) (c : Cp) (sl : Nat → Int) (b : Bd) (n : Nat) (k : Int) (hc0 : 0 ≤ k) (hc1 : k < 256) (hr : n ≤ 4) (hd0 : cy k = 2) : mJumps_Said m w c sl b n k := by
  unfold mJumps_Said
  have H := Lib.hid hts
  clear hts
  obtain ⟨⟨hy0, hy1⟩, ⟨hz0, hz1⟩, ⟨hx0, hx3⟩, ⟨hq0, hq1⟩, ⟨hp0, hp1⟩⟩ := code_bd hc0 hc1
  obtain ⟨l, hm⟩ : ∃ l, mJumps k = l := ⟨_, rfl⟩
  have HL := Lib.hid hm
  simp [mJumps, *] at hm
  subst hm
  go_enter Tryz.func150, Tryz.ntmps150
  go_wp2_with (first | (go_at_call 159; refine Calls.mono (read_ov (by assumption) _ _ _ _ _) ?_; rintro e W ⟨rfl, w1, hx1, hb1, rfl⟩) | (go_at_call 155; refine Calls.mono (wait_ov (by assumption) _ _ _ _ _) ?_; rintro e W ⟨rfl, w1, hx1, hb1, rfl⟩) | (go_at_call 154; refine Calls.mono (work_ov (by assumption) _ _ _ _) ?_; rintro e W ⟨rfl, w1, hx1, hb1, rfl⟩) | (go_at_call 161; refine Calls.mono (unless_ov (by assumption) _ _ _ _) ?_; rintro e W ⟨rfl, w1, hx1, hb1, rfl⟩) | (go_at_call 152; refine Calls.mono (more_v1 (by assumption) H.out _ _ _ _ _ _ _ ?_ ?_ ?_) ?_; (· rfl); (· rfl); (· omega); rintro e W ⟨rfl, w1, hx1, hb1, rfl⟩) | (go_at_call 157; refine (my_any _ _ hc0 hc1).mono ?_; rintro e W ⟨rfl, rfl⟩))
  rw [HL.out]
  go_ret
  exact ⟨ret_sl (by first | rfl | (simp only [List.length_append, List.length_cons, List.length_nil]; omega)), fin (by assumption) (by repeat (first | exact Ext.refl _ | assumption | refine Ext.trans ?_ (by assumption))) (by first | rfl | exact (app_nil _ _).symm | exact app_app _ _ _ _ | exact app_app3 _ _ _ _ _)⟩
set_option maxHeartbeats 1000000 in
theorem mJumps_3 {m : Mac} {w : World} (hb : Base m w) (hts : m.ts = 115) (c : Cp) (sl : Nat → Int) (b : Bd) (n : Nat) (k : Int) (hc0 : 0 ≤ k) (hc1 : k < 256) (hr : n ≤ 4) (hd0 : cy k = 3) : mJumps_Said m w c sl b n k := by
  unfold mJumps_Said
  have H := Lib.hid hts
  clear hts
  obtain ⟨⟨hy0, hy1⟩, ⟨hz0, hz1⟩, ⟨hx0, hx3⟩, ⟨hq0, hq1⟩, ⟨hp0, hp1⟩⟩ := code_bd hc0 hc1
  obtain ⟨l, hm⟩ : ∃ l, mJumps k = l := ⟨_, rfl⟩
  have HL := Lib.hid hm
  simp [mJumps, *] at hm
  subst hm
  go_enter Tryz.func150, Tryz.ntmps150
  go_wp2_with (first | (go_at_call 159; refine Calls.mono (read_ov (by assumption) _ _ _ _ _) ?_; rintro e W ⟨rfl, w1, hx1, hb1, rfl⟩) | (go_at_call 155; refine Calls.mono (wait_ov (by assumption) _ _ _ _ _) ?_; rintro e W ⟨rfl, w1, hx1, hb1, rfl⟩) | (go_at_call 154; refine Calls.mono (work_ov (by assumption) _ _ _ _) ?_; rintro e W ⟨rfl, w1, hx1, hb1, rfl⟩) | (go_at_call 161; refine Calls.mono (unless_ov (by assumption) _ _ _ _) ?_; rintro e W ⟨rfl, w1, hx1, hb1, rfl⟩) | (go_at_call 152; refine Calls.mono (more_v1 (by assumption) H.out _ _ _ _ _ _ _ ?_ ?_ ?_) ?_; (· rfl); (· rfl); (· omega); rintro e W ⟨rfl, w1, hx1, hb1, rfl⟩) | (go_at_call 157; refine (my_any _ _ hc0 hc1).mono ?_; rintro e W ⟨rfl, rfl⟩))
  rw [HL.out]
  go_ret
  exact ⟨ret_sl (by first | rfl | (simp only [List.length_append, List.length_cons, List.length_nil]; omega)), fin (by assumption) (by repeat (first | exact Ext.refl _ | assumption | refine Ext.trans ?_ (by assumption))) (by first | rfl | exact (app_nil _ _).symm | exact app_app _ _ _ _ | exact app_app3 _ _ _ _ _)⟩
set_option maxHeartbeats 1000000 in
theorem mJumps_4 {m : Mac} {w : World} (hb : Base m w) (hts : m.ts = 115) (c : Cp) (sl : Nat → Int) (b : Bd) (n : Nat) (k : Int) (hc0 : 0 ≤ k) (hc1 : k < 256) (hr : n ≤ 4) (hd0 : cy k = 4) : mJumps_Said m w c sl b n k := by
  unfold mJumps_Said
  have H := Lib.hid hts
  clear hts
  obtain ⟨⟨hy0, hy1⟩, ⟨hz0, hz1⟩, ⟨hx0, hx3⟩, ⟨hq0, hq1⟩, ⟨hp0, hp1⟩⟩ := code_bd hc0 hc1
  obtain ⟨l, hm⟩ : ∃ l, mJumps k = l := ⟨_, rfl⟩
  have HL := Lib.hid hm
  simp [mJumps, *] at hm
  subst hm
  go_enter Tryz.func150, Tryz.ntmps150
  go_wp2_with (first | (go_at_call 159; refine Calls.mono (read_ov (by assumption) _ _ _ _ _) ?_; rintro e W ⟨rfl, w1, hx1, hb1, rfl⟩) | (go_at_call 155; refine Calls.mono (wait_ov (by assumption) _ _ _ _ _) ?_; rintro e W ⟨rfl, w1, hx1, hb1, rfl⟩) | (go_at_call 154; refine Calls.mono (work_ov (by assumption) _ _ _ _) ?_; rintro e W ⟨rfl, w1, hx1, hb1, rfl⟩) | (go_at_call 161; refine Calls.mono (unless_ov (by assumption) _ _ _ _) ?_; rintro e W ⟨rfl, w1, hx1, hb1, rfl⟩) | (go_at_call 152; refine Calls.mono (more_v1 (by assumption) H.out _ _ _ _ _ _ _ ?_ ?_ ?_) ?_; (· rfl); (· rfl); (· omega); rintro e W ⟨rfl, w1, hx1, hb1, rfl⟩) | (go_at_call 157; refine (my_any _ _ hc0 hc1).mono ?_; rintro e W ⟨rfl, rfl⟩))
  rw [HL.out]
  go_ret
  exact ⟨ret_sl (by first | rfl | (simp only [List.length_append, List.length_cons, List.length_nil]; omega)), fin (by assumption) (by repeat (first | exact Ext.refl _ | assumption | refine Ext.trans ?_ (by assumption))) (by first | rfl | exact (app_nil _ _).symm | exact app_app _ _ _ _ | exact app_app3 _ _ _ _ _)⟩
set_option maxHeartbeats 1000000 in
theorem mJumps_5 {m : Mac} {w : World} (hb : Base m w) (hts : m.ts = 115) (c : Cp) (sl : Nat → Int) (b : Bd) (n : Nat) (k : Int) (hc0 : 0 ≤ k) (hc1 : k < 256) (hr : n ≤ 4) (hd0 : cy k = 5) : mJumps_Said m w c sl b n k := by
  unfold mJumps_Said
  have H := Lib.hid hts
  clear hts
  obtain ⟨⟨hy0, hy1⟩, ⟨hz0, hz1⟩, ⟨hx0, hx3⟩, ⟨hq0, hq1⟩, ⟨hp0, hp1⟩⟩ := code_bd hc0 hc1
  obtain ⟨l, hm⟩ : ∃ l, mJumps k = l := ⟨_, rfl⟩
  have HL := Lib.hid hm
  simp [mJumps, *] at hm
  subst hm
  go_enter Tryz.func150, Tryz.ntmps150
  go_wp2_with (first | (go_at_call 159; refine Calls.mono (read_ov (by assumption) _ _ _ _ _) ?_; rintro e W ⟨rfl, w1, hx1, hb1, rfl⟩) | (go_at_call 155; refine Calls.mono (wait_ov (by assumption) _ _ _ _ _) ?_; rintro e W ⟨rfl, w1, hx1, hb1, rfl⟩) | (go_at_call 154; refine Calls.mono (work_ov (by assumption) _ _ _ _) ?_; rintro e W ⟨rfl, w1, hx1, hb1, rfl⟩) | (go_at_call 161; refine Calls.mono (unless_ov (by assumption) _ _ _ _) ?_; rintro e W ⟨rfl, w1, hx1, hb1, rfl⟩) | (go_at_call 152; refine Calls.mono (more_v1 (by assumption) H.out _ _ _ _ _ _ _ ?_ ?_ ?_) ?_; (· rfl); (· rfl); (· omega); rintro e W ⟨rfl, w1, hx1, hb1, rfl⟩) | (go_at_call 157; refine (my_any _ _ hc0 hc1).mono ?_; rintro e W ⟨rfl, rfl⟩))
  rw [HL.out]
  go_ret
  exact ⟨ret_sl (by first | rfl | (simp only [List.length_append, List.length_cons, List.length_nil]; omega)), fin (by assumption) (by repeat (first | exact Ext.refl _ | assumption | refine Ext.trans ?_ (by assumption))) (by first | rfl | exact (app_nil _ _).symm | exact app_app _ _ _ _ | exact app_app3 _ _ _ _ _)⟩
set_option maxHeartbeats 1000000 in
theorem mJumps_6 {m : Mac} {w : World} (hb : Base m w) (hts : m.ts = 115) (c : Cp) (sl : Nat → Int) (b : Bd) (n : Nat) (k : Int) (hc0 : 0 ≤ k) (hc1 : k < 256) (hr : n ≤ 4) (hd0 : cy k = 6) : mJumps_Said m w c sl b n k := by
  unfold mJumps_Said
  have H := Lib.hid hts
  clear hts
  obtain ⟨⟨hy0, hy1⟩, ⟨hz0, hz1⟩, ⟨hx0, hx3⟩, ⟨hq0, hq1⟩, ⟨hp0, hp1⟩⟩ := code_bd hc0 hc1
  obtain ⟨l, hm⟩ : ∃ l, mJumps k = l := ⟨_, rfl⟩
  have HL := Lib.hid hm
  simp [mJumps, *] at hm
  subst hm
  go_enter Tryz.func150, Tryz.ntmps150
  go_wp2_with (first | (go_at_call 159; refine Calls.mono (read_ov (by assumption) _ _ _ _ _) ?_; rintro e W ⟨rfl, w1, hx1, hb1, rfl⟩) | (go_at_call 155; refine Calls.mono (wait_ov (by assumption) _ _ _ _ _) ?_; rintro e W ⟨rfl, w1, hx1, hb1, rfl⟩) | (go_at_call 154; refine Calls.mono (work_ov (by assumption) _ _ _ _) ?_; rintro e W ⟨rfl, w1, hx1, hb1, rfl⟩) | (go_at_call 161; refine Calls.mono (unless_ov (by assumption) _ _ _ _) ?_; rintro e W ⟨rfl, w1, hx1, hb1, rfl⟩) | (go_at_call 152; refine Calls.mono (more_v1 (by assumption) H.out _ _ _ _ _ _ _ ?_ ?_ ?_) ?_; (· rfl); (· rfl); (· omega); rintro e W ⟨rfl, w1, hx1, hb1, rfl⟩) | (go_at_call 157; refine (my_any _ _ hc0 hc1).mono ?_; rintro e W ⟨rfl, rfl⟩))
  rw [HL.out]
  go_ret
  exact ⟨ret_sl (by first | rfl | (simp only [List.length_append, List.length_cons, List.length_nil]; omega)), fin (by assumption) (by repeat (first | exact Ext.refl _ | assumption | refine Ext.trans ?_ (by assumption))) (by first | rfl | exact (app_nil _ _).symm | exact app_app _ _ _ _ | exact app_app3 _ _ _ _ _)⟩
set_option maxHeartbeats 1000000 in
theorem mJumps_7 {m : Mac} {w : World} (hb : Base m w) (hts : m.ts = 115) (c : Cp) (sl : Nat → Int) (b : Bd) (n : Nat) (k : Int) (hc0 : 0 ≤ k) (hc1 : k < 256) (hr : n ≤ 4) (hd0 : cy k = 7) : mJumps_Said m w c sl b n k := by
  unfold mJumps_Said
  have H := Lib.hid hts
  clear hts
  obtain ⟨⟨hy0, hy1⟩, ⟨hz0, hz1⟩, ⟨hx0, hx3⟩, ⟨hq0, hq1⟩, ⟨hp0, hp1⟩⟩ := code_bd hc0 hc1
  obtain ⟨l, hm⟩ : ∃ l, mJumps k = l := ⟨_, rfl⟩
  have HL := Lib.hid hm
  simp [mJumps, *] at hm
  subst hm
  go_enter Tryz.func150, Tryz.ntmps150
  go_wp2_with (first | (go_at_call 159; refine Calls.mono (read_ov (by assumption) _ _ _ _ _) ?_; rintro e W ⟨rfl, w1, hx1, hb1, rfl⟩) | (go_at_call 155; refine Calls.mono (wait_ov (by assumption) _ _ _ _ _) ?_; rintro e W ⟨rfl, w1, hx1, hb1, rfl⟩) | (go_at_call 154; refine Calls.mono (work_ov (by assumption) _ _ _ _) ?_; rintro e W ⟨rfl, w1, hx1, hb1, rfl⟩) | (go_at_call 161; refine Calls.mono (unless_ov (by assumption) _ _ _ _) ?_; rintro e W ⟨rfl, w1, hx1, hb1, rfl⟩) | (go_at_call 152; refine Calls.mono (more_v1 (by assumption) H.out _ _ _ _ _ _ _ ?_ ?_ ?_) ?_; (· rfl); (· rfl); (· omega); rintro e W ⟨rfl, w1, hx1, hb1, rfl⟩) | (go_at_call 157; refine (my_any _ _ hc0 hc1).mono ?_; rintro e W ⟨rfl, rfl⟩))
  rw [HL.out]
  go_ret
  exact ⟨ret_sl (by first | rfl | (simp only [List.length_append, List.length_cons, List.length_nil]; omega)), fin (by assumption) (by repeat (first | exact Ext.refl _ | assumption | refine Ext.trans ?_ (by assumption))) (by first | rfl | exact (app_nil _ _).symm | exact app_app _ _ _ _ | exact app_app3 _ _ _ _ _)⟩
set_option maxHeartbeats 8000000 in
theorem mJumps_any {m : Mac} {w : World} (hb : Base m w) (hts : m.ts = 115) (c : Cp) (sl : Nat → Int) (b : Bd) (n : Nat) (k : Int) (hc0 : 0 ≤ k) (hc1 : k < 256) (hr : n ≤ 4) : Calls Tryz.prog 150 #[.slice (some ⟨m.s, 0, none⟩) n 16, .int .u8 k] (mk w m c sl b) fun e W => e = .returned (.slice (some ⟨m.s, 0, none⟩) (n + (mJumps k).length) 16) ∧ Lft w m c (app sl n (mJumps k)) b W := by
  obtain ⟨⟨hy0, hy1⟩, ⟨hz0, hz1⟩, ⟨hx0, hx3⟩, ⟨hq0, hq1⟩, ⟨hp0, hp1⟩⟩ := code_bd hc0 hc1
  rcases (by omega : cy k = 0 ∨ cy k = 1 ∨ cy k = 2 ∨ cy k = 3 ∨ cy k = 4 ∨ cy k = 5 ∨ cy k = 6 ∨ cy k = 7) with hd | hd | hd | hd | hd | hd | hd | hd
  · exact mJumps_0 hb hts c sl b n k hc0 hc1 hr (by first | assumption | omega)
  · exact mJumps_1 hb hts c sl b n k hc0 hc1 hr (by first | assumption | omega)
  · exact mJumps_2 hb hts c sl b n k hc0 hc1 hr (by first | assumption | omega)
  · exact mJumps_3 hb hts c sl b n k hc0 hc1 hr (by first | assumption | omega)
  · exact mJumps_4 hb hts c sl b n k hc0 hc1 hr (by first | assumption | omega)
  · exact mJumps_5 hb hts c sl b n k hc0 hc1 hr (by first | assumption | omega)
  · exact mJumps_6 hb hts c sl b n k hc0 hc1 hr (by first | assumption | omega)
  · exact mJumps_7 hb hts c sl b n k hc0 hc1 hr (by first | assumption | omega)

def mMoves_Said (m : Mac) (w : World) (c : Cp) (sl : Nat → Int) (b : Bd) (n : Nat) (k : Int) : Prop := Calls Tryz.prog 156 #[.slice (some ⟨m.s, 0, none⟩) n 16, .int .u8 k] (mk w m c sl b) fun e W => e = .returned (.slice (some ⟨m.s, 0, none⟩) (n + (mMoves k).length) 16) ∧ Lft w m c (app sl n (mMoves k)) b W
set_option maxHeartbeats 1000000 in
theorem mMoves_0 {m : Mac} {w : World} (hb : Base m w) (hts : m.ts = 115) (c : Cp) (sl : Nat → Int) (b : Bd) (n : Nat) (k : Int) (hc0 : 0 ≤ k) (hc1 : k < 256) (hr : n ≤ 4) (hd0 : cp k = 0) (hd1 : cq k = 0) : mMoves_Said m w c sl b n k := by
  unfold mMoves_Said
  have H := Lib.hid hts
  clear hts
  obtain ⟨⟨hy0, hy1⟩, ⟨hz0, hz1⟩, ⟨hx0, hx3⟩, ⟨hq0, hq1⟩, ⟨hp0, hp1⟩⟩ := code_bd hc0 hc1
  obtain ⟨l, hm⟩ : ∃ l, mMoves k = l := ⟨_, rfl⟩
  have HL := Lib.hid hm
  simp [mMoves, *] at hm
  subst hm
  go_enter Tryz.func156, Tryz.ntmps156
  go_wp2_with (first | (go_at_call 159; refine Calls.mono (read_ov (by assumption) _ _ _ _ _) ?_; rintro e W ⟨rfl, w1, hx1, hb1, rfl⟩) | (go_at_call 160; refine Calls.mono (write_ov (by assumption) _ _ _ _ _) ?_; rintro e W ⟨rfl, w1, hx1, hb1, rfl⟩) | (go_at_call 154; refine Calls.mono (work_ov (by assumption) _ _ _ _) ?_; rintro e W ⟨rfl, w1, hx1, hb1, rfl⟩) | (go_at_call 153; refine Calls.mono (word_any (by assumption) H.out _ _ _ _ (by omega)) ?_; rintro e W ⟨rfl, w1, hx1, hb1, rfl⟩) | (go_at_call 152; refine Calls.mono (more_v1 (by assumption) H.out _ _ _ _ _ _ _ ?_ ?_ ?_) ?_; (· rfl); (· rfl); (· omega); rintro e W ⟨rfl, w1, hx1, hb1, rfl⟩) | (go_at_call 165; refine (mp_any _ _ hc0 hc1).mono ?_; rintro e W ⟨rfl, rfl⟩) | (go_at_call 151; refine (mq_any _ _ hc0 hc1).mono ?_; rintro e W ⟨rfl, rfl⟩))
  rw [HL.out]
  go_ret
  exact ⟨ret_sl (by first | rfl | (simp only [List.length_append, List.length_cons, List.length_nil]; omega)), fin (by assumption) (by repeat (first | exact Ext.refl _ | assumption | refine Ext.trans ?_ (by assumption))) (by first | rfl | exact (app_nil _ _).symm | exact app_app _ _ _ _ | exact app_app3 _ _ _ _ _)⟩
set_option maxHeartbeats 1000000 in
theorem mMoves_1 {m : Mac} {w : World} (hb : Base m w) (hts : m.ts = 115) (c : Cp) (sl : Nat → Int) (b : Bd) (n : Nat) (k : Int) (hc0 : 0 ≤ k) (hc1 : k < 256) (hr : n ≤ 4) (hd0 : cp k = 0) (hd1 : cq k = 1) : mMoves_Said m w c sl b n k := by
  unfold mMoves_Said
  have H := Lib.hid hts
  clear hts
  obtain ⟨⟨hy0, hy1⟩, ⟨hz0, hz1⟩, ⟨hx0, hx3⟩, ⟨hq0, hq1⟩, ⟨hp0, hp1⟩⟩ := code_bd hc0 hc1
  obtain ⟨l, hm⟩ : ∃ l, mMoves k = l := ⟨_, rfl⟩
  have HL := Lib.hid hm
  simp [mMoves, *] at hm
  subst hm
  go_enter Tryz.func156, Tryz.ntmps156
  go_wp2_with (first | (go_at_call 159; refine Calls.mono (read_ov (by assumption) _ _ _ _ _) ?_; rintro e W ⟨rfl, w1, hx1, hb1, rfl⟩) | (go_at_call 160; refine Calls.mono (write_ov (by assumption) _ _ _ _ _) ?_; rintro e W ⟨rfl, w1, hx1, hb1, rfl⟩) | (go_at_call 154; refine Calls.mono (work_ov (by assumption) _ _ _ _) ?_; rintro e W ⟨rfl, w1, hx1, hb1, rfl⟩) | (go_at_call 153; refine Calls.mono (word_any (by assumption) H.out _ _ _ _ (by omega)) ?_; rintro e W ⟨rfl, w1, hx1, hb1, rfl⟩) | (go_at_call 152; refine Calls.mono (more_v1 (by assumption) H.out _ _ _ _ _ _ _ ?_ ?_ ?_) ?_; (· rfl); (· rfl); (· omega); rintro e W ⟨rfl, w1, hx1, hb1, rfl⟩) | (go_at_call 165; refine (mp_any _ _ hc0 hc1).mono ?_; rintro e W ⟨rfl, rfl⟩) | (go_at_call 151; refine (mq_any _ _ hc0 hc1).mono ?_; rintro e W ⟨rfl, rfl⟩))
  rw [HL.out]
  go_ret
  exact ⟨ret_sl (by first | rfl | (simp only [List.length_append, List.length_cons, List.length_nil]; omega)), fin (by assumption) (by repeat (first | exact Ext.refl _ | assumption | refine Ext.trans ?_ (by assumption))) (by first | rfl | exact (app_nil _ _).symm | exact app_app _ _ _ _ | exact app_app3 _ _ _ _ _)⟩
set_option maxHeartbeats 1000000 in
theorem mMoves_2 {m : Mac} {w : World} (hb : Base m w) (hts : m.ts = 115) (c : Cp) (sl : Nat → Int) (b : Bd) (n : Nat) (k : Int) (hc0 : 0 ≤ k) (hc1 : k < 256) (hr : n ≤ 4) (hd0 : cp k = 1) (hd1 : cq k = 0) : mMoves_Said m w c sl b n k := by
  unfold mMoves_Said
  have H := Lib.hid hts
  clear hts
  obtain ⟨⟨hy0, hy1⟩, ⟨hz0, hz1⟩, ⟨hx0, hx3⟩, ⟨hq0, hq1⟩, ⟨hp0, hp1⟩⟩ := code_bd hc0 hc1
  obtain ⟨l, hm⟩ : ∃ l, mMoves k = l := ⟨_, rfl⟩
  have HL := Lib.hid hm
  simp [mMoves, *] at hm
  subst hm
  go_enter Tryz.func156, Tryz.ntmps156
  go_wp2_with (first | (go_at_call 159; refine Calls.mono (read_ov (by assumption) _ _ _ _ _) ?_; rintro e W ⟨rfl, w1, hx1, hb1, rfl⟩) | (go_at_call 160; refine Calls.mono (write_ov (by assumption) _ _ _ _ _) ?_; rintro e W ⟨rfl, w1, hx1, hb1, rfl⟩) | (go_at_call 154; refine Calls.mono (work_ov (by assumption) _ _ _ _) ?_; rintro e W ⟨rfl, w1, hx1, hb1, rfl⟩) | (go_at_call 153; refine Calls.mono (word_any (by assumption) H.out _ _ _ _ (by omega)) ?_; rintro e W ⟨rfl, w1, hx1, hb1, rfl⟩) | (go_at_call 152; refine Calls.mono (more_v1 (by assumption) H.out _ _ _ _ _ _ _ ?_ ?_ ?_) ?_; (· rfl); (· rfl); (· omega); rintro e W ⟨rfl, w1, hx1, hb1, rfl⟩) | (go_at_call 165; refine (mp_any _ _ hc0 hc1).mono ?_; rintro e W ⟨rfl, rfl⟩) | (go_at_call 151; refine (mq_any _ _ hc0 hc1).mono ?_; rintro e W ⟨rfl, rfl⟩))
  rw [HL.out]
  go_ret
  exact ⟨ret_sl (by first | rfl | (simp only [List.length_append, List.length_cons, List.length_nil]; omega)), fin (by assumption) (by repeat (first | exact Ext.refl _ | assumption | refine Ext.trans ?_ (by assumption))) (by first | rfl | exact (app_nil _ _).symm | exact app_app _ _ _ _ | exact app_app3 _ _ _ _ _)⟩
set_option maxHeartbeats 1000000 in
theorem mMoves_3 {m : Mac} {w : World} (hb : Base m w) (hts : m.ts = 115) (c : Cp) (sl : Nat → Int) (b : Bd) (n : Nat) (k : Int) (hc0 : 0 ≤ k) (hc1 : k < 256) (hr : n ≤ 4) (hd0 : cp k = 1) (hd1 : cq k = 1) : mMoves_Said m w c sl b n k := by
  unfold mMoves_Said
  have H := Lib.hid hts
  clear hts
  obtain ⟨⟨hy0, hy1⟩, ⟨hz0, hz1⟩, ⟨hx0, hx3⟩, ⟨hq0, hq1⟩, ⟨hp0, hp1⟩⟩ := code_bd hc0 hc1
  obtain ⟨l, hm⟩ : ∃ l, mMoves k = l := ⟨_, rfl⟩
  have HL := Lib.hid hm
  simp [mMoves, *] at hm
  subst hm
  go_enter Tryz.func156, Tryz.ntmps156
  go_wp2_with (first | (go_at_call 159; refine Calls.mono (read_ov (by assumption) _ _ _ _ _) ?_; rintro e W ⟨rfl, w1, hx1, hb1, rfl⟩) | (go_at_call 160; refine Calls.mono (write_ov (by assumption) _ _ _ _ _) ?_; rintro e W ⟨rfl, w1, hx1, hb1, rfl⟩) | (go_at_call 154; refine Calls.mono (work_ov (by assumption) _ _ _ _) ?_; rintro e W ⟨rfl, w1, hx1, hb1, rfl⟩) | (go_at_call 153; refine Calls.mono (word_any (by assumption) H.out _ _ _ _ (by omega)) ?_; rintro e W ⟨rfl, w1, hx1, hb1, rfl⟩) | (go_at_call 152; refine Calls.mono (more_v1 (by assumption) H.out _ _ _ _ _ _ _ ?_ ?_ ?_) ?_; (· rfl); (· rfl); (· omega); rintro e W ⟨rfl, w1, hx1, hb1, rfl⟩) | (go_at_call 165; refine (mp_any _ _ hc0 hc1).mono ?_; rintro e W ⟨rfl, rfl⟩) | (go_at_call 151; refine (mq_any _ _ hc0 hc1).mono ?_; rintro e W ⟨rfl, rfl⟩))
  rw [HL.out]
  go_ret
  exact ⟨ret_sl (by first | rfl | (simp only [List.length_append, List.length_cons, List.length_nil]; omega)), fin (by assumption) (by repeat (first | exact Ext.refl _ | assumption | refine Ext.trans ?_ (by assumption))) (by first | rfl | exact (app_nil _ _).symm | exact app_app _ _ _ _ | exact app_app3 _ _ _ _ _)⟩
set_option maxHeartbeats 1000000 in
theorem mMoves_4 {m : Mac} {w : World} (hb : Base m w) (hts : m.ts = 115) (c : Cp) (sl : Nat → Int) (b : Bd) (n : Nat) (k : Int) (hc0 : 0 ≤ k) (hc1 : k < 256) (hr : n ≤ 4) (hd0 : cp k = 2) (hd1 : cq k = 0) : mMoves_Said m w c sl b n k := by
  unfold mMoves_Said
  have H := Lib.hid hts
  clear hts
  obtain ⟨⟨hy0, hy1⟩, ⟨hz0, hz1⟩, ⟨hx0, hx3⟩, ⟨hq0, hq1⟩, ⟨hp0, hp1⟩⟩ := code_bd hc0 hc1
  obtain ⟨l, hm⟩ : ∃ l, mMoves k = l := ⟨_, rfl⟩
  have HL := Lib.hid hm
  simp [mMoves, *] at hm
  subst hm
  go_enter Tryz.func156, Tryz.ntmps156
  go_wp2_with (first | (go_at_call 159; refine Calls.mono (read_ov (by assumption) _ _ _ _ _) ?_; rintro e W ⟨rfl, w1, hx1, hb1, rfl⟩) | (go_at_call 160; refine Calls.mono (write_ov (by assumption) _ _ _ _ _) ?_; rintro e W ⟨rfl, w1, hx1, hb1, rfl⟩) | (go_at_call 154; refine Calls.mono (work_ov (by assumption) _ _ _ _) ?_; rintro e W ⟨rfl, w1, hx1, hb1, rfl⟩) | (go_at_call 153; refine Calls.mono (word_any (by assumption) H.out _ _ _ _ (by omega)) ?_; rintro e W ⟨rfl, w1, hx1, hb1, rfl⟩) | (go_at_call 152; refine Calls.mono (more_v1 (by assumption) H.out _ _ _ _ _ _ _ ?_ ?_ ?_) ?_; (· rfl); (· rfl); (· omega); rintro e W ⟨rfl, w1, hx1, hb1, rfl⟩) | (go_at_call 165; refine (mp_any _ _ hc0 hc1).mono ?_; rintro e W ⟨rfl, rfl⟩) | (go_at_call 151; refine (mq_any _ _ hc0 hc1).mono ?_; rintro e W ⟨rfl, rfl⟩))
  rw [HL.out]
  go_ret
  exact ⟨ret_sl (by first | rfl | (simp only [List.length_append, List.length_cons, List.length_nil]; omega)), fin (by assumption) (by repeat (first | exact Ext.refl _ | assumption | refine Ext.trans ?_ (by assumption))) (by first | rfl | exact (app_nil _ _).symm | exact app_app _ _ _ _ | exact app_app3 _ _ _ _ _)⟩
set_option maxHeartbeats 1000000 in
theorem mMoves_5 {m : Mac} {w : World} (hb : Base m w) (hts : m.ts = 115) (c : Cp) (sl : Nat → Int) (b : Bd) (n : Nat) (k : Int) (hc0 : 0 ≤ k) (hc1 : k < 256) (hr : n ≤ 4) (hd0 : cp k = 2) (hd1 : cq k = 1) : mMoves_Said m w c sl b n k := by
  unfold mMoves_Said
  have H := Lib.hid hts
  clear hts
  obtain ⟨⟨hy0, hy1⟩, ⟨hz0, hz1⟩, ⟨hx0, hx3⟩, ⟨hq0, hq1⟩, ⟨hp0, hp1⟩⟩ := code_bd hc0 hc1
  obtain ⟨l, hm⟩ : ∃ l, mMoves k = l := ⟨_, rfl⟩
  have HL := Lib.hid hm
  simp [mMoves, *] at hm
  subst hm
  go_enter Tryz.func156, Tryz.ntmps156
  go_wp2_with (first | (go_at_call 159; refine Calls.mono (read_ov (by assumption) _ _ _ _ _) ?_; rintro e W ⟨rfl, w1, hx1, hb1, rfl⟩) | (go_at_call 160; refine Calls.mono (write_ov (by assumption) _ _ _ _ _) ?_; rintro e W ⟨rfl, w1, hx1, hb1, rfl⟩) | (go_at_call 154; refine Calls.mono (work_ov (by assumption) _ _ _ _) ?_; rintro e W ⟨rfl, w1, hx1, hb1, rfl⟩) | (go_at_call 153; refine Calls.mono (word_any (by assumption) H.out _ _ _ _ (by omega)) ?_; rintro e W ⟨rfl, w1, hx1, hb1, rfl⟩) | (go_at_call 152; refine Calls.mono (more_v1 (by assumption) H.out _ _ _ _ _ _ _ ?_ ?_ ?_) ?_; (· rfl); (· rfl); (· omega); rintro e W ⟨rfl, w1, hx1, hb1, rfl⟩) | (go_at_call 165; refine (mp_any _ _ hc0 hc1).mono ?_; rintro e W ⟨rfl, rfl⟩) | (go_at_call 151; refine (mq_any _ _ hc0 hc1).mono ?_; rintro e W ⟨rfl, rfl⟩))
  rw [HL.out]
  go_ret
  exact ⟨ret_sl (by first | rfl | (simp only [List.length_append, List.length_cons, List.length_nil]; omega)), fin (by assumption) (by repeat (first | exact Ext.refl _ | assumption | refine Ext.trans ?_ (by assumption))) (by first | rfl | exact (app_nil _ _).symm | exact app_app _ _ _ _ | exact app_app3 _ _ _ _ _)⟩
set_option maxHeartbeats 1000000 in
theorem mMoves_6 {m : Mac} {w : World} (hb : Base m w) (hts : m.ts = 115) (c : Cp) (sl : Nat → Int) (b : Bd) (n : Nat) (k : Int) (hc0 : 0 ≤ k) (hc1 : k < 256) (hr : n ≤ 4) (hd0 : cp k = 3) (hd1 : cq k = 0) : mMoves_Said m w c sl b n k := by
  unfold mMoves_Said
  have H := Lib.hid hts
  clear hts
  obtain ⟨⟨hy0, hy1⟩, ⟨hz0, hz1⟩, ⟨hx0, hx3⟩, ⟨hq0, hq1⟩, ⟨hp0, hp1⟩⟩ := code_bd hc0 hc1
  obtain ⟨l, hm⟩ : ∃ l, mMoves k = l := ⟨_, rfl⟩
  have HL := Lib.hid hm
  simp [mMoves, *] at hm
  subst hm
  go_enter Tryz.func156, Tryz.ntmps156
  go_wp2_with (first | (go_at_call 159; refine Calls.mono (read_ov (by assumption) _ _ _ _ _) ?_; rintro e W ⟨rfl, w1, hx1, hb1, rfl⟩) | (go_at_call 160; refine Calls.mono (write_ov (by assumption) _ _ _ _ _) ?_; rintro e W ⟨rfl, w1, hx1, hb1, rfl⟩) | (go_at_call 154; refine Calls.mono (work_ov (by assumption) _ _ _ _) ?_; rintro e W ⟨rfl, w1, hx1, hb1, rfl⟩) | (go_at_call 153; refine Calls.mono (word_any (by assumption) H.out _ _ _ _ (by omega)) ?_; rintro e W ⟨rfl, w1, hx1, hb1, rfl⟩) | (go_at_call 152; refine Calls.mono (more_v1 (by assumption) H.out _ _ _ _ _ _ _ ?_ ?_ ?_) ?_; (· rfl); (· rfl); (· omega); rintro e W ⟨rfl, w1, hx1, hb1, rfl⟩) | (go_at_call 165; refine (mp_any _ _ hc0 hc1).mono ?_; rintro e W ⟨rfl, rfl⟩) | (go_at_call 151; refine (mq_any _ _ hc0 hc1).mono ?_; rintro e W ⟨rfl, rfl⟩))
  rw [HL.out]
  go_ret
  exact ⟨ret_sl (by first | rfl | (simp only [List.length_append, List.length_cons, List.length_nil]; omega)), fin (by assumption) (by repeat (first | exact Ext.refl _ | assumption | refine Ext.trans ?_ (by assumption))) (by first | rfl | exact (app_nil _ _).symm | exact app_app _ _ _ _ | exact app_app3 _ _ _ _ _)⟩
set_option maxHeartbeats 1000000 in
theorem mMoves_7 {m : Mac} {w : World} (hb : Base m w) (hts : m.ts = 115) (c : Cp) (sl : Nat → Int) (b : Bd) (n : Nat) (k : Int) (hc0 : 0 ≤ k) (hc1 : k < 256) (hr : n ≤ 4) (hd0 : cp k = 3) (hd1 : cq k = 1) : mMoves_Said m w c sl b n k := by
  unfold mMoves_Said
  have H := Lib.hid hts
  clear hts
  obtain ⟨⟨hy0, hy1⟩, ⟨hz0, hz1⟩, ⟨hx0, hx3⟩, ⟨hq0, hq1⟩, ⟨hp0, hp1⟩⟩ := code_bd hc0 hc1
  obtain ⟨l, hm⟩ : ∃ l, mMoves k = l := ⟨_, rfl⟩
  have HL := Lib.hid hm
  simp [mMoves, *] at hm
  subst hm
  go_enter Tryz.func156, Tryz.ntmps156
  go_wp2_with (first | (go_at_call 159; refine Calls.mono (read_ov (by assumption) _ _ _ _ _) ?_; rintro e W ⟨rfl, w1, hx1, hb1, rfl⟩) | (go_at_call 160; refine Calls.mono (write_ov (by assumption) _ _ _ _ _) ?_; rintro e W ⟨rfl, w1, hx1, hb1, rfl⟩) | (go_at_call 154; refine Calls.mono (work_ov (by assumption) _ _ _ _) ?_; rintro e W ⟨rfl, w1, hx1, hb1, rfl⟩) | (go_at_call 153; refine Calls.mono (word_any (by assumption) H.out _ _ _ _ (by omega)) ?_; rintro e W ⟨rfl, w1, hx1, hb1, rfl⟩) | (go_at_call 152; refine Calls.mono (more_v1 (by assumption) H.out _ _ _ _ _ _ _ ?_ ?_ ?_) ?_; (· rfl); (· rfl); (· omega); rintro e W ⟨rfl, w1, hx1, hb1, rfl⟩) | (go_at_call 165; refine (mp_any _ _ hc0 hc1).mono ?_; rintro e W ⟨rfl, rfl⟩) | (go_at_call 151; refine (mq_any _ _ hc0 hc1).mono ?_; rintro e W ⟨rfl, rfl⟩))
  rw [HL.out]
  go_ret
  exact ⟨ret_sl (by first | rfl | (simp only [List.length_append, List.length_cons, List.length_nil]; omega)), fin (by assumption) (by repeat (first | exact Ext.refl _ | assumption | refine Ext.trans ?_ (by assumption))) (by first | rfl | exact (app_nil _ _).symm | exact app_app _ _ _ _ | exact app_app3 _ _ _ _ _)⟩
set_option maxHeartbeats 8000000 in
theorem mMoves_any {m : Mac} {w : World} (hb : Base m w) (hts : m.ts = 115) (c : Cp) (sl : Nat → Int) (b : Bd) (n : Nat) (k : Int) (hc0 : 0 ≤ k) (hc1 : k < 256) (hr : n ≤ 4) : Calls Tryz.prog 156 #[.slice (some ⟨m.s, 0, none⟩) n 16, .int .u8 k] (mk w m c sl b) fun e W => e = .returned (.slice (some ⟨m.s, 0, none⟩) (n + (mMoves k).length) 16) ∧ Lft w m c (app sl n (mMoves k)) b W := by
  obtain ⟨⟨hy0, hy1⟩, ⟨hz0, hz1⟩, ⟨hx0, hx3⟩, ⟨hq0, hq1⟩, ⟨hp0, hp1⟩⟩ := code_bd hc0 hc1
  rcases (by omega : cp k = 0 ∨ cp k = 1 ∨ cp k = 2 ∨ cp k = 3) with hd | hd | hd | hd
  · rcases (by omega : cq k = 0 ∨ cq k = 1) with hd | hd
    · exact mMoves_0 hb hts c sl b n k hc0 hc1 hr (by first | assumption | omega) (by first | assumption | omega)
    · exact mMoves_1 hb hts c sl b n k hc0 hc1 hr (by first | assumption | omega) (by first | assumption | omega)
  · rcases (by omega : cq k = 0 ∨ cq k = 1) with hd | hd
    · exact mMoves_2 hb hts c sl b n k hc0 hc1 hr (by first | assumption | omega) (by first | assumption | omega)
    · exact mMoves_3 hb hts c sl b n k hc0 hc1 hr (by first | assumption | omega) (by first | assumption | omega)
  · rcases (by omega : cq k = 0 ∨ cq k = 1) with hd | hd
    · exact mMoves_4 hb hts c sl b n k hc0 hc1 hr (by first | assumption | omega) (by first | assumption | omega)
    · exact mMoves_5 hb hts c sl b n k hc0 hc1 hr (by first | assumption | omega) (by first | assumption | omega)
  · rcases (by omega : cq k = 0 ∨ cq k = 1) with hd | hd
    · exact mMoves_6 hb hts c sl b n k hc0 hc1 hr (by first | assumption | omega) (by first | assumption | omega)
    · exact mMoves_7 hb hts c sl b n k hc0 hc1 hr (by first | assumption | omega) (by first | assumption | omega)

def mReturns_Said (m : Mac) (w : World) (c : Cp) (sl : Nat → Int) (b : Bd) (n : Nat) (k : Int) : Prop := Calls Tryz.prog 162 #[.slice (some ⟨m.s, 0, none⟩) n 16, .int .u8 k] (mk w m c sl b) fun e W => e = .returned (.slice (some ⟨m.s, 0, none⟩) (n + (mReturns k).length) 16) ∧ Lft w m c (app sl n (mReturns k)) b W
set_option maxHeartbeats 1000000 in
theorem mReturns_0 {m : Mac} {w : World} (hb : Base m w) (hts : m.ts = 115) (c : Cp) (sl : Nat → Int) (b : Bd) (n : Nat) (k : Int) (hc0 : 0 ≤ k) (hc1 : k < 256) (hr : n ≤ 4) (hd0 : cp k = 0) : mReturns_Said m w c sl b n k := by
  unfold mReturns_Said
  have H := Lib.hid hts
  clear hts
  obtain ⟨⟨hy0, hy1⟩, ⟨hz0, hz1⟩, ⟨hx0, hx3⟩, ⟨hq0, hq1⟩, ⟨hp0, hp1⟩⟩ := code_bd hc0 hc1
  obtain ⟨l, hm⟩ : ∃ l, mReturns k = l := ⟨_, rfl⟩
  have HL := Lib.hid hm
  simp [mReturns, *] at hm
  subst hm
  go_enter Tryz.func162, Tryz.ntmps162
  go_wp2_with (first | (go_at_call 159; refine Calls.mono (read_ov (by assumption) _ _ _ _ _) ?_; rintro e W ⟨rfl, w1, hx1, hb1, rfl⟩) | (go_at_call 155; refine Calls.mono (wait_ov (by assumption) _ _ _ _ _) ?_; rintro e W ⟨rfl, w1, hx1, hb1, rfl⟩) | (go_at_call 154; refine Calls.mono (work_ov (by assumption) _ _ _ _) ?_; rintro e W ⟨rfl, w1, hx1, hb1, rfl⟩) | (go_at_call 152; refine Calls.mono (more_v1 (by assumption) H.out _ _ _ _ _ _ _ ?_ ?_ ?_) ?_; (· rfl); (· rfl); (· omega); rintro e W ⟨rfl, w1, hx1, hb1, rfl⟩) | (go_at_call 165; refine (mp_any _ _ hc0 hc1).mono ?_; rintro e W ⟨rfl, rfl⟩))
  rw [HL.out]
  go_ret
  exact ⟨ret_sl (by first | rfl | (simp only [List.length_append, List.length_cons, List.length_nil]; omega)), fin (by assumption) (by repeat (first | exact Ext.refl _ | assumption | refine Ext.trans ?_ (by assumption))) (by first | rfl | exact (app_nil _ _).symm | exact app_app _ _ _ _ | exact app_app3 _ _ _ _ _)⟩
set_option maxHeartbeats 1000000 in
theorem mReturns_1 {m : Mac} {w : World} (hb : Base m w) (hts : m.ts = 115) (c : Cp) (sl : Nat → Int) (b : Bd) (n : Nat) (k : Int) (hc0 : 0 ≤ k) (hc1 : k < 256) (hr : n ≤ 4) (hd0 : cp k = 1) : mReturns_Said m w c sl b n k := by
  unfold mReturns_Said
  have H := Lib.hid hts
  clear hts
  obtain ⟨⟨hy0, hy1⟩, ⟨hz0, hz1⟩, ⟨hx0, hx3⟩, ⟨hq0, hq1⟩, ⟨hp0, hp1⟩⟩ := code_bd hc0 hc1
  obtain ⟨l, hm⟩ : ∃ l, mReturns k = l := ⟨_, rfl⟩
  have HL := Lib.hid hm
  simp [mReturns, *] at hm
  subst hm
  go_enter Tryz.func162, Tryz.ntmps162
  go_wp2_with (first | (go_at_call 159; refine Calls.mono (read_ov (by assumption) _ _ _ _ _) ?_; rintro e W ⟨rfl, w1, hx1, hb1, rfl⟩) | (go_at_call 155; refine Calls.mono (wait_ov (by assumption) _ _ _ _ _) ?_; rintro e W ⟨rfl, w1, hx1, hb1, rfl⟩) | (go_at_call 154; refine Calls.mono (work_ov (by assumption) _ _ _ _) ?_; rintro e W ⟨rfl, w1, hx1, hb1, rfl⟩) | (go_at_call 152; refine Calls.mono (more_v1 (by assumption) H.out _ _ _ _ _ _ _ ?_ ?_ ?_) ?_; (· rfl); (· rfl); (· omega); rintro e W ⟨rfl, w1, hx1, hb1, rfl⟩) | (go_at_call 165; refine (mp_any _ _ hc0 hc1).mono ?_; rintro e W ⟨rfl, rfl⟩))
  rw [HL.out]
  go_ret
  exact ⟨ret_sl (by first | rfl | (simp only [List.length_append, List.length_cons, List.length_nil]; omega)), fin (by assumption) (by repeat (first | exact Ext.refl _ | assumption | refine Ext.trans ?_ (by assumption))) (by first | rfl | exact (app_nil _ _).symm | exact app_app _ _ _ _ | exact app_app3 _ _ _ _ _)⟩
set_option maxHeartbeats 1000000 in
theorem mReturns_2 {m : Mac} {w : World} (hb : Base m w) (hts : m.ts = 115) (c : Cp) (sl : Nat → Int) (b : Bd) (n : Nat) (k : Int) (hc0 : 0 ≤ k) (hc1 : k < 256) (hr : n ≤ 4) (hd0 : cp k = 2) : mReturns_Said m w c sl b n k := by
  unfold mReturns_Said
  have H := Lib.hid hts
  clear hts
  obtain ⟨⟨hy0, hy1⟩, ⟨hz0, hz1⟩, ⟨hx0, hx3⟩, ⟨hq0, hq1⟩, ⟨hp0, hp1⟩⟩ := code_bd hc0 hc1
  obtain ⟨l, hm⟩ : ∃ l, mReturns k = l := ⟨_, rfl⟩
  have HL := Lib.hid hm
  simp [mReturns, *] at hm
  subst hm
  go_enter Tryz.func162, Tryz.ntmps162
  go_wp2_with (first | (go_at_call 159; refine Calls.mono (read_ov (by assumption) _ _ _ _ _) ?_; rintro e W ⟨rfl, w1, hx1, hb1, rfl⟩) | (go_at_call 155; refine Calls.mono (wait_ov (by assumption) _ _ _ _ _) ?_; rintro e W ⟨rfl, w1, hx1, hb1, rfl⟩) | (go_at_call 154; refine Calls.mono (work_ov (by assumption) _ _ _ _) ?_; rintro e W ⟨rfl, w1, hx1, hb1, rfl⟩) | (go_at_call 152; refine Calls.mono (more_v1 (by assumption) H.out _ _ _ _ _ _ _ ?_ ?_ ?_) ?_; (· rfl); (· rfl); (· omega); rintro e W ⟨rfl, w1, hx1, hb1, rfl⟩) | (go_at_call 165; refine (mp_any _ _ hc0 hc1).mono ?_; rintro e W ⟨rfl, rfl⟩))
  rw [HL.out]
  go_ret
  exact ⟨ret_sl (by first | rfl | (simp only [List.length_append, List.length_cons, List.length_nil]; omega)), fin (by assumption) (by repeat (first | exact Ext.refl _ | assumption | refine Ext.trans ?_ (by assumption))) (by first | rfl | exact (app_nil _ _).symm | exact app_app _ _ _ _ | exact app_app3 _ _ _ _ _)⟩
set_option maxHeartbeats 1000000 in
theorem mReturns_3 {m : Mac} {w : World} (hb : Base m w) (hts : m.ts = 115) (c : Cp) (sl : Nat → Int) (b : Bd) (n : Nat) (k : Int) (hc0 : 0 ≤ k) (hc1 : k < 256) (hr : n ≤ 4) (hd0 : cp k = 3) : mReturns_Said m w c sl b n k := by
  unfold mReturns_Said
  have H := Lib.hid hts
  clear hts
  obtain ⟨⟨hy0, hy1⟩, ⟨hz0, hz1⟩, ⟨hx0, hx3⟩, ⟨hq0, hq1⟩, ⟨hp0, hp1⟩⟩ := code_bd hc0 hc1
  obtain ⟨l, hm⟩ : ∃ l, mReturns k = l := ⟨_, rfl⟩
  have HL := Lib.hid hm
  simp [mReturns, *] at hm
  subst hm
  go_enter Tryz.func162, Tryz.ntmps162
  go_wp2_with (first | (go_at_call 159; refine Calls.mono (read_ov (by assumption) _ _ _ _ _) ?_; rintro e W ⟨rfl, w1, hx1, hb1, rfl⟩) | (go_at_call 155; refine Calls.mono (wait_ov (by assumption) _ _ _ _ _) ?_; rintro e W ⟨rfl, w1, hx1, hb1, rfl⟩) | (go_at_call 154; refine Calls.mono (work_ov (by assumption) _ _ _ _) ?_; rintro e W ⟨rfl, w1, hx1, hb1, rfl⟩) | (go_at_call 152; refine Calls.mono (more_v1 (by assumption) H.out _ _ _ _ _ _ _ ?_ ?_ ?_) ?_; (· rfl); (· rfl); (· omega); rintro e W ⟨rfl, w1, hx1, hb1, rfl⟩) | (go_at_call 165; refine (mp_any _ _ hc0 hc1).mono ?_; rintro e W ⟨rfl, rfl⟩))
  rw [HL.out]
  go_ret
  exact ⟨ret_sl (by first | rfl | (simp only [List.length_append, List.length_cons, List.length_nil]; omega)), fin (by assumption) (by repeat (first | exact Ext.refl _ | assumption | refine Ext.trans ?_ (by assumption))) (by first | rfl | exact (app_nil _ _).symm | exact app_app _ _ _ _ | exact app_app3 _ _ _ _ _)⟩
set_option maxHeartbeats 8000000 in
theorem mReturns_any {m : Mac} {w : World} (hb : Base m w) (hts : m.ts = 115) (c : Cp) (sl : Nat → Int) (b : Bd) (n : Nat) (k : Int) (hc0 : 0 ≤ k) (hc1 : k < 256) (hr : n ≤ 4) : Calls Tryz.prog 162 #[.slice (some ⟨m.s, 0, none⟩) n 16, .int .u8 k] (mk w m c sl b) fun e W => e = .returned (.slice (some ⟨m.s, 0, none⟩) (n + (mReturns k).length) 16) ∧ Lft w m c (app sl n (mReturns k)) b W := by
  obtain ⟨⟨hy0, hy1⟩, ⟨hz0, hz1⟩, ⟨hx0, hx3⟩, ⟨hq0, hq1⟩, ⟨hp0, hp1⟩⟩ := code_bd hc0 hc1
  rcases (by omega : cp k = 0 ∨ cp k = 1 ∨ cp k = 2 ∨ cp k = 3) with hd | hd | hd | hd
  · exact mReturns_0 hb hts c sl b n k hc0 hc1 hr (by first | assumption | omega)
  · exact mReturns_1 hb hts c sl b n k hc0 hc1 hr (by first | assumption | omega)
  · exact mReturns_2 hb hts c sl b n k hc0 hc1 hr (by first | assumption | omega)
  · exact mReturns_3 hb hts c sl b n k hc0 hc1 hr (by first | assumption | omega)

def mPorts_Said (m : Mac) (w : World) (c : Cp) (sl : Nat → Int) (b : Bd) (n : Nat) (k : Int) : Prop := Calls Tryz.prog 163 #[.slice (some ⟨m.s, 0, none⟩) n 16, .int .u8 k] (mk w m c sl b) fun e W => e = .returned (.slice (some ⟨m.s, 0, none⟩) (n + (mPorts k).length) 16) ∧ Lft w m c (app sl n (mPorts k)) b W
set_option maxHeartbeats 1000000 in
theorem mPorts_0 {m : Mac} {w : World} (hb : Base m w) (hts : m.ts = 115) (c : Cp) (sl : Nat → Int) (b : Bd) (n : Nat) (k : Int) (hc0 : 0 ≤ k) (hc1 : k < 256) (hr : n ≤ 4) (hd0 : cy k = 0) : mPorts_Said m w c sl b n k := by
  unfold mPorts_Said
  have H := Lib.hid hts
  clear hts
  obtain ⟨⟨hy0, hy1⟩, ⟨hz0, hz1⟩, ⟨hx0, hx3⟩, ⟨hq0, hq1⟩, ⟨hp0, hp1⟩⟩ := code_bd hc0 hc1
  obtain ⟨l, hm⟩ : ∃ l, mPorts k = l := ⟨_, rfl⟩
  have HL := Lib.hid hm
  simp [mPorts, *] at hm
  subst hm
  go_enter Tryz.func163, Tryz.ntmps163
  go_wp2_with (first | (go_at_call 159; refine Calls.mono (read_ov (by assumption) _ _ _ _ _) ?_; rintro e W ⟨rfl, w1, hx1, hb1, rfl⟩) | (go_at_call 160; refine Calls.mono (write_ov (by assumption) _ _ _ _ _) ?_; rintro e W ⟨rfl, w1, hx1, hb1, rfl⟩) | (go_at_call 155; refine Calls.mono (wait_ov (by assumption) _ _ _ _ _) ?_; rintro e W ⟨rfl, w1, hx1, hb1, rfl⟩) | (go_at_call 154; refine Calls.mono (work_ov (by assumption) _ _ _ _) ?_; rintro e W ⟨rfl, w1, hx1, hb1, rfl⟩) | (go_at_call 153; refine Calls.mono (word_any (by assumption) H.out _ _ _ _ (by omega)) ?_; rintro e W ⟨rfl, w1, hx1, hb1, rfl⟩) | (go_at_call 152; refine Calls.mono (more_v1 (by assumption) H.out _ _ _ _ _ _ _ ?_ ?_ ?_) ?_; (· rfl); (· rfl); (· omega); rintro e W ⟨rfl, w1, hx1, hb1, rfl⟩) | (go_at_call 157; refine (my_any _ _ hc0 hc1).mono ?_; rintro e W ⟨rfl, rfl⟩))
  rw [HL.out]
  go_ret
  exact ⟨ret_sl (by first | rfl | (simp only [List.length_append, List.length_cons, List.length_nil]; omega)), fin (by assumption) (by repeat (first | exact Ext.refl _ | assumption | refine Ext.trans ?_ (by assumption))) (by first | rfl | exact (app_nil _ _).symm | exact app_app _ _ _ _ | exact app_app3 _ _ _ _ _)⟩
set_option maxHeartbeats 1000000 in
theorem mPorts_1 {m : Mac} {w : World} (hb : Base m w) (hts : m.ts = 115) (c : Cp) (sl : Nat → Int) (b : Bd) (n : Nat) (k : Int) (hc0 : 0 ≤ k) (hc1 : k < 256) (hr : n ≤ 4) (hd0 : cy k = 1) : mPorts_Said m w c sl b n k := by
  unfold mPorts_Said
  have H := Lib.hid hts
  clear hts
  obtain ⟨⟨hy0, hy1⟩, ⟨hz0, hz1⟩, ⟨hx0, hx3⟩, ⟨hq0, hq1⟩, ⟨hp0, hp1⟩⟩ := code_bd hc0 hc1
  obtain ⟨l, hm⟩ : ∃ l, mPorts k = l := ⟨_, rfl⟩
  have HL := Lib.hid hm
  simp [mPorts, *] at hm
  subst hm
  go_enter Tryz.func163, Tryz.ntmps163
  go_wp2_with (first | (go_at_call 159; refine Calls.mono (read_ov (by assumption) _ _ _ _ _) ?_; rintro e W ⟨rfl, w1, hx1, hb1, rfl⟩) | (go_at_call 160; refine Calls.mono (write_ov (by assumption) _ _ _ _ _) ?_; rintro e W ⟨rfl, w1, hx1, hb1, rfl⟩) | (go_at_call 155; refine Calls.mono (wait_ov (by assumption) _ _ _ _ _) ?_; rintro e W ⟨rfl, w1, hx1, hb1, rfl⟩) | (go_at_call 154; refine Calls.mono (work_ov (by assumption) _ _ _ _) ?_; rintro e W ⟨rfl, w1, hx1, hb1, rfl⟩) | (go_at_call 153; refine Calls.mono (word_any (by assumption) H.out _ _ _ _ (by omega)) ?_; rintro e W ⟨rfl, w1, hx1, hb1, rfl⟩) | (go_at_call 152; refine Calls.mono (more_v1 (by assumption) H.out _ _ _ _ _ _ _ ?_ ?_ ?_) ?_; (· rfl); (· rfl); (· omega); rintro e W ⟨rfl, w1, hx1, hb1, rfl⟩) | (go_at_call 157; refine (my_any _ _ hc0 hc1).mono ?_; rintro e W ⟨rfl, rfl⟩))
  rw [HL.out]
  go_ret
  exact ⟨ret_sl (by first | rfl | (simp only [List.length_append, List.length_cons, List.length_nil]; omega)), fin (by assumption) (by repeat (first | exact Ext.refl _ | assumption | refine Ext.trans ?_ (by assumption))) (by first | rfl | exact (app_nil _ _).symm | exact app_app _ _ _ _ | exact app_app3 _ _ _ _ _)⟩
set_option maxHeartbeats 1000000 in
theorem mPorts_2 {m : Mac} {w : World} (hb : Base m w) (hts : m.ts = 115) (c : Cp) (sl : Nat → Int) (b : Bd) (n : Nat) (k : Int) (hc0 : 0 ≤ k) (hc1 : k < 256) (hr : n ≤ 4) (hd0 : cy k = 2) : mPorts_Said m w c sl b n k := by
  unfold mPorts_Said
  have H := Lib.hid hts
  clear hts
  obtain ⟨⟨hy0, hy1⟩, ⟨hz0, hz1⟩, ⟨hx0, hx3⟩, ⟨hq0, hq1⟩, ⟨hp0, hp1⟩⟩ := code_bd hc0 hc1
  obtain ⟨l, hm⟩ : ∃ l, mPorts k = l := ⟨_, rfl⟩
  have HL := Lib.hid hm
  simp [mPorts, *] at hm
  subst hm
  go_enter Tryz.func163, Tryz.ntmps163
  go_wp2_with (first | (go_at_call 159; refine Calls.mono (read_ov (by assumption) _ _ _ _ _) ?_; rintro e W ⟨rfl, w1, hx1, hb1, rfl⟩) | (go_at_call 160; refine Calls.mono (write_ov (by assumption) _ _ _ _ _) ?_; rintro e W ⟨rfl, w1, hx1, hb1, rfl⟩) | (go_at_call 155; refine Calls.mono (wait_ov (by assumption) _ _ _ _ _) ?_; rintro e W ⟨rfl, w1, hx1, hb1, rfl⟩) | (go_at_call 154; refine Calls.mono (work_ov (by assumption) _ _ _ _) ?_; rintro e W ⟨rfl, w1, hx1, hb1, rfl⟩) | (go_at_call 153; refine Calls.mono (word_any (by assumption) H.out _ _ _ _ (by omega)) ?_; rintro e W ⟨rfl, w1, hx1, hb1, rfl⟩) | (go_at_call 152; refine Calls.mono (more_v1 (by assumption) H.out _ _ _ _ _ _ _ ?_ ?_ ?_) ?_; (· rfl); (· rfl); (· omega); rintro e W ⟨rfl, w1, hx1, hb1, rfl⟩) | (go_at_call 157; refine (my_any _ _ hc0 hc1).mono ?_; rintro e W ⟨rfl, rfl⟩))
  rw [HL.out]
  go_ret
  exact ⟨ret_sl (by first | rfl | (simp only [List.length_append, List.length_cons, List.length_nil]; omega)), fin (by assumption) (by repeat (first | exact Ext.refl _ | assumption | refine Ext.trans ?_ (by assumption))) (by first | rfl | exact (app_nil _ _).symm | exact app_app _ _ _ _ | exact app_app3 _ _ _ _ _)⟩
set_option maxHeartbeats 1000000 in
theorem mPorts_3 {m : Mac} {w : World} (hb : Base m w) (hts : m.ts = 115) (c : Cp) (sl : Nat → Int) (b : Bd) (n : Nat) (k : Int) (hc0 : 0 ≤ k) (hc1 : k < 256) (hr : n ≤ 4) (hd0 : cy k = 3) : mPorts_Said m w c sl b n k := by
  unfold mPorts_Said
  have H := Lib.hid hts
  clear hts
  obtain ⟨⟨hy0, hy1⟩, ⟨hz0, hz1⟩, ⟨hx0, hx3⟩, ⟨hq0, hq1⟩, ⟨hp0, hp1⟩⟩ := code_bd hc0 hc1
  obtain ⟨l, hm⟩ : ∃ l, mPorts k = l := ⟨_, rfl⟩
  have HL := Lib.hid hm
  simp [mPorts, *] at hm
  subst hm
  go_enter Tryz.func163, Tryz.ntmps163
  go_wp2_with (first | (go_at_call 159; refine Calls.mono (read_ov (by assumption) _ _ _ _ _) ?_; rintro e W ⟨rfl, w1, hx1, hb1, rfl⟩) | (go_at_call 160; refine Calls.mono (write_ov (by assumption) _ _ _ _ _) ?_; rintro e W ⟨rfl, w1, hx1, hb1, rfl⟩) | (go_at_call 155; refine Calls.mono (wait_ov (by assumption) _ _ _ _ _) ?_; rintro e W ⟨rfl, w1, hx1, hb1, rfl⟩) | (go_at_call 154; refine Calls.mono (work_ov (by assumption) _ _ _ _) ?_; rintro e W ⟨rfl, w1, hx1, hb1, rfl⟩) | (go_at_call 153; refine Calls.mono (word_any (by assumption) H.out _ _ _ _ (by omega)) ?_; rintro e W ⟨rfl, w1, hx1, hb1, rfl⟩) | (go_at_call 152; refine Calls.mono (more_v1 (by assumption) H.out _ _ _ _ _ _ _ ?_ ?_ ?_) ?_; (· rfl); (· rfl); (· omega); rintro e W ⟨rfl, w1, hx1, hb1, rfl⟩) | (go_at_call 157; refine (my_any _ _ hc0 hc1).mono ?_; rintro e W ⟨rfl, rfl⟩))
  rw [HL.out]
  go_ret
  exact ⟨ret_sl (by first | rfl | (simp only [List.length_append, List.length_cons, List.length_nil]; omega)), fin (by assumption) (by repeat (first | exact Ext.refl _ | assumption | refine Ext.trans ?_ (by assumption))) (by first | rfl | exact (app_nil _ _).symm | exact app_app _ _ _ _ | exact app_app3 _ _ _ _ _)⟩
set_option maxHeartbeats 1000000 in
theorem mPorts_4 {m : Mac} {w : World} (hb : Base m w) (hts : m.ts = 115) (c : Cp) (sl : Nat → Int) (b : Bd) (n : Nat) (k : Int) (hc0 : 0 ≤ k) (hc1 : k < 256) (hr : n ≤ 4) (hd0 : cy k = 4) : mPorts_Said m w c sl b n k := by
  unfold mPorts_Said
  have H := Lib.hid hts
  clear hts
  obtain ⟨⟨hy0, hy1⟩, ⟨hz0, hz1⟩, ⟨hx0, hx3⟩, ⟨hq0, hq1⟩, ⟨hp0, hp1⟩⟩ := code_bd hc0 hc1
  obtain ⟨l, hm⟩ : ∃ l, mPorts k = l := ⟨_, rfl⟩
  have HL := Lib.hid hm
  simp [mPorts, *] at hm
  subst hm
  go_enter Tryz.func163, Tryz.ntmps163
  go_wp2_with (first | (go_at_call 159; refine Calls.mono (read_ov (by assumption) _ _ _ _ _) ?_; rintro e W ⟨rfl, w1, hx1, hb1, rfl⟩) | (go_at_call 160; refine Calls.mono (write_ov (by assumption) _ _ _ _ _) ?_; rintro e W ⟨rfl, w1, hx1, hb1, rfl⟩) | (go_at_call 155; refine Calls.mono (wait_ov (by assumption) _ _ _ _ _) ?_; rintro e W ⟨rfl, w1, hx1, hb1, rfl⟩) | (go_at_call 154; refine Calls.mono (work_ov (by assumption) _ _ _ _) ?_; rintro e W ⟨rfl, w1, hx1, hb1, rfl⟩) | (go_at_call 153; refine Calls.mono (word_any (by assumption) H.out _ _ _ _ (by omega)) ?_; rintro e W ⟨rfl, w1, hx1, hb1, rfl⟩) | (go_at_call 152; refine Calls.mono (more_v1 (by assumption) H.out _ _ _ _ _ _ _ ?_ ?_ ?_) ?_; (· rfl); (· rfl); (· omega); rintro e W ⟨rfl, w1, hx1, hb1, rfl⟩) | (go_at_call 157; refine (my_any _ _ hc0 hc1).mono ?_; rintro e W ⟨rfl, rfl⟩))
  rw [HL.out]
  go_ret
  exact ⟨ret_sl (by first | rfl | (simp only [List.length_append, List.length_cons, List.length_nil]; omega)), fin (by assumption) (by repeat (first | exact Ext.refl _ | assumption | refine Ext.trans ?_ (by assumption))) (by first | rfl | exact (app_nil _ _).symm | exact app_app _ _ _ _ | exact app_app3 _ _ _ _ _)⟩
set_option maxHeartbeats 1000000 in
theorem mPorts_5 {m : Mac} {w : World} (hb : Base m w) (hts : m.ts = 115) (c : Cp) (sl : Nat → Int) (b : Bd) (n : Nat) (k : Int) (hc0 : 0 ≤ k) (hc1 : k < 256) (hr : n ≤ 4) (hd0 : cy k = 5) : mPorts_Said m w c sl b n k := by
  unfold mPorts_Said
  have H := Lib.hid hts
  clear hts
  obtain ⟨⟨hy0, hy1⟩, ⟨hz0, hz1⟩, ⟨hx0, hx3⟩, ⟨hq0, hq1⟩, ⟨hp0, hp1⟩⟩ := code_bd hc0 hc1
  obtain ⟨l, hm⟩ : ∃ l, mPorts k = l := ⟨_, rfl⟩
  have HL := Lib.hid hm
  simp [mPorts, *] at hm
  subst hm
  go_enter Tryz.func163, Tryz.ntmps163
  go_wp2_with (first | (go_at_call 159; refine Calls.mono (read_ov (by assumption) _ _ _ _ _) ?_; rintro e W ⟨rfl, w1, hx1, hb1, rfl⟩) | (go_at_call 160; refine Calls.mono (write_ov (by assumption) _ _ _ _ _) ?_; rintro e W ⟨rfl, w1, hx1, hb1, rfl⟩) | (go_at_call 155; refine Calls.mono (wait_ov (by assumption) _ _ _ _ _) ?_; rintro e W ⟨rfl, w1, hx1, hb1, rfl⟩) | (go_at_call 154; refine Calls.mono (work_ov (by assumption) _ _ _ _) ?_; rintro e W ⟨rfl, w1, hx1, hb1, rfl⟩) | (go_at_call 153; refine Calls.mono (word_any (by assumption) H.out _ _ _ _ (by omega)) ?_; rintro e W ⟨rfl, w1, hx1, hb1, rfl⟩) | (go_at_call 152; refine Calls.mono (more_v1 (by assumption) H.out _ _ _ _ _ _ _ ?_ ?_ ?_) ?_; (· rfl); (· rfl); (· omega); rintro e W ⟨rfl, w1, hx1, hb1, rfl⟩) | (go_at_call 157; refine (my_any _ _ hc0 hc1).mono ?_; rintro e W ⟨rfl, rfl⟩))
  rw [HL.out]
  go_ret
  exact ⟨ret_sl (by first | rfl | (simp only [List.length_append, List.length_cons, List.length_nil]; omega)), fin (by assumption) (by repeat (first | exact Ext.refl _ | assumption | refine Ext.trans ?_ (by assumption))) (by first | rfl | exact (app_nil _ _).symm | exact app_app _ _ _ _ | exact app_app3 _ _ _ _ _)⟩
set_option maxHeartbeats 1000000 in
theorem mPorts_6 {m : Mac} {w : World} (hb : Base m w) (hts : m.ts = 115) (c : Cp) (sl : Nat → Int) (b : Bd) (n : Nat) (k : Int) (hc0 : 0 ≤ k) (hc1 : k < 256) (hr : n ≤ 4) (hd0 : cy k = 6) : mPorts_Said m w c sl b n k := by
  unfold mPorts_Said
  have H := Lib.hid hts
  clear hts
  obtain ⟨⟨hy0, hy1⟩, ⟨hz0, hz1⟩, ⟨hx0, hx3⟩, ⟨hq0, hq1⟩, ⟨hp0, hp1⟩⟩ := code_bd hc0 hc1
  obtain ⟨l, hm⟩ : ∃ l, mPorts k = l := ⟨_, rfl⟩
  have HL := Lib.hid hm
  simp [mPorts, *] at hm
  subst hm
  go_enter Tryz.func163, Tryz.ntmps163
  go_wp2_with (first | (go_at_call 159; refine Calls.mono (read_ov (by assumption) _ _ _ _ _) ?_; rintro e W ⟨rfl, w1, hx1, hb1, rfl⟩) | (go_at_call 160; refine Calls.mono (write_ov (by assumption) _ _ _ _ _) ?_; rintro e W ⟨rfl, w1, hx1, hb1, rfl⟩) | (go_at_call 155; refine Calls.mono (wait_ov (by assumption) _ _ _ _ _) ?_; rintro e W ⟨rfl, w1, hx1, hb1, rfl⟩) | (go_at_call 154; refine Calls.mono (work_ov (by assumption) _ _ _ _) ?_; rintro e W ⟨rfl, w1, hx1, hb1, rfl⟩) | (go_at_call 153; refine Calls.mono (word_any (by assumption) H.out _ _ _ _ (by omega)) ?_; rintro e W ⟨rfl, w1, hx1, hb1, rfl⟩) | (go_at_call 152; refine Calls.mono (more_v1 (by assumption) H.out _ _ _ _ _ _ _ ?_ ?_ ?_) ?_; (· rfl); (· rfl); (· omega); rintro e W ⟨rfl, w1, hx1, hb1, rfl⟩) | (go_at_call 157; refine (my_any _ _ hc0 hc1).mono ?_; rintro e W ⟨rfl, rfl⟩))
  rw [HL.out]
  go_ret
  exact ⟨ret_sl (by first | rfl | (simp only [List.length_append, List.length_cons, List.length_nil]; omega)), fin (by assumption) (by repeat (first | exact Ext.refl _ | assumption | refine Ext.trans ?_ (by assumption))) (by first | rfl | exact (app_nil _ _).symm | exact app_app _ _ _ _ | exact app_app3 _ _ _ _ _)⟩
set_option maxHeartbeats 1000000 in
theorem mPorts_7 {m : Mac} {w : World} (hb : Base m w) (hts : m.ts = 115) (c : Cp) (sl : Nat → Int) (b : Bd) (n : Nat) (k : Int) (hc0 : 0 ≤ k) (hc1 : k < 256) (hr : n ≤ 4) (hd0 : cy k = 7) : mPorts_Said m w c sl b n k := by
  unfold mPorts_Said
  have H := Lib.hid hts
  clear hts
  obtain ⟨⟨hy0, hy1⟩, ⟨hz0, hz1⟩, ⟨hx0, hx3⟩, ⟨hq0, hq1⟩, ⟨hp0, hp1⟩⟩ := code_bd hc0 hc1
  obtain ⟨l, hm⟩ : ∃ l, mPorts k = l := ⟨_, rfl⟩
  have HL := Lib.hid hm
  simp [mPorts, *] at hm
  subst hm
  go_enter Tryz.func163, Tryz.ntmps163
  go_wp2_with (first | (go_at_call 159; refine Calls.mono (read_ov (by assumption) _ _ _ _ _) ?_; rintro e W ⟨rfl, w1, hx1, hb1, rfl⟩) | (go_at_call 160; refine Calls.mono (write_ov (by assumption) _ _ _ _ _) ?_; rintro e W ⟨rfl, w1, hx1, hb1, rfl⟩) | (go_at_call 155; refine Calls.mono (wait_ov (by assumption) _ _ _ _ _) ?_; rintro e W ⟨rfl, w1, hx1, hb1, rfl⟩) | (go_at_call 154; refine Calls.mono (work_ov (by assumption) _ _ _ _) ?_; rintro e W ⟨rfl, w1, hx1, hb1, rfl⟩) | (go_at_call 153; refine Calls.mono (word_any (by assumption) H.out _ _ _ _ (by omega)) ?_; rintro e W ⟨rfl, w1, hx1, hb1, rfl⟩) | (go_at_call 152; refine Calls.mono (more_v1 (by assumption) H.out _ _ _ _ _ _ _ ?_ ?_ ?_) ?_; (· rfl); (· rfl); (· omega); rintro e W ⟨rfl, w1, hx1, hb1, rfl⟩) | (go_at_call 157; refine (my_any _ _ hc0 hc1).mono ?_; rintro e W ⟨rfl, rfl⟩))
  rw [HL.out]
  go_ret
  exact ⟨ret_sl (by first | rfl | (simp only [List.length_append, List.length_cons, List.length_nil]; omega)), fin (by assumption) (by repeat (first | exact Ext.refl _ | assumption | refine Ext.trans ?_ (by assumption))) (by first | rfl | exact (app_nil _ _).symm | exact app_app _ _ _ _ | exact app_app3 _ _ _ _ _)⟩
set_option maxHeartbeats 8000000 in
theorem mPorts_any {m : Mac} {w : World} (hb : Base m w) (hts : m.ts = 115) (c : Cp) (sl : Nat → Int) (b : Bd) (n : Nat) (k : Int) (hc0 : 0 ≤ k) (hc1 : k < 256) (hr : n ≤ 4) : Calls Tryz.prog 163 #[.slice (some ⟨m.s, 0, none⟩) n 16, .int .u8 k] (mk w m c sl b) fun e W => e = .returned (.slice (some ⟨m.s, 0, none⟩) (n + (mPorts k).length) 16) ∧ Lft w m c (app sl n (mPorts k)) b W := by
  obtain ⟨⟨hy0, hy1⟩, ⟨hz0, hz1⟩, ⟨hx0, hx3⟩, ⟨hq0, hq1⟩, ⟨hp0, hp1⟩⟩ := code_bd hc0 hc1
  rcases (by omega : cy k = 0 ∨ cy k = 1 ∨ cy k = 2 ∨ cy k = 3 ∨ cy k = 4 ∨ cy k = 5 ∨ cy k = 6 ∨ cy k = 7) with hd | hd | hd | hd | hd | hd | hd | hd
  · exact mPorts_0 hb hts c sl b n k hc0 hc1 hr (by first | assumption | omega)
  · exact mPorts_1 hb hts c sl b n k hc0 hc1 hr (by first | assumption | omega)
  · exact mPorts_2 hb hts c sl b n k hc0 hc1 hr (by first | assumption | omega)
  · exact mPorts_3 hb hts c sl b n k hc0 hc1 hr (by first | assumption | omega)
  · exact mPorts_4 hb hts c sl b n k hc0 hc1 hr (by first | assumption | omega)
  · exact mPorts_5 hb hts c sl b n k hc0 hc1 hr (by first | assumption | omega)
  · exact mPorts_6 hb hts c sl b n k hc0 hc1 hr (by first | assumption | omega)
  · exact mPorts_7 hb hts c sl b n k hc0 hc1 hr (by first | assumption | omega)

def mSpecials_Said (m : Mac) (w : World) (c : Cp) (sl : Nat → Int) (b : Bd) (n : Nat) (k : Int) : Prop := Calls Tryz.prog 167 #[.slice (some ⟨m.s, 0, none⟩) n 16, .int .u8 k] (mk w m c sl b) fun e W => e = .returned (.slice (some ⟨m.s, 0, none⟩) (n + (mSpecials k).length) 16) ∧ Lft w m c (app sl n (mSpecials k)) b W
set_option maxHeartbeats 1000000 in
theorem mSpecials_0 {m : Mac} {w : World} (hb : Base m w) (hts : m.ts = 115) (c : Cp) (sl : Nat → Int) (b : Bd) (n : Nat) (k : Int) (hc0 : 0 ≤ k) (hc1 : k < 256) (hr : n ≤ 4) (hd0 : cy k = 0) : mSpecials_Said m w c sl b n k := by
  unfold mSpecials_Said
  have H := Lib.hid hts
  clear hts
  obtain ⟨⟨hy0, hy1⟩, ⟨hz0, hz1⟩, ⟨hx0, hx3⟩, ⟨hq0, hq1⟩, ⟨hp0, hp1⟩⟩ := code_bd hc0 hc1
  obtain ⟨l, hm⟩ : ∃ l, mSpecials k = l := ⟨_, rfl⟩
  have HL := Lib.hid hm
  simp [mSpecials, *] at hm
  subst hm
  go_enter Tryz.func167, Tryz.ntmps167
  go_wp2_with (first | (go_at_call 159; refine Calls.mono (read_ov (by assumption) _ _ _ _ _) ?_; rintro e W ⟨rfl, w1, hx1, hb1, rfl⟩) | (go_at_call 160; refine Calls.mono (write_ov (by assumption) _ _ _ _ _) ?_; rintro e W ⟨rfl, w1, hx1, hb1, rfl⟩) | (go_at_call 155; refine Calls.mono (wait_ov (by assumption) _ _ _ _ _) ?_; rintro e W ⟨rfl, w1, hx1, hb1, rfl⟩) | (go_at_call 154; refine Calls.mono (work_ov (by assumption) _ _ _ _) ?_; rintro e W ⟨rfl, w1, hx1, hb1, rfl⟩) | (go_at_call 152; refine Calls.mono (more_v1 (by assumption) H.out _ _ _ _ _ _ _ ?_ ?_ ?_) ?_; (· rfl); (· rfl); (· omega); rintro e W ⟨rfl, w1, hx1, hb1, rfl⟩) | (go_at_call 157; refine (my_any _ _ hc0 hc1).mono ?_; rintro e W ⟨rfl, rfl⟩))
  rw [HL.out]
  go_ret
  exact ⟨ret_sl (by first | rfl | (simp only [List.length_append, List.length_cons, List.length_nil]; omega)), fin (by assumption) (by repeat (first | exact Ext.refl _ | assumption | refine Ext.trans ?_ (by assumption))) (by first | rfl | exact (app_nil _ _).symm | exact app_app _ _ _ _ | exact app_app3 _ _ _ _ _)⟩
set_option maxHeartbeats 1000000 in
theorem mSpecials_1 {m : Mac} {w : World} (hb : Base m w) (hts : m.ts = 115) (c : Cp) (sl : Nat → Int) (b : Bd) (n : Nat) (k : Int) (hc0 : 0 ≤ k) (hc1 : k < 256) (hr : n ≤ 4) (hd0 : cy k = 1) : mSpecials_Said m w c sl b n k := by
  unfold mSpecials_Said
  have H := Lib.hid hts
  clear hts
  obtain ⟨⟨hy0, hy1⟩, ⟨hz0, hz1⟩, ⟨hx0, hx3⟩, ⟨hq0, hq1⟩, ⟨hp0, hp1⟩⟩ := code_bd hc0 hc1
  obtain ⟨l, hm⟩ : ∃ l, mSpecials k = l := ⟨_, rfl⟩
  have HL := Lib.hid hm
  simp [mSpecials, *] at hm
  subst hm
  go_enter Tryz.func167, Tryz.ntmps167
  go_wp2_with (first | (go_at_call 159; refine Calls.mono (read_ov (by assumption) _ _ _ _ _) ?_; rintro e W ⟨rfl, w1, hx1, hb1, rfl⟩) | (go_at_call 160; refine Calls.mono (write_ov (by assumption) _ _ _ _ _) ?_; rintro e W ⟨rfl, w1, hx1, hb1, rfl⟩) | (go_at_call 155; refine Calls.mono (wait_ov (by assumption) _ _ _ _ _) ?_; rintro e W ⟨rfl, w1, hx1, hb1, rfl⟩) | (go_at_call 154; refine Calls.mono (work_ov (by assumption) _ _ _ _) ?_; rintro e W ⟨rfl, w1, hx1, hb1, rfl⟩) | (go_at_call 152; refine Calls.mono (more_v1 (by assumption) H.out _ _ _ _ _ _ _ ?_ ?_ ?_) ?_; (· rfl); (· rfl); (· omega); rintro e W ⟨rfl, w1, hx1, hb1, rfl⟩) | (go_at_call 157; refine (my_any _ _ hc0 hc1).mono ?_; rintro e W ⟨rfl, rfl⟩))
  rw [HL.out]
  go_ret
  exact ⟨ret_sl (by first | rfl | (simp only [List.length_append, List.length_cons, List.length_nil]; omega)), fin (by assumption) (by repeat (first | exact Ext.refl _ | assumption | refine Ext.trans ?_ (by assumption))) (by first | rfl | exact (app_nil _ _).symm | exact app_app _ _ _ _ | exact app_app3 _ _ _ _ _)⟩
set_option maxHeartbeats 1000000 in
theorem mSpecials_2 {m : Mac} {w : World} (hb : Base m w) (hts : m.ts = 115) (c : Cp) (sl : Nat → Int) (b : Bd) (n : Nat) (k : Int) (hc0 : 0 ≤ k) (hc1 : k < 256) (hr : n ≤ 4) (hd0 : cy k = 2) : mSpecials_Said m w c sl b n k := by
  unfold mSpecials_Said
  have H := Lib.hid hts
  clear hts
  obtain ⟨⟨hy0, hy1⟩, ⟨hz0, hz1⟩, ⟨hx0, hx3⟩, ⟨hq0, hq1⟩, ⟨hp0, hp1⟩⟩ := code_bd hc0 hc1
  obtain ⟨l, hm⟩ : ∃ l, mSpecials k = l := ⟨_, rfl⟩
  have HL := Lib.hid hm
  simp [mSpecials, *] at hm
  subst hm
  go_enter Tryz.func167, Tryz.ntmps167
  go_wp2_with (first | (go_at_call 159; refine Calls.mono (read_ov (by assumption) _ _ _ _ _) ?_; rintro e W ⟨rfl, w1, hx1, hb1, rfl⟩) | (go_at_call 160; refine Calls.mono (write_ov (by assumption) _ _ _ _ _) ?_; rintro e W ⟨rfl, w1, hx1, hb1, rfl⟩) | (go_at_call 155; refine Calls.mono (wait_ov (by assumption) _ _ _ _ _) ?_; rintro e W ⟨rfl, w1, hx1, hb1, rfl⟩) | (go_at_call 154; refine Calls.mono (work_ov (by assumption) _ _ _ _) ?_; rintro e W ⟨rfl, w1, hx1, hb1, rfl⟩) | (go_at_call 152; refine Calls.mono (more_v1 (by assumption) H.out _ _ _ _ _ _ _ ?_ ?_ ?_) ?_; (· rfl); (· rfl); (· omega); rintro e W ⟨rfl, w1, hx1, hb1, rfl⟩) | (go_at_call 157; refine (my_any _ _ hc0 hc1).mono ?_; rintro e W ⟨rfl, rfl⟩))
  rw [HL.out]
  go_ret
  exact ⟨ret_sl (by first | rfl | (simp only [List.length_append, List.length_cons, List.length_nil]; omega)), fin (by assumption) (by repeat (first | exact Ext.refl _ | assumption | refine Ext.trans ?_ (by assumption))) (by first | rfl | exact (app_nil _ _).symm | exact app_app _ _ _ _ | exact app_app3 _ _ _ _ _)⟩
set_option maxHeartbeats 1000000 in
theorem mSpecials_3 {m : Mac} {w : World} (hb : Base m w) (hts : m.ts = 115) (c : Cp) (sl : Nat → Int) (b : Bd) (n : Nat) (k : Int) (hc0 : 0 ≤ k) (hc1 : k < 256) (hr : n ≤ 4) (hd0 : cy k = 3) : mSpecials_Said m w c sl b n k := by
  unfold mSpecials_Said
  have H := Lib.hid hts
  clear hts
  obtain ⟨⟨hy0, hy1⟩, ⟨hz0, hz1⟩, ⟨hx0, hx3⟩, ⟨hq0, hq1⟩, ⟨hp0, hp1⟩⟩ := code_bd hc0 hc1
  obtain ⟨l, hm⟩ : ∃ l, mSpecials k = l := ⟨_, rfl⟩
  have HL := Lib.hid hm
  simp [mSpecials, *] at hm
  subst hm
  go_enter Tryz.func167, Tryz.ntmps167
  go_wp2_with (first | (go_at_call 159; refine Calls.mono (read_ov (by assumption) _ _ _ _ _) ?_; rintro e W ⟨rfl, w1, hx1, hb1, rfl⟩) | (go_at_call 160; refine Calls.mono (write_ov (by assumption) _ _ _ _ _) ?_; rintro e W ⟨rfl, w1, hx1, hb1, rfl⟩) | (go_at_call 155; refine Calls.mono (wait_ov (by assumption) _ _ _ _ _) ?_; rintro e W ⟨rfl, w1, hx1, hb1, rfl⟩) | (go_at_call 154; refine Calls.mono (work_ov (by assumption) _ _ _ _) ?_; rintro e W ⟨rfl, w1, hx1, hb1, rfl⟩) | (go_at_call 152; refine Calls.mono (more_v1 (by assumption) H.out _ _ _ _ _ _ _ ?_ ?_ ?_) ?_; (· rfl); (· rfl); (· omega); rintro e W ⟨rfl, w1, hx1, hb1, rfl⟩) | (go_at_call 157; refine (my_any _ _ hc0 hc1).mono ?_; rintro e W ⟨rfl, rfl⟩))
  rw [HL.out]
  go_ret
  exact ⟨ret_sl (by first | rfl | (simp only [List.length_append, List.length_cons, List.length_nil]; omega)), fin (by assumption) (by repeat (first | exact Ext.refl _ | assumption | refine Ext.trans ?_ (by assumption))) (by first | rfl | exact (app_nil _ _).symm | exact app_app _ _ _ _ | exact app_app3 _ _ _ _ _)⟩
set_option maxHeartbeats 1000000 in
theorem mSpecials_4 {m : Mac} {w : World} (hb : Base m w) (hts : m.ts = 115) (c : Cp) (sl : Nat → Int) (b : Bd) (n : Nat) (k : Int) (hc0 : 0 ≤ k) (hc1 : k < 256) (hr : n ≤ 4) (hd0 : cy k = 4) : mSpecials_Said m w c sl b n k := by
  unfold mSpecials_Said
  have H := Lib.hid hts
  clear hts
  obtain ⟨⟨hy0, hy1⟩, ⟨hz0, hz1⟩, ⟨hx0, hx3⟩, ⟨hq0, hq1⟩, ⟨hp0, hp1⟩⟩ := code_bd hc0 hc1
  obtain ⟨l, hm⟩ : ∃ l, mSpecials k = l := ⟨_, rfl⟩
  have HL := Lib.hid hm
  simp [mSpecials, *] at hm
  subst hm
  go_enter Tryz.func167, Tryz.ntmps167
  go_wp2_with (first | (go_at_call 159; refine Calls.mono (read_ov (by assumption) _ _ _ _ _) ?_; rintro e W ⟨rfl, w1, hx1, hb1, rfl⟩) | (go_at_call 160; refine Calls.mono (write_ov (by assumption) _ _ _ _ _) ?_; rintro e W ⟨rfl, w1, hx1, hb1, rfl⟩) | (go_at_call 155; refine Calls.mono (wait_ov (by assumption) _ _ _ _ _) ?_; rintro e W ⟨rfl, w1, hx1, hb1, rfl⟩) | (go_at_call 154; refine Calls.mono (work_ov (by assumption) _ _ _ _) ?_; rintro e W ⟨rfl, w1, hx1, hb1, rfl⟩) | (go_at_call 152; refine Calls.mono (more_v1 (by assumption) H.out _ _ _ _ _ _ _ ?_ ?_ ?_) ?_; (· rfl); (· rfl); (· omega); rintro e W ⟨rfl, w1, hx1, hb1, rfl⟩) | (go_at_call 157; refine (my_any _ _ hc0 hc1).mono ?_; rintro e W ⟨rfl, rfl⟩))
  rw [HL.out]
  go_ret
  exact ⟨ret_sl (by first | rfl | (simp only [List.length_append, List.length_cons, List.length_nil]; omega)), fin (by assumption) (by repeat (first | exact Ext.refl _ | assumption | refine Ext.trans ?_ (by assumption))) (by first | rfl | exact (app_nil _ _).symm | exact app_app _ _ _ _ | exact app_app3 _ _ _ _ _)⟩
set_option maxHeartbeats 1000000 in
theorem mSpecials_5 {m : Mac} {w : World} (hb : Base m w) (hts : m.ts = 115) (c : Cp) (sl : Nat → Int) (b : Bd) (n : Nat) (k : Int) (hc0 : 0 ≤ k) (hc1 : k < 256) (hr : n ≤ 4) (hd0 : cy k = 5) : mSpecials_Said m w c sl b n k := by
  unfold mSpecials_Said
  have H := Lib.hid hts
  clear hts
  obtain ⟨⟨hy0, hy1⟩, ⟨hz0, hz1⟩, ⟨hx0, hx3⟩, ⟨hq0, hq1⟩, ⟨hp0, hp1⟩⟩ := code_bd hc0 hc1
  obtain ⟨l, hm⟩ : ∃ l, mSpecials k = l := ⟨_, rfl⟩
  have HL := Lib.hid hm
  simp [mSpecials, *] at hm
  subst hm
  go_enter Tryz.func167, Tryz.ntmps167
  go_wp2_with (first | (go_at_call 159; refine Calls.mono (read_ov (by assumption) _ _ _ _ _) ?_; rintro e W ⟨rfl, w1, hx1, hb1, rfl⟩) | (go_at_call 160; refine Calls.mono (write_ov (by assumption) _ _ _ _ _) ?_; rintro e W ⟨rfl, w1, hx1, hb1, rfl⟩) | (go_at_call 155; refine Calls.mono (wait_ov (by assumption) _ _ _ _ _) ?_; rintro e W ⟨rfl, w1, hx1, hb1, rfl⟩) | (go_at_call 154; refine Calls.mono (work_ov (by assumption) _ _ _ _) ?_; rintro e W ⟨rfl, w1, hx1, hb1, rfl⟩) | (go_at_call 152; refine Calls.mono (more_v1 (by assumption) H.out _ _ _ _ _ _ _ ?_ ?_ ?_) ?_; (· rfl); (· rfl); (· omega); rintro e W ⟨rfl, w1, hx1, hb1, rfl⟩) | (go_at_call 157; refine (my_any _ _ hc0 hc1).mono ?_; rintro e W ⟨rfl, rfl⟩))
  rw [HL.out]
  go_ret
  exact ⟨ret_sl (by first | rfl | (simp only [List.length_append, List.length_cons, List.length_nil]; omega)), fin (by assumption) (by repeat (first | exact Ext.refl _ | assumption | refine Ext.trans ?_ (by assumption))) (by first | rfl | exact (app_nil _ _).symm | exact app_app _ _ _ _ | exact app_app3 _ _ _ _ _)⟩
set_option maxHeartbeats 1000000 in
theorem mSpecials_6 {m : Mac} {w : World} (hb : Base m w) (hts : m.ts = 115) (c : Cp) (sl : Nat → Int) (b : Bd) (n : Nat) (k : Int) (hc0 : 0 ≤ k) (hc1 : k < 256) (hr : n ≤ 4) (hd0 : cy k = 6) : mSpecials_Said m w c sl b n k := by
  unfold mSpecials_Said
  have H := Lib.hid hts
  clear hts
  obtain ⟨⟨hy0, hy1⟩, ⟨hz0, hz1⟩, ⟨hx0, hx3⟩, ⟨hq0, hq1⟩, ⟨hp0, hp1⟩⟩ := code_bd hc0 hc1
  obtain ⟨l, hm⟩ : ∃ l, mSpecials k = l := ⟨_, rfl⟩
  have HL := Lib.hid hm
  simp [mSpecials, *] at hm
  subst hm
  go_enter Tryz.func167, Tryz.ntmps167
  go_wp2_with (first | (go_at_call 159; refine Calls.mono (read_ov (by assumption) _ _ _ _ _) ?_; rintro e W ⟨rfl, w1, hx1, hb1, rfl⟩) | (go_at_call 160; refine Calls.mono (write_ov (by assumption) _ _ _ _ _) ?_; rintro e W ⟨rfl, w1, hx1, hb1, rfl⟩) | (go_at_call 155; refine Calls.mono (wait_ov (by assumption) _ _ _ _ _) ?_; rintro e W ⟨rfl, w1, hx1, hb1, rfl⟩) | (go_at_call 154; refine Calls.mono (work_ov (by assumption) _ _ _ _) ?_; rintro e W ⟨rfl, w1, hx1, hb1, rfl⟩) | (go_at_call 152; refine Calls.mono (more_v1 (by assumption) H.out _ _ _ _ _ _ _ ?_ ?_ ?_) ?_; (· rfl); (· rfl); (· omega); rintro e W ⟨rfl, w1, hx1, hb1, rfl⟩) | (go_at_call 157; refine (my_any _ _ hc0 hc1).mono ?_; rintro e W ⟨rfl, rfl⟩))
  rw [HL.out]
  go_ret
  exact ⟨ret_sl (by first | rfl | (simp only [List.length_append, List.length_cons, List.length_nil]; omega)), fin (by assumption) (by repeat (first | exact Ext.refl _ | assumption | refine Ext.trans ?_ (by assumption))) (by first | rfl | exact (app_nil _ _).symm | exact app_app _ _ _ _ | exact app_app3 _ _ _ _ _)⟩
set_option maxHeartbeats 1000000 in
theorem mSpecials_7 {m : Mac} {w : World} (hb : Base m w) (hts : m.ts = 115) (c : Cp) (sl : Nat → Int) (b : Bd) (n : Nat) (k : Int) (hc0 : 0 ≤ k) (hc1 : k < 256) (hr : n ≤ 4) (hd0 : cy k = 7) : mSpecials_Said m w c sl b n k := by
  unfold mSpecials_Said
  have H := Lib.hid hts
  clear hts
  obtain ⟨⟨hy0, hy1⟩, ⟨hz0, hz1⟩, ⟨hx0, hx3⟩, ⟨hq0, hq1⟩, ⟨hp0, hp1⟩⟩ := code_bd hc0 hc1
  obtain ⟨l, hm⟩ : ∃ l, mSpecials k = l := ⟨_, rfl⟩
  have HL := Lib.hid hm
  simp [mSpecials, *] at hm
  subst hm
  go_enter Tryz.func167, Tryz.ntmps167
  go_wp2_with (first | (go_at_call 159; refine Calls.mono (read_ov (by assumption) _ _ _ _ _) ?_; rintro e W ⟨rfl, w1, hx1, hb1, rfl⟩) | (go_at_call 160; refine Calls.mono (write_ov (by assumption) _ _ _ _ _) ?_; rintro e W ⟨rfl, w1, hx1, hb1, rfl⟩) | (go_at_call 155; refine Calls.mono (wait_ov (by assumption) _ _ _ _ _) ?_; rintro e W ⟨rfl, w1, hx1, hb1, rfl⟩) | (go_at_call 154; refine Calls.mono (work_ov (by assumption) _ _ _ _) ?_; rintro e W ⟨rfl, w1, hx1, hb1, rfl⟩) | (go_at_call 152; refine Calls.mono (more_v1 (by assumption) H.out _ _ _ _ _ _ _ ?_ ?_ ?_) ?_; (· rfl); (· rfl); (· omega); rintro e W ⟨rfl, w1, hx1, hb1, rfl⟩) | (go_at_call 157; refine (my_any _ _ hc0 hc1).mono ?_; rintro e W ⟨rfl, rfl⟩))
  rw [HL.out]
  go_ret
  exact ⟨ret_sl (by first | rfl | (simp only [List.length_append, List.length_cons, List.length_nil]; omega)), fin (by assumption) (by repeat (first | exact Ext.refl _ | assumption | refine Ext.trans ?_ (by assumption))) (by first | rfl | exact (app_nil _ _).symm | exact app_app _ _ _ _ | exact app_app3 _ _ _ _ _)⟩
set_option maxHeartbeats 8000000 in
theorem mSpecials_any {m : Mac} {w : World} (hb : Base m w) (hts : m.ts = 115) (c : Cp) (sl : Nat → Int) (b : Bd) (n : Nat) (k : Int) (hc0 : 0 ≤ k) (hc1 : k < 256) (hr : n ≤ 4) : Calls Tryz.prog 167 #[.slice (some ⟨m.s, 0, none⟩) n 16, .int .u8 k] (mk w m c sl b) fun e W => e = .returned (.slice (some ⟨m.s, 0, none⟩) (n + (mSpecials k).length) 16) ∧ Lft w m c (app sl n (mSpecials k)) b W := by
  obtain ⟨⟨hy0, hy1⟩, ⟨hz0, hz1⟩, ⟨hx0, hx3⟩, ⟨hq0, hq1⟩, ⟨hp0, hp1⟩⟩ := code_bd hc0 hc1
  rcases (by omega : cy k = 0 ∨ cy k = 1 ∨ cy k = 2 ∨ cy k = 3 ∨ cy k = 4 ∨ cy k = 5 ∨ cy k = 6 ∨ cy k = 7) with hd | hd | hd | hd | hd | hd | hd | hd
  · exact mSpecials_0 hb hts c sl b n k hc0 hc1 hr (by first | assumption | omega)
  · exact mSpecials_1 hb hts c sl b n k hc0 hc1 hr (by first | assumption | omega)
  · exact mSpecials_2 hb hts c sl b n k hc0 hc1 hr (by first | assumption | omega)
  · exact mSpecials_3 hb hts c sl b n k hc0 hc1 hr (by first | assumption | omega)
  · exact mSpecials_4 hb hts c sl b n k hc0 hc1 hr (by first | assumption | omega)
  · exact mSpecials_5 hb hts c sl b n k hc0 hc1 hr (by first | assumption | omega)
  · exact mSpecials_6 hb hts c sl b n k hc0 hc1 hr (by first | assumption | omega)
  · exact mSpecials_7 hb hts c sl b n k hc0 hc1 hr (by first | assumption | omega)

def mBlocks_Said (m : Mac) (w : World) (c : Cp) (sl : Nat → Int) (b : Bd) (n : Nat) (k : Int) : Prop := Calls Tryz.prog 166 #[.slice (some ⟨m.s, 0, none⟩) n 16, .int .u8 k] (mk w m c sl b) fun e W => e = .returned (.slice (some ⟨m.s, 0, none⟩) (n + (mBlocks k).length) 16) ∧ Lft w m c (app sl n (mBlocks k)) b W
set_option maxHeartbeats 1000000 in
theorem mBlocks_0 {m : Mac} {w : World} (hb : Base m w) (hts : m.ts = 115) (c : Cp) (sl : Nat → Int) (b : Bd) (n : Nat) (k : Int) (hc0 : 0 ≤ k) (hc1 : k < 256) (hy4 : 4 ≤ cy k) (hz3 : cz k ≤ 3) (hr : n ≤ 4) (hd0 : cz k = 0) (hd1 : cy k = 4) : mBlocks_Said m w c sl b n k := by
  unfold mBlocks_Said
  have H := Lib.hid hts
  clear hts
  obtain ⟨⟨hy0, hy1⟩, ⟨hz0, hz1⟩, ⟨hx0, hx3⟩, ⟨hq0, hq1⟩, ⟨hp0, hp1⟩⟩ := code_bd hc0 hc1
  obtain ⟨l, hm⟩ : ∃ l, mBlocks k = l := ⟨_, rfl⟩
  have HL := Lib.hid hm
  simp [mBlocks, *] at hm
  subst hm
  go_enter Tryz.func166, Tryz.ntmps166
  go_wp2_with (first | (go_at_call 159; refine Calls.mono (read_ov (by assumption) _ _ _ _ _) ?_; rintro e W ⟨rfl, w1, hx1, hb1, rfl⟩) | (go_at_call 160; refine Calls.mono (write_ov (by assumption) _ _ _ _ _) ?_; rintro e W ⟨rfl, w1, hx1, hb1, rfl⟩) | (go_at_call 155; refine Calls.mono (wait_ov (by assumption) _ _ _ _ _) ?_; rintro e W ⟨rfl, w1, hx1, hb1, rfl⟩) | (go_at_call 154; refine Calls.mono (work_ov (by assumption) _ _ _ _) ?_; rintro e W ⟨rfl, w1, hx1, hb1, rfl⟩) | (go_at_call 161; refine Calls.mono (unless_ov (by assumption) _ _ _ _) ?_; rintro e W ⟨rfl, w1, hx1, hb1, rfl⟩) | (go_at_call 152; refine Calls.mono (more_v1 (by assumption) H.out _ _ _ _ _ _ _ ?_ ?_ ?_) ?_; (· rfl); (· rfl); (· omega); rintro e W ⟨rfl, w1, hx1, hb1, rfl⟩) | (go_at_call 157; refine (my_any _ _ hc0 hc1).mono ?_; rintro e W ⟨rfl, rfl⟩) | (go_at_call 149; refine (mz_any _ _ hc0 hc1).mono ?_; rintro e W ⟨rfl, rfl⟩))
  rw [HL.out]
  go_ret
  exact ⟨ret_sl (by first | rfl | (simp only [List.length_append, List.length_cons, List.length_nil]; omega)), fin (by assumption) (by repeat (first | exact Ext.refl _ | assumption | refine Ext.trans ?_ (by assumption))) (by first | rfl | exact (app_nil _ _).symm | exact app_app _ _ _ _ | exact app_app3 _ _ _ _ _)⟩
set_option maxHeartbeats 1000000 in
theorem mBlocks_1 {m : Mac} {w : World} (hb : Base m w) (hts : m.ts = 115) (c : Cp) (sl : Nat → Int) (b : Bd) (n : Nat) (k : Int) (hc0 : 0 ≤ k) (hc1 : k < 256) (hy4 : 4 ≤ cy k) (hz3 : cz k ≤ 3) (hr : n ≤ 4) (hd0 : cz k = 0) (hd1 : cy k = 5) : mBlocks_Said m w c sl b n k := by
  unfold mBlocks_Said
  have H := Lib.hid hts
  clear hts
  obtain ⟨⟨hy0, hy1⟩, ⟨hz0, hz1⟩, ⟨hx0, hx3⟩, ⟨hq0, hq1⟩, ⟨hp0, hp1⟩⟩ := code_bd hc0 hc1
  obtain ⟨l, hm⟩ : ∃ l, mBlocks k = l := ⟨_, rfl⟩
  have HL := Lib.hid hm
  simp [mBlocks, *] at hm
  subst hm
  go_enter Tryz.func166, Tryz.ntmps166
  go_wp2_with (first | (go_at_call 159; refine Calls.mono (read_ov (by assumption) _ _ _ _ _) ?_; rintro e W ⟨rfl, w1, hx1, hb1, rfl⟩) | (go_at_call 160; refine Calls.mono (write_ov (by assumption) _ _ _ _ _) ?_; rintro e W ⟨rfl, w1, hx1, hb1, rfl⟩) | (go_at_call 155; refine Calls.mono (wait_ov (by assumption) _ _ _ _ _) ?_; rintro e W ⟨rfl, w1, hx1, hb1, rfl⟩) | (go_at_call 154; refine Calls.mono (work_ov (by assumption) _ _ _ _) ?_; rintro e W ⟨rfl, w1, hx1, hb1, rfl⟩) | (go_at_call 161; refine Calls.mono (unless_ov (by assumption) _ _ _ _) ?_; rintro e W ⟨rfl, w1, hx1, hb1, rfl⟩) | (go_at_call 152; refine Calls.mono (more_v1 (by assumption) H.out _ _ _ _ _ _ _ ?_ ?_ ?_) ?_; (· rfl); (· rfl); (· omega); rintro e W ⟨rfl, w1, hx1, hb1, rfl⟩) | (go_at_call 157; refine (my_any _ _ hc0 hc1).mono ?_; rintro e W ⟨rfl, rfl⟩) | (go_at_call 149; refine (mz_any _ _ hc0 hc1).mono ?_; rintro e W ⟨rfl, rfl⟩))
  rw [HL.out]
  go_ret
  exact ⟨ret_sl (by first | rfl | (simp only [List.length_append, List.length_cons, List.length_nil]; omega)), fin (by assumption) (by repeat (first | exact Ext.refl _ | assumption | refine Ext.trans ?_ (by assumption))) (by first | rfl | exact (app_nil _ _).symm | exact app_app _ _ _ _ | exact app_app3 _ _ _ _ _)⟩
set_option maxHeartbeats 1000000 in
theorem mBlocks_2 {m : Mac} {w : World} (hb : Base m w) (hts : m.ts = 115) (c : Cp) (sl : Nat → Int) (b : Bd) (n : Nat) (k : Int) (hc0 : 0 ≤ k) (hc1 : k < 256) (hy4 : 4 ≤ cy k) (hz3 : cz k ≤ 3) (hr : n ≤ 4) (hd0 : cz k = 0) (hd1 : cy k = 6) : mBlocks_Said m w c sl b n k := by
  unfold mBlocks_Said
  have H := Lib.hid hts
  clear hts
  obtain ⟨⟨hy0, hy1⟩, ⟨hz0, hz1⟩, ⟨hx0, hx3⟩, ⟨hq0, hq1⟩, ⟨hp0, hp1⟩⟩ := code_bd hc0 hc1
  obtain ⟨l, hm⟩ : ∃ l, mBlocks k = l := ⟨_, rfl⟩
  have HL := Lib.hid hm
  simp [mBlocks, *] at hm
  subst hm
  go_enter Tryz.func166, Tryz.ntmps166
  go_wp2_with (first | (go_at_call 159; refine Calls.mono (read_ov (by assumption) _ _ _ _ _) ?_; rintro e W ⟨rfl, w1, hx1, hb1, rfl⟩) | (go_at_call 160; refine Calls.mono (write_ov (by assumption) _ _ _ _ _) ?_; rintro e W ⟨rfl, w1, hx1, hb1, rfl⟩) | (go_at_call 155; refine Calls.mono (wait_ov (by assumption) _ _ _ _ _) ?_; rintro e W ⟨rfl, w1, hx1, hb1, rfl⟩) | (go_at_call 154; refine Calls.mono (work_ov (by assumption) _ _ _ _) ?_; rintro e W ⟨rfl, w1, hx1, hb1, rfl⟩) | (go_at_call 161; refine Calls.mono (unless_ov (by assumption) _ _ _ _) ?_; rintro e W ⟨rfl, w1, hx1, hb1, rfl⟩) | (go_at_call 152; refine Calls.mono (more_v1 (by assumption) H.out _ _ _ _ _ _ _ ?_ ?_ ?_) ?_; (· rfl); (· rfl); (· omega); rintro e W ⟨rfl, w1, hx1, hb1, rfl⟩) | (go_at_call 157; refine (my_any _ _ hc0 hc1).mono ?_; rintro e W ⟨rfl, rfl⟩) | (go_at_call 149; refine (mz_any _ _ hc0 hc1).mono ?_; rintro e W ⟨rfl, rfl⟩))
  rw [HL.out]
  go_ret
  exact ⟨ret_sl (by first | rfl | (simp only [List.length_append, List.length_cons, List.length_nil]; omega)), fin (by assumption) (by repeat (first | exact Ext.refl _ | assumption | refine Ext.trans ?_ (by assumption))) (by first | rfl | exact (app_nil _ _).symm | exact app_app _ _ _ _ | exact app_app3 _ _ _ _ _)⟩
set_option maxHeartbeats 1000000 in
theorem mBlocks_3 {m : Mac} {w : World} (hb : Base m w) (hts : m.ts = 115) (c : Cp) (sl : Nat → Int) (b : Bd) (n : Nat) (k : Int) (hc0 : 0 ≤ k) (hc1 : k < 256) (hy4 : 4 ≤ cy k) (hz3 : cz k ≤ 3) (hr : n ≤ 4) (hd0 : cz k = 0) (hd1 : cy k = 7) : mBlocks_Said m w c sl b n k := by
  unfold mBlocks_Said
  have H := Lib.hid hts
  clear hts
  obtain ⟨⟨hy0, hy1⟩, ⟨hz0, hz1⟩, ⟨hx0, hx3⟩, ⟨hq0, hq1⟩, ⟨hp0, hp1⟩⟩ := code_bd hc0 hc1
  obtain ⟨l, hm⟩ : ∃ l, mBlocks k = l := ⟨_, rfl⟩
  have HL := Lib.hid hm
  simp [mBlocks, *] at hm
  subst hm
  go_enter Tryz.func166, Tryz.ntmps166
  go_wp2_with (first | (go_at_call 159; refine Calls.mono (read_ov (by assumption) _ _ _ _ _) ?_; rintro e W ⟨rfl, w1, hx1, hb1, rfl⟩) | (go_at_call 160; refine Calls.mono (write_ov (by assumption) _ _ _ _ _) ?_; rintro e W ⟨rfl, w1, hx1, hb1, rfl⟩) | (go_at_call 155; refine Calls.mono (wait_ov (by assumption) _ _ _ _ _) ?_; rintro e W ⟨rfl, w1, hx1, hb1, rfl⟩) | (go_at_call 154; refine Calls.mono (work_ov (by assumption) _ _ _ _) ?_; rintro e W ⟨rfl, w1, hx1, hb1, rfl⟩) | (go_at_call 161; refine Calls.mono (unless_ov (by assumption) _ _ _ _) ?_; rintro e W ⟨rfl, w1, hx1, hb1, rfl⟩) | (go_at_call 152; refine Calls.mono (more_v1 (by assumption) H.out _ _ _ _ _ _ _ ?_ ?_ ?_) ?_; (· rfl); (· rfl); (· omega); rintro e W ⟨rfl, w1, hx1, hb1, rfl⟩) | (go_at_call 157; refine (my_any _ _ hc0 hc1).mono ?_; rintro e W ⟨rfl, rfl⟩) | (go_at_call 149; refine (mz_any _ _ hc0 hc1).mono ?_; rintro e W ⟨rfl, rfl⟩))
  rw [HL.out]
  go_ret
  exact ⟨ret_sl (by first | rfl | (simp only [List.length_append, List.length_cons, List.length_nil]; omega)), fin (by assumption) (by repeat (first | exact Ext.refl _ | assumption | refine Ext.trans ?_ (by assumption))) (by first | rfl | exact (app_nil _ _).symm | exact app_app _ _ _ _ | exact app_app3 _ _ _ _ _)⟩
set_option maxHeartbeats 1000000 in
theorem mBlocks_4 {m : Mac} {w : World} (hb : Base m w) (hts : m.ts = 115) (c : Cp) (sl : Nat → Int) (b : Bd) (n : Nat) (k : Int) (hc0 : 0 ≤ k) (hc1 : k < 256) (hy4 : 4 ≤ cy k) (hz3 : cz k ≤ 3) (hr : n ≤ 4) (hd0 : cz k = 1) (hd1 : cy k = 4) : mBlocks_Said m w c sl b n k := by
  unfold mBlocks_Said
  have H := Lib.hid hts
  clear hts
  obtain ⟨⟨hy0, hy1⟩, ⟨hz0, hz1⟩, ⟨hx0, hx3⟩, ⟨hq0, hq1⟩, ⟨hp0, hp1⟩⟩ := code_bd hc0 hc1
  obtain ⟨l, hm⟩ : ∃ l, mBlocks k = l := ⟨_, rfl⟩
  have HL := Lib.hid hm
  simp [mBlocks, *] at hm
  subst hm
  go_enter Tryz.func166, Tryz.ntmps166
  go_wp2_with (first | (go_at_call 159; refine Calls.mono (read_ov (by assumption) _ _ _ _ _) ?_; rintro e W ⟨rfl, w1, hx1, hb1, rfl⟩) | (go_at_call 160; refine Calls.mono (write_ov (by assumption) _ _ _ _ _) ?_; rintro e W ⟨rfl, w1, hx1, hb1, rfl⟩) | (go_at_call 155; refine Calls.mono (wait_ov (by assumption) _ _ _ _ _) ?_; rintro e W ⟨rfl, w1, hx1, hb1, rfl⟩) | (go_at_call 154; refine Calls.mono (work_ov (by assumption) _ _ _ _) ?_; rintro e W ⟨rfl, w1, hx1, hb1, rfl⟩) | (go_at_call 161; refine Calls.mono (unless_ov (by assumption) _ _ _ _) ?_; rintro e W ⟨rfl, w1, hx1, hb1, rfl⟩) | (go_at_call 152; refine Calls.mono (more_v1 (by assumption) H.out _ _ _ _ _ _ _ ?_ ?_ ?_) ?_; (· rfl); (· rfl); (· omega); rintro e W ⟨rfl, w1, hx1, hb1, rfl⟩) | (go_at_call 157; refine (my_any _ _ hc0 hc1).mono ?_; rintro e W ⟨rfl, rfl⟩) | (go_at_call 149; refine (mz_any _ _ hc0 hc1).mono ?_; rintro e W ⟨rfl, rfl⟩))
  rw [HL.out]
  go_ret
  exact ⟨ret_sl (by first | rfl | (simp only [List.length_append, List.length_cons, List.length_nil]; omega)), fin (by assumption) (by repeat (first | exact Ext.refl _ | assumption | refine Ext.trans ?_ (by assumption))) (by first | rfl | exact (app_nil _ _).symm | exact app_app _ _ _ _ | exact app_app3 _ _ _ _ _)⟩
set_option maxHeartbeats 1000000 in
theorem mBlocks_5 {m : Mac} {w : World} (hb : Base m w) (hts : m.ts = 115) (c : Cp) (sl : Nat → Int) (b : Bd) (n : Nat) (k : Int) (hc0 : 0 ≤ k) (hc1 : k < 256) (hy4 : 4 ≤ cy k) (hz3 : cz k ≤ 3) (hr : n ≤ 4) (hd0 : cz k = 1) (hd1 : cy k = 5) : mBlocks_Said m w c sl b n k := by
  unfold mBlocks_Said
  have H := Lib.hid hts
  clear hts
  obtain ⟨⟨hy0, hy1⟩, ⟨hz0, hz1⟩, ⟨hx0, hx3⟩, ⟨hq0, hq1⟩, ⟨hp0, hp1⟩⟩ := code_bd hc0 hc1
  obtain ⟨l, hm⟩ : ∃ l, mBlocks k = l := ⟨_, rfl⟩
  have HL := Lib.hid hm
  simp [mBlocks, *] at hm
  subst hm
  go_enter Tryz.func166, Tryz.ntmps166
  go_wp2_with (first | (go_at_call 159; refine Calls.mono (read_ov (by assumption) _ _ _ _ _) ?_; rintro e W ⟨rfl, w1, hx1, hb1, rfl⟩) | (go_at_call 160; refine Calls.mono (write_ov (by assumption) _ _ _ _ _) ?_; rintro e W ⟨rfl, w1, hx1, hb1, rfl⟩) | (go_at_call 155; refine Calls.mono (wait_ov (by assumption) _ _ _ _ _) ?_; rintro e W ⟨rfl, w1, hx1, hb1, rfl⟩) | (go_at_call 154; refine Calls.mono (work_ov (by assumption) _ _ _ _) ?_; rintro e W ⟨rfl, w1, hx1, hb1, rfl⟩) | (go_at_call 161; refine Calls.mono (unless_ov (by assumption) _ _ _ _) ?_; rintro e W ⟨rfl, w1, hx1, hb1, rfl⟩) | (go_at_call 152; refine Calls.mono (more_v1 (by assumption) H.out _ _ _ _ _ _ _ ?_ ?_ ?_) ?_; (· rfl); (· rfl); (· omega); rintro e W ⟨rfl, w1, hx1, hb1, rfl⟩) | (go_at_call 157; refine (my_any _ _ hc0 hc1).mono ?_; rintro e W ⟨rfl, rfl⟩) | (go_at_call 149; refine (mz_any _ _ hc0 hc1).mono ?_; rintro e W ⟨rfl, rfl⟩))
  rw [HL.out]
  go_ret
  exact ⟨ret_sl (by first | rfl | (simp only [List.length_append, List.length_cons, List.length_nil]; omega)), fin (by assumption) (by repeat (first | exact Ext.refl _ | assumption | refine Ext.trans ?_ (by assumption))) (by first | rfl | exact (app_nil _ _).symm | exact app_app _ _ _ _ | exact app_app3 _ _ _ _ _)⟩
set_option maxHeartbeats 1000000 in
theorem mBlocks_6 {m : Mac} {w : World} (hb : Base m w) (hts : m.ts = 115) (c : Cp) (sl : Nat → Int) (b : Bd) (n : Nat) (k : Int) (hc0 : 0 ≤ k) (hc1 : k < 256) (hy4 : 4 ≤ cy k) (hz3 : cz k ≤ 3) (hr : n ≤ 4) (hd0 : cz k = 1) (hd1 : cy k = 6) : mBlocks_Said m w c sl b n k := by
  unfold mBlocks_Said
  have H := Lib.hid hts
  clear hts
  obtain ⟨⟨hy0, hy1⟩, ⟨hz0, hz1⟩, ⟨hx0, hx3⟩, ⟨hq0, hq1⟩, ⟨hp0, hp1⟩⟩ := code_bd hc0 hc1
  obtain ⟨l, hm⟩ : ∃ l, mBlocks k = l := ⟨_, rfl⟩
  have HL := Lib.hid hm
  simp [mBlocks, *] at hm
  subst hm
  go_enter Tryz.func166, Tryz.ntmps166
  go_wp2_with (first | (go_at_call 159; refine Calls.mono (read_ov (by assumption) _ _ _ _ _) ?_; rintro e W ⟨rfl, w1, hx1, hb1, rfl⟩) | (go_at_call 160; refine Calls.mono (write_ov (by assumption) _ _ _ _ _) ?_; rintro e W ⟨rfl, w1, hx1, hb1, rfl⟩) | (go_at_call 155; refine Calls.mono (wait_ov (by assumption) _ _ _ _ _) ?_; rintro e W ⟨rfl, w1, hx1, hb1, rfl⟩) | (go_at_call 154; refine Calls.mono (work_ov (by assumption) _ _ _ _) ?_; rintro e W ⟨rfl, w1, hx1, hb1, rfl⟩) | (go_at_call 161; refine Calls.mono (unless_ov (by assumption) _ _ _ _) ?_; rintro e W ⟨rfl, w1, hx1, hb1, rfl⟩) | (go_at_call 152; refine Calls.mono (more_v1 (by assumption) H.out _ _ _ _ _ _ _ ?_ ?_ ?_) ?_; (· rfl); (· rfl); (· omega); rintro e W ⟨rfl, w1, hx1, hb1, rfl⟩) | (go_at_call 157; refine (my_any _ _ hc0 hc1).mono ?_; rintro e W ⟨rfl, rfl⟩) | (go_at_call 149; refine (mz_any _ _ hc0 hc1).mono ?_; rintro e W ⟨rfl, rfl⟩))
  rw [HL.out]
  go_ret
  exact ⟨ret_sl (by first | rfl | (simp only [List.length_append, List.length_cons, List.length_nil]; omega)), fin (by assumption) (by repeat (first | exact Ext.refl _ | assumption | refine Ext.trans ?_ (by assumption))) (by first | rfl | exact (app_nil _ _).symm | exact app_app _ _ _ _ | exact app_app3 _ _ _ _ _)⟩
set_option maxHeartbeats 1000000 in
theorem mBlocks_7 {m : Mac} {w : World} (hb : Base m w) (hts : m.ts = 115) (c : Cp) (sl : Nat → Int) (b : Bd) (n : Nat) (k : Int) (hc0 : 0 ≤ k) (hc1 : k < 256) (hy4 : 4 ≤ cy k) (hz3 : cz k ≤ 3) (hr : n ≤ 4) (hd0 : cz k = 1) (hd1 : cy k = 7) : mBlocks_Said m w c sl b n k := by
  unfold mBlocks_Said
  have H := Lib.hid hts
  clear hts
  obtain ⟨⟨hy0, hy1⟩, ⟨hz0, hz1⟩, ⟨hx0, hx3⟩, ⟨hq0, hq1⟩, ⟨hp0, hp1⟩⟩ := code_bd hc0 hc1
  obtain ⟨l, hm⟩ : ∃ l, mBlocks k = l := ⟨_, rfl⟩
  have HL := Lib.hid hm
  simp [mBlocks, *] at hm
  subst hm
  go_enter Tryz.func166, Tryz.ntmps166
  go_wp2_with (first | (go_at_call 159; refine Calls.mono (read_ov (by assumption) _ _ _ _ _) ?_; rintro e W ⟨rfl, w1, hx1, hb1, rfl⟩) | (go_at_call 160; refine Calls.mono (write_ov (by assumption) _ _ _ _ _) ?_; rintro e W ⟨rfl, w1, hx1, hb1, rfl⟩) | (go_at_call 155; refine Calls.mono (wait_ov (by assumption) _ _ _ _ _) ?_; rintro e W ⟨rfl, w1, hx1, hb1, rfl⟩) | (go_at_call 154; refine Calls.mono (work_ov (by assumption) _ _ _ _) ?_; rintro e W ⟨rfl, w1, hx1, hb1, rfl⟩) | (go_at_call 161; refine Calls.mono (unless_ov (by assumption) _ _ _ _) ?_; rintro e W ⟨rfl, w1, hx1, hb1, rfl⟩) | (go_at_call 152; refine Calls.mono (more_v1 (by assumption) H.out _ _ _ _ _ _ _ ?_ ?_ ?_) ?_; (· rfl); (· rfl); (· omega); rintro e W ⟨rfl, w1, hx1, hb1, rfl⟩) | (go_at_call 157; refine (my_any _ _ hc0 hc1).mono ?_; rintro e W ⟨rfl, rfl⟩) | (go_at_call 149; refine (mz_any _ _ hc0 hc1).mono ?_; rintro e W ⟨rfl, rfl⟩))
  rw [HL.out]
  go_ret
  exact ⟨ret_sl (by first | rfl | (simp only [List.length_append, List.length_cons, List.length_nil]; omega)), fin (by assumption) (by repeat (first | exact Ext.refl _ | assumption | refine Ext.trans ?_ (by assumption))) (by first | rfl | exact (app_nil _ _).symm | exact app_app _ _ _ _ | exact app_app3 _ _ _ _ _)⟩
set_option maxHeartbeats 1000000 in
theorem mBlocks_8 {m : Mac} {w : World} (hb : Base m w) (hts : m.ts = 115) (c : Cp) (sl : Nat → Int) (b : Bd) (n : Nat) (k : Int) (hc0 : 0 ≤ k) (hc1 : k < 256) (hy4 : 4 ≤ cy k) (hz3 : cz k ≤ 3) (hr : n ≤ 4) (hd0 : cz k = 2) (hd1 : cy k = 4) : mBlocks_Said m w c sl b n k := by
  unfold mBlocks_Said
  have H := Lib.hid hts
  clear hts
  obtain ⟨⟨hy0, hy1⟩, ⟨hz0, hz1⟩, ⟨hx0, hx3⟩, ⟨hq0, hq1⟩, ⟨hp0, hp1⟩⟩ := code_bd hc0 hc1
  obtain ⟨l, hm⟩ : ∃ l, mBlocks k = l := ⟨_, rfl⟩
  have HL := Lib.hid hm
  simp [mBlocks, *] at hm
  subst hm
  go_enter Tryz.func166, Tryz.ntmps166
  go_wp2_with (first | (go_at_call 159; refine Calls.mono (read_ov (by assumption) _ _ _ _ _) ?_; rintro e W ⟨rfl, w1, hx1, hb1, rfl⟩) | (go_at_call 160; refine Calls.mono (write_ov (by assumption) _ _ _ _ _) ?_; rintro e W ⟨rfl, w1, hx1, hb1, rfl⟩) | (go_at_call 155; refine Calls.mono (wait_ov (by assumption) _ _ _ _ _) ?_; rintro e W ⟨rfl, w1, hx1, hb1, rfl⟩) | (go_at_call 154; refine Calls.mono (work_ov (by assumption) _ _ _ _) ?_; rintro e W ⟨rfl, w1, hx1, hb1, rfl⟩) | (go_at_call 161; refine Calls.mono (unless_ov (by assumption) _ _ _ _) ?_; rintro e W ⟨rfl, w1, hx1, hb1, rfl⟩) | (go_at_call 152; refine Calls.mono (more_v1 (by assumption) H.out _ _ _ _ _ _ _ ?_ ?_ ?_) ?_; (· rfl); (· rfl); (· omega); rintro e W ⟨rfl, w1, hx1, hb1, rfl⟩) | (go_at_call 157; refine (my_any _ _ hc0 hc1).mono ?_; rintro e W ⟨rfl, rfl⟩) | (go_at_call 149; refine (mz_any _ _ hc0 hc1).mono ?_; rintro e W ⟨rfl, rfl⟩))
  rw [HL.out]
  go_ret
  exact ⟨ret_sl (by first | rfl | (simp only [List.length_append, List.length_cons, List.length_nil]; omega)), fin (by assumption) (by repeat (first | exact Ext.refl _ | assumption | refine Ext.trans ?_ (by assumption))) (by first | rfl | exact (app_nil _ _).symm | exact app_app _ _ _ _ | exact app_app3 _ _ _ _ _)⟩
set_option maxHeartbeats 1000000 in
theorem mBlocks_9 {m : Mac} {w : World} (hb : Base m w) (hts : m.ts = 115) (c : Cp) (sl : Nat → Int) (b : Bd) (n : Nat) (k : Int) (hc0 : 0 ≤ k) (hc1 : k < 256) (hy4 : 4 ≤ cy k) (hz3 : cz k ≤ 3) (hr : n ≤ 4) (hd0 : cz k = 2) (hd1 : cy k = 5) : mBlocks_Said m w c sl b n k := by
  unfold mBlocks_Said
  have H := Lib.hid hts
  clear hts
  obtain ⟨⟨hy0, hy1⟩, ⟨hz0, hz1⟩, ⟨hx0, hx3⟩, ⟨hq0, hq1⟩, ⟨hp0, hp1⟩⟩ := code_bd hc0 hc1
  obtain ⟨l, hm⟩ : ∃ l, mBlocks k = l := ⟨_, rfl⟩
  have HL := Lib.hid hm
  simp [mBlocks, *] at hm
  subst hm
  go_enter Tryz.func166, Tryz.ntmps166
  go_wp2_with (first | (go_at_call 159; refine Calls.mono (read_ov (by assumption) _ _ _ _ _) ?_; rintro e W ⟨rfl, w1, hx1, hb1, rfl⟩) | (go_at_call 160; refine Calls.mono (write_ov (by assumption) _ _ _ _ _) ?_; rintro e W ⟨rfl, w1, hx1, hb1, rfl⟩) | (go_at_call 155; refine Calls.mono (wait_ov (by assumption) _ _ _ _ _) ?_; rintro e W ⟨rfl, w1, hx1, hb1, rfl⟩) | (go_at_call 154; refine Calls.mono (work_ov (by assumption) _ _ _ _) ?_; rintro e W ⟨rfl, w1, hx1, hb1, rfl⟩) | (go_at_call 161; refine Calls.mono (unless_ov (by assumption) _ _ _ _) ?_; rintro e W ⟨rfl, w1, hx1, hb1, rfl⟩) | (go_at_call 152; refine Calls.mono (more_v1 (by assumption) H.out _ _ _ _ _ _ _ ?_ ?_ ?_) ?_; (· rfl); (· rfl); (· omega); rintro e W ⟨rfl, w1, hx1, hb1, rfl⟩) | (go_at_call 157; refine (my_any _ _ hc0 hc1).mono ?_; rintro e W ⟨rfl, rfl⟩) | (go_at_call 149; refine (mz_any _ _ hc0 hc1).mono ?_; rintro e W ⟨rfl, rfl⟩))
  rw [HL.out]
  go_ret
  exact ⟨ret_sl (by first | rfl | (simp only [List.length_append, List.length_cons, List.length_nil]; omega)), fin (by assumption) (by repeat (first | exact Ext.refl _ | assumption | refine Ext.trans ?_ (by assumption))) (by first | rfl | exact (app_nil _ _).symm | exact app_app _ _ _ _ | exact app_app3 _ _ _ _ _)⟩
set_option maxHeartbeats 1000000 in
theorem mBlocks_10 {m : Mac} {w : World} (hb : Base m w) (hts : m.ts = 115) (c : Cp) (sl : Nat → Int) (b : Bd) (n : Nat) (k : Int) (hc0 : 0 ≤ k) (hc1 : k < 256) (hy4 : 4 ≤ cy k) (hz3 : cz k ≤ 3) (hr : n ≤ 4) (hd0 : cz k = 2) (hd1 : cy k = 6) : mBlocks_Said m w c sl b n k := by
  unfold mBlocks_Said
  have H := Lib.hid hts
  clear hts
  obtain ⟨⟨hy0, hy1⟩, ⟨hz0, hz1⟩, ⟨hx0, hx3⟩, ⟨hq0, hq1⟩, ⟨hp0, hp1⟩⟩ := code_bd hc0 hc1
  obtain ⟨l, hm⟩ : ∃ l, mBlocks k = l := ⟨_, rfl⟩
  have HL := Lib.hid hm
  simp [mBlocks, *] at hm
  subst hm
  go_enter Tryz.func166, Tryz.ntmps166
  go_wp2_with (first | (go_at_call 159; refine Calls.mono (read_ov (by assumption) _ _ _ _ _) ?_; rintro e W ⟨rfl, w1, hx1, hb1, rfl⟩) | (go_at_call 160; refine Calls.mono (write_ov (by assumption) _ _ _ _ _) ?_; rintro e W ⟨rfl, w1, hx1, hb1, rfl⟩) | (go_at_call 155; refine Calls.mono (wait_ov (by assumption) _ _ _ _ _) ?_; rintro e W ⟨rfl, w1, hx1, hb1, rfl⟩) | (go_at_call 154; refine Calls.mono (work_ov (by assumption) _ _ _ _) ?_; rintro e W ⟨rfl, w1, hx1, hb1, rfl⟩) | (go_at_call 161; refine Calls.mono (unless_ov (by assumption) _ _ _ _) ?_; rintro e W ⟨rfl, w1, hx1, hb1, rfl⟩) | (go_at_call 152; refine Calls.mono (more_v1 (by assumption) H.out _ _ _ _ _ _ _ ?_ ?_ ?_) ?_; (· rfl); (· rfl); (· omega); rintro e W ⟨rfl, w1, hx1, hb1, rfl⟩) | (go_at_call 157; refine (my_any _ _ hc0 hc1).mono ?_; rintro e W ⟨rfl, rfl⟩) | (go_at_call 149; refine (mz_any _ _ hc0 hc1).mono ?_; rintro e W ⟨rfl, rfl⟩))
  rw [HL.out]
  go_ret
  exact ⟨ret_sl (by first | rfl | (simp only [List.length_append, List.length_cons, List.length_nil]; omega)), fin (by assumption) (by repeat (first | exact Ext.refl _ | assumption | refine Ext.trans ?_ (by assumption))) (by first | rfl | exact (app_nil _ _).symm | exact app_app _ _ _ _ | exact app_app3 _ _ _ _ _)⟩
set_option maxHeartbeats 1000000 in
theorem mBlocks_11 {m : Mac} {w : World} (hb : Base m w) (hts : m.ts = 115) (c : Cp) (sl : Nat → Int) (b : Bd) (n : Nat) (k : Int) (hc0 : 0 ≤ k) (hc1 : k < 256) (hy4 : 4 ≤ cy k) (hz3 : cz k ≤ 3) (hr : n ≤ 4) (hd0 : cz k = 2) (hd1 : cy k = 7) : mBlocks_Said m w c sl b n k := by
  unfold mBlocks_Said
  have H := Lib.hid hts
  clear hts
  obtain ⟨⟨hy0, hy1⟩, ⟨hz0, hz1⟩, ⟨hx0, hx3⟩, ⟨hq0, hq1⟩, ⟨hp0, hp1⟩⟩ := code_bd hc0 hc1
  obtain ⟨l, hm⟩ : ∃ l, mBlocks k = l := ⟨_, rfl⟩
  have HL := Lib.hid hm
  simp [mBlocks, *] at hm
  subst hm
  go_enter Tryz.func166, Tryz.ntmps166
  go_wp2_with (first | (go_at_call 159; refine Calls.mono (read_ov (by assumption) _ _ _ _ _) ?_; rintro e W ⟨rfl, w1, hx1, hb1, rfl⟩) | (go_at_call 160; refine Calls.mono (write_ov (by assumption) _ _ _ _ _) ?_; rintro e W ⟨rfl, w1, hx1, hb1, rfl⟩) | (go_at_call 155; refine Calls.mono (wait_ov (by assumption) _ _ _ _ _) ?_; rintro e W ⟨rfl, w1, hx1, hb1, rfl⟩) | (go_at_call 154; refine Calls.mono (work_ov (by assumption) _ _ _ _) ?_; rintro e W ⟨rfl, w1, hx1, hb1, rfl⟩) | (go_at_call 161; refine Calls.mono (unless_ov (by assumption) _ _ _ _) ?_; rintro e W ⟨rfl, w1, hx1, hb1, rfl⟩) | (go_at_call 152; refine Calls.mono (more_v1 (by assumption) H.out _ _ _ _ _ _ _ ?_ ?_ ?_) ?_; (· rfl); (· rfl); (· omega); rintro e W ⟨rfl, w1, hx1, hb1, rfl⟩) | (go_at_call 157; refine (my_any _ _ hc0 hc1).mono ?_; rintro e W ⟨rfl, rfl⟩) | (go_at_call 149; refine (mz_any _ _ hc0 hc1).mono ?_; rintro e W ⟨rfl, rfl⟩))
  rw [HL.out]
  go_ret
  exact ⟨ret_sl (by first | rfl | (simp only [List.length_append, List.length_cons, List.length_nil]; omega)), fin (by assumption) (by repeat (first | exact Ext.refl _ | assumption | refine Ext.trans ?_ (by assumption))) (by first | rfl | exact (app_nil _ _).symm | exact app_app _ _ _ _ | exact app_app3 _ _ _ _ _)⟩
set_option maxHeartbeats 1000000 in
theorem mBlocks_12 {m : Mac} {w : World} (hb : Base m w) (hts : m.ts = 115) (c : Cp) (sl : Nat → Int) (b : Bd) (n : Nat) (k : Int) (hc0 : 0 ≤ k) (hc1 : k < 256) (hy4 : 4 ≤ cy k) (hz3 : cz k ≤ 3) (hr : n ≤ 4) (hd0 : cz k = 3) (hd1 : cy k = 4) : mBlocks_Said m w c sl b n k := by
  unfold mBlocks_Said
  have H := Lib.hid hts
  clear hts
  obtain ⟨⟨hy0, hy1⟩, ⟨hz0, hz1⟩, ⟨hx0, hx3⟩, ⟨hq0, hq1⟩, ⟨hp0, hp1⟩⟩ := code_bd hc0 hc1
  obtain ⟨l, hm⟩ : ∃ l, mBlocks k = l := ⟨_, rfl⟩
  have HL := Lib.hid hm
  simp [mBlocks, *] at hm
  subst hm
  go_enter Tryz.func166, Tryz.ntmps166
  go_wp2_with (first | (go_at_call 159; refine Calls.mono (read_ov (by assumption) _ _ _ _ _) ?_; rintro e W ⟨rfl, w1, hx1, hb1, rfl⟩) | (go_at_call 160; refine Calls.mono (write_ov (by assumption) _ _ _ _ _) ?_; rintro e W ⟨rfl, w1, hx1, hb1, rfl⟩) | (go_at_call 155; refine Calls.mono (wait_ov (by assumption) _ _ _ _ _) ?_; rintro e W ⟨rfl, w1, hx1, hb1, rfl⟩) | (go_at_call 154; refine Calls.mono (work_ov (by assumption) _ _ _ _) ?_; rintro e W ⟨rfl, w1, hx1, hb1, rfl⟩) | (go_at_call 161; refine Calls.mono (unless_ov (by assumption) _ _ _ _) ?_; rintro e W ⟨rfl, w1, hx1, hb1, rfl⟩) | (go_at_call 152; refine Calls.mono (more_v1 (by assumption) H.out _ _ _ _ _ _ _ ?_ ?_ ?_) ?_; (· rfl); (· rfl); (· omega); rintro e W ⟨rfl, w1, hx1, hb1, rfl⟩) | (go_at_call 157; refine (my_any _ _ hc0 hc1).mono ?_; rintro e W ⟨rfl, rfl⟩) | (go_at_call 149; refine (mz_any _ _ hc0 hc1).mono ?_; rintro e W ⟨rfl, rfl⟩))
  rw [HL.out]
  go_ret
  exact ⟨ret_sl (by first | rfl | (simp only [List.length_append, List.length_cons, List.length_nil]; omega)), fin (by assumption) (by repeat (first | exact Ext.refl _ | assumption | refine Ext.trans ?_ (by assumption))) (by first | rfl | exact (app_nil _ _).symm | exact app_app _ _ _ _ | exact app_app3 _ _ _ _ _)⟩
set_option maxHeartbeats 1000000 in
theorem mBlocks_13 {m : Mac} {w : World} (hb : Base m w) (hts : m.ts = 115) (c : Cp) (sl : Nat → Int) (b : Bd) (n : Nat) (k : Int) (hc0 : 0 ≤ k) (hc1 : k < 256) (hy4 : 4 ≤ cy k) (hz3 : cz k ≤ 3) (hr : n ≤ 4) (hd0 : cz k = 3) (hd1 : cy k = 5) : mBlocks_Said m w c sl b n k := by
  unfold mBlocks_Said
  have H := Lib.hid hts
  clear hts
  obtain ⟨⟨hy0, hy1⟩, ⟨hz0, hz1⟩, ⟨hx0, hx3⟩, ⟨hq0, hq1⟩, ⟨hp0, hp1⟩⟩ := code_bd hc0 hc1
  obtain ⟨l, hm⟩ : ∃ l, mBlocks k = l := ⟨_, rfl⟩
  have HL := Lib.hid hm
  simp [mBlocks, *] at hm
  subst hm
  go_enter Tryz.func166, Tryz.ntmps166
  go_wp2_with (first | (go_at_call 159; refine Calls.mono (read_ov (by assumption) _ _ _ _ _) ?_; rintro e W ⟨rfl, w1, hx1, hb1, rfl⟩) | (go_at_call 160; refine Calls.mono (write_ov (by assumption) _ _ _ _ _) ?_; rintro e W ⟨rfl, w1, hx1, hb1, rfl⟩) | (go_at_call 155; refine Calls.mono (wait_ov (by assumption) _ _ _ _ _) ?_; rintro e W ⟨rfl, w1, hx1, hb1, rfl⟩) | (go_at_call 154; refine Calls.mono (work_ov (by assumption) _ _ _ _) ?_; rintro e W ⟨rfl, w1, hx1, hb1, rfl⟩) | (go_at_call 161; refine Calls.mono (unless_ov (by assumption) _ _ _ _) ?_; rintro e W ⟨rfl, w1, hx1, hb1, rfl⟩) | (go_at_call 152; refine Calls.mono (more_v1 (by assumption) H.out _ _ _ _ _ _ _ ?_ ?_ ?_) ?_; (· rfl); (· rfl); (· omega); rintro e W ⟨rfl, w1, hx1, hb1, rfl⟩) | (go_at_call 157; refine (my_any _ _ hc0 hc1).mono ?_; rintro e W ⟨rfl, rfl⟩) | (go_at_call 149; refine (mz_any _ _ hc0 hc1).mono ?_; rintro e W ⟨rfl, rfl⟩))
  rw [HL.out]
  go_ret
  exact ⟨ret_sl (by first | rfl | (simp only [List.length_append, List.length_cons, List.length_nil]; omega)), fin (by assumption) (by repeat (first | exact Ext.refl _ | assumption | refine Ext.trans ?_ (by assumption))) (by first | rfl | exact (app_nil _ _).symm | exact app_app _ _ _ _ | exact app_app3 _ _ _ _ _)⟩
set_option maxHeartbeats 1000000 in
theorem mBlocks_14 {m : Mac} {w : World} (hb : Base m w) (hts : m.ts = 115) (c : Cp) (sl : Nat → Int) (b : Bd) (n : Nat) (k : Int) (hc0 : 0 ≤ k) (hc1 : k < 256) (hy4 : 4 ≤ cy k) (hz3 : cz k ≤ 3) (hr : n ≤ 4) (hd0 : cz k = 3) (hd1 : cy k = 6) : mBlocks_Said m w c sl b n k := by
  unfold mBlocks_Said
  have H := Lib.hid hts
  clear hts
  obtain ⟨⟨hy0, hy1⟩, ⟨hz0, hz1⟩, ⟨hx0, hx3⟩, ⟨hq0, hq1⟩, ⟨hp0, hp1⟩⟩ := code_bd hc0 hc1
  obtain ⟨l, hm⟩ : ∃ l, mBlocks k = l := ⟨_, rfl⟩
  have HL := Lib.hid hm
  simp [mBlocks, *] at hm
  subst hm
  go_enter Tryz.func166, Tryz.ntmps166
  go_wp2_with (first | (go_at_call 159; refine Calls.mono (read_ov (by assumption) _ _ _ _ _) ?_; rintro e W ⟨rfl, w1, hx1, hb1, rfl⟩) | (go_at_call 160; refine Calls.mono (write_ov (by assumption) _ _ _ _ _) ?_; rintro e W ⟨rfl, w1, hx1, hb1, rfl⟩) | (go_at_call 155; refine Calls.mono (wait_ov (by assumption) _ _ _ _ _) ?_; rintro e W ⟨rfl, w1, hx1, hb1, rfl⟩) | (go_at_call 154; refine Calls.mono (work_ov (by assumption) _ _ _ _) ?_; rintro e W ⟨rfl, w1, hx1, hb1, rfl⟩) | (go_at_call 161; refine Calls.mono (unless_ov (by assumption) _ _ _ _) ?_; rintro e W ⟨rfl, w1, hx1, hb1, rfl⟩) | (go_at_call 152; refine Calls.mono (more_v1 (by assumption) H.out _ _ _ _ _ _ _ ?_ ?_ ?_) ?_; (· rfl); (· rfl); (· omega); rintro e W ⟨rfl, w1, hx1, hb1, rfl⟩) | (go_at_call 157; refine (my_any _ _ hc0 hc1).mono ?_; rintro e W ⟨rfl, rfl⟩) | (go_at_call 149; refine (mz_any _ _ hc0 hc1).mono ?_; rintro e W ⟨rfl, rfl⟩))
  rw [HL.out]
  go_ret
  exact ⟨ret_sl (by first | rfl | (simp only [List.length_append, List.length_cons, List.length_nil]; omega)), fin (by assumption) (by repeat (first | exact Ext.refl _ | assumption | refine Ext.trans ?_ (by assumption))) (by first | rfl | exact (app_nil _ _).symm | exact app_app _ _ _ _ | exact app_app3 _ _ _ _ _)⟩
set_option maxHeartbeats 1000000 in
theorem mBlocks_15 {m : Mac} {w : World} (hb : Base m w) (hts : m.ts = 115) (c : Cp) (sl : Nat → Int) (b : Bd) (n : Nat) (k : Int) (hc0 : 0 ≤ k) (hc1 : k < 256) (hy4 : 4 ≤ cy k) (hz3 : cz k ≤ 3) (hr : n ≤ 4) (hd0 : cz k = 3) (hd1 : cy k = 7) : mBlocks_Said m w c sl b n k := by
  unfold mBlocks_Said
  have H := Lib.hid hts
  clear hts
  obtain ⟨⟨hy0, hy1⟩, ⟨hz0, hz1⟩, ⟨hx0, hx3⟩, ⟨hq0, hq1⟩, ⟨hp0, hp1⟩⟩ := code_bd hc0 hc1
  obtain ⟨l, hm⟩ : ∃ l, mBlocks k = l := ⟨_, rfl⟩
  have HL := Lib.hid hm
  simp [mBlocks, *] at hm
  subst hm
  go_enter Tryz.func166, Tryz.ntmps166
  go_wp2_with (first | (go_at_call 159; refine Calls.mono (read_ov (by assumption) _ _ _ _ _) ?_; rintro e W ⟨rfl, w1, hx1, hb1, rfl⟩) | (go_at_call 160; refine Calls.mono (write_ov (by assumption) _ _ _ _ _) ?_; rintro e W ⟨rfl, w1, hx1, hb1, rfl⟩) | (go_at_call 155; refine Calls.mono (wait_ov (by assumption) _ _ _ _ _) ?_; rintro e W ⟨rfl, w1, hx1, hb1, rfl⟩) | (go_at_call 154; refine Calls.mono (work_ov (by assumption) _ _ _ _) ?_; rintro e W ⟨rfl, w1, hx1, hb1, rfl⟩) | (go_at_call 161; refine Calls.mono (unless_ov (by assumption) _ _ _ _) ?_; rintro e W ⟨rfl, w1, hx1, hb1, rfl⟩) | (go_at_call 152; refine Calls.mono (more_v1 (by assumption) H.out _ _ _ _ _ _ _ ?_ ?_ ?_) ?_; (· rfl); (· rfl); (· omega); rintro e W ⟨rfl, w1, hx1, hb1, rfl⟩) | (go_at_call 157; refine (my_any _ _ hc0 hc1).mono ?_; rintro e W ⟨rfl, rfl⟩) | (go_at_call 149; refine (mz_any _ _ hc0 hc1).mono ?_; rintro e W ⟨rfl, rfl⟩))
  rw [HL.out]
  go_ret
  exact ⟨ret_sl (by first | rfl | (simp only [List.length_append, List.length_cons, List.length_nil]; omega)), fin (by assumption) (by repeat (first | exact Ext.refl _ | assumption | refine Ext.trans ?_ (by assumption))) (by first | rfl | exact (app_nil _ _).symm | exact app_app _ _ _ _ | exact app_app3 _ _ _ _ _)⟩
set_option maxHeartbeats 8000000 in
theorem mBlocks_any {m : Mac} {w : World} (hb : Base m w) (hts : m.ts = 115) (c : Cp) (sl : Nat → Int) (b : Bd) (n : Nat) (k : Int) (hc0 : 0 ≤ k) (hc1 : k < 256) (hy4 : 4 ≤ cy k) (hz3 : cz k ≤ 3) (hr : n ≤ 4) : Calls Tryz.prog 166 #[.slice (some ⟨m.s, 0, none⟩) n 16, .int .u8 k] (mk w m c sl b) fun e W => e = .returned (.slice (some ⟨m.s, 0, none⟩) (n + (mBlocks k).length) 16) ∧ Lft w m c (app sl n (mBlocks k)) b W := by
  obtain ⟨⟨hy0, hy1⟩, ⟨hz0, hz1⟩, ⟨hx0, hx3⟩, ⟨hq0, hq1⟩, ⟨hp0, hp1⟩⟩ := code_bd hc0 hc1
  rcases (by omega : cz k = 0 ∨ cz k = 1 ∨ cz k = 2 ∨ cz k = 3) with hd | hd | hd | hd
  · rcases (by omega : cy k = 4 ∨ cy k = 5 ∨ cy k = 6 ∨ cy k = 7) with hd | hd | hd | hd
    · exact mBlocks_0 hb hts c sl b n k hc0 hc1 hy4 hz3 hr (by first | assumption | omega) (by first | assumption | omega)
    · exact mBlocks_1 hb hts c sl b n k hc0 hc1 hy4 hz3 hr (by first | assumption | omega) (by first | assumption | omega)
    · exact mBlocks_2 hb hts c sl b n k hc0 hc1 hy4 hz3 hr (by first | assumption | omega) (by first | assumption | omega)
    · exact mBlocks_3 hb hts c sl b n k hc0 hc1 hy4 hz3 hr (by first | assumption | omega) (by first | assumption | omega)
  · rcases (by omega : cy k = 4 ∨ cy k = 5 ∨ cy k = 6 ∨ cy k = 7) with hd | hd | hd | hd
    · exact mBlocks_4 hb hts c sl b n k hc0 hc1 hy4 hz3 hr (by first | assumption | omega) (by first | assumption | omega)
    · exact mBlocks_5 hb hts c sl b n k hc0 hc1 hy4 hz3 hr (by first | assumption | omega) (by first | assumption | omega)
    · exact mBlocks_6 hb hts c sl b n k hc0 hc1 hy4 hz3 hr (by first | assumption | omega) (by first | assumption | omega)
    · exact mBlocks_7 hb hts c sl b n k hc0 hc1 hy4 hz3 hr (by first | assumption | omega) (by first | assumption | omega)
  · rcases (by omega : cy k = 4 ∨ cy k = 5 ∨ cy k = 6 ∨ cy k = 7) with hd | hd | hd | hd
    · exact mBlocks_8 hb hts c sl b n k hc0 hc1 hy4 hz3 hr (by first | assumption | omega) (by first | assumption | omega)
    · exact mBlocks_9 hb hts c sl b n k hc0 hc1 hy4 hz3 hr (by first | assumption | omega) (by first | assumption | omega)
    · exact mBlocks_10 hb hts c sl b n k hc0 hc1 hy4 hz3 hr (by first | assumption | omega) (by first | assumption | omega)
    · exact mBlocks_11 hb hts c sl b n k hc0 hc1 hy4 hz3 hr (by first | assumption | omega) (by first | assumption | omega)
  · rcases (by omega : cy k = 4 ∨ cy k = 5 ∨ cy k = 6 ∨ cy k = 7) with hd | hd | hd | hd
    · exact mBlocks_12 hb hts c sl b n k hc0 hc1 hy4 hz3 hr (by first | assumption | omega) (by first | assumption | omega)
    · exact mBlocks_13 hb hts c sl b n k hc0 hc1 hy4 hz3 hr (by first | assumption | omega) (by first | assumption | omega)
    · exact mBlocks_14 hb hts c sl b n k hc0 hc1 hy4 hz3 hr (by first | assumption | omega) (by first | assumption | omega)
    · exact mBlocks_15 hb hts c sl b n k hc0 hc1 hy4 hz3 hr (by first | assumption | omega) (by first | assumption | omega)

end Go.Proofs.YtneganpbamemmaaGreat
