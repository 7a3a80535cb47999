/- Package micro: the steps of each code, joined. -/
import Derived.Test.YtneganpbamemmaaGreatMicro2
set_option linter.unusedVariables false
set_option linter.unusedSimpArgs false
set_option linter.unusedSectionVars false
namespace Go.Proofs.YtneganpbamemmaaGreat
open Go Go.RowKit Sq

def mFirst_Said (m : Mac) (w : World) (c : Cp) (sl : Nat → Int) (b : Bd) (n : Nat) (ix : Int) (k : Int) : Prop := Calls Tryz.prog 107 #[.slice (some ⟨m.s, 0, none⟩) n 16, .int .i64 ix, .int .u8 k] (mk w m c sl b) fun e W => e = .returned (.slice (some ⟨m.s, 0, none⟩) (n + (mFirst ix k).length) 16) ∧ Lft w m c (app sl n (mFirst ix k)) b W
set_option maxHeartbeats 1000000 in
theorem mFirst_0 {m : Mac} {w : World} (hb : Base m w) (hts : m.ts = 115) (c : Cp) (sl : Nat → Int) (b : Bd) (n : Nat) (ix : Int) (hi0 : 0 ≤ ix) (hi1 : ix ≤ 2) (k : Int) (hc0 : 0 ≤ k) (hc1 : k < 256) (hr : n ≤ 4) (hd0 : cz k = 0) : mFirst_Said m w c sl b n ix k := by
  unfold mFirst_Said
  have H := Lib.hid hts
  clear hts
  obtain ⟨⟨hy0, hy1⟩, ⟨hz0, hz1⟩, ⟨hx0, hx3⟩, ⟨hq0, hq1⟩, ⟨hp0, hp1⟩⟩ := code_bd hc0 hc1
  have hpl := mPlace_le ix
  obtain ⟨l, hm⟩ : ∃ l, mFirst ix k = l := ⟨_, rfl⟩
  have HL := Lib.hid hm
  simp [mFirst, *] at hm
  subst hm
  go_enter Tryz.func107, Tryz.ntmps107
  go_wp2_with (first | (go_at_call 159; refine Calls.mono (read_ov (by assumption) _ _ _ _ _) ?_; rintro e W ⟨rfl, w1, hx1, hb1, rfl⟩) | (go_at_call 160; refine Calls.mono (write_ov (by assumption) _ _ _ _ _) ?_; rintro e W ⟨rfl, w1, hx1, hb1, rfl⟩) | (go_at_call 155; refine Calls.mono (wait_ov (by assumption) _ _ _ _ _) ?_; rintro e W ⟨rfl, w1, hx1, hb1, rfl⟩) | (go_at_call 154; refine Calls.mono (work_ov (by assumption) _ _ _ _) ?_; rintro e W ⟨rfl, w1, hx1, hb1, rfl⟩) | (go_at_call 153; refine Calls.mono (word_any (by assumption) H.out _ _ _ _ (by omega)) ?_; rintro e W ⟨rfl, w1, hx1, hb1, rfl⟩) | (go_at_call 158; refine Calls.mono (place_any (by assumption) H.out _ _ _ _ _ hi0 hi1 (by omega)) ?_; rintro e W ⟨rfl, w1, hx1, hb1, rfl⟩) | (go_at_call 152; refine Calls.mono (more_v1 (by assumption) H.out _ _ _ _ _ _ _ ?_ ?_ ?_) ?_; (· rfl); (· rfl); (· omega); rintro e W ⟨rfl, w1, hx1, hb1, rfl⟩) | (go_at_call 150; refine Calls.mono (mJumps_any (by assumption) H.out _ _ _ _ _ hc0 hc1 (by omega)) ?_; rintro e W ⟨rfl, w1, hx1, hb1, rfl⟩) | (go_at_call 156; refine Calls.mono (mMoves_any (by assumption) H.out _ _ _ _ _ hc0 hc1 (by omega)) ?_; rintro e W ⟨rfl, w1, hx1, hb1, rfl⟩) | (go_at_call 157; refine (my_any _ _ hc0 hc1).mono ?_; rintro e W ⟨rfl, rfl⟩) | (go_at_call 149; refine (mz_any _ _ hc0 hc1).mono ?_; rintro e W ⟨rfl, rfl⟩) | (go_at_call 151; refine (mq_any _ _ hc0 hc1).mono ?_; rintro e W ⟨rfl, rfl⟩))
  rw [HL.out]
  go_ret
  exact ⟨ret_sl (by first | rfl | (simp only [List.length_append, List.length_cons, List.length_nil]; omega)), fin (by assumption) (by repeat (first | exact Ext.refl _ | assumption | refine Ext.trans ?_ (by assumption))) (by first | rfl | exact (app_nil _ _).symm | exact app_app _ _ _ _ | exact app_app3 _ _ _ _ _)⟩
set_option maxHeartbeats 1000000 in
theorem mFirst_1 {m : Mac} {w : World} (hb : Base m w) (hts : m.ts = 115) (c : Cp) (sl : Nat → Int) (b : Bd) (n : Nat) (ix : Int) (hi0 : 0 ≤ ix) (hi1 : ix ≤ 2) (k : Int) (hc0 : 0 ≤ k) (hc1 : k < 256) (hr : n ≤ 4) (hd0 : cz k = 1) (hd1 : cq k = 0) : mFirst_Said m w c sl b n ix k := by
  unfold mFirst_Said
  have H := Lib.hid hts
  clear hts
  obtain ⟨⟨hy0, hy1⟩, ⟨hz0, hz1⟩, ⟨hx0, hx3⟩, ⟨hq0, hq1⟩, ⟨hp0, hp1⟩⟩ := code_bd hc0 hc1
  have hpl := mPlace_le ix
  obtain ⟨l, hm⟩ : ∃ l, mFirst ix k = l := ⟨_, rfl⟩
  have HL := Lib.hid hm
  simp [mFirst, *] at hm
  subst hm
  go_enter Tryz.func107, Tryz.ntmps107
  go_wp2_with (first | (go_at_call 159; refine Calls.mono (read_ov (by assumption) _ _ _ _ _) ?_; rintro e W ⟨rfl, w1, hx1, hb1, rfl⟩) | (go_at_call 160; refine Calls.mono (write_ov (by assumption) _ _ _ _ _) ?_; rintro e W ⟨rfl, w1, hx1, hb1, rfl⟩) | (go_at_call 155; refine Calls.mono (wait_ov (by assumption) _ _ _ _ _) ?_; rintro e W ⟨rfl, w1, hx1, hb1, rfl⟩) | (go_at_call 154; refine Calls.mono (work_ov (by assumption) _ _ _ _) ?_; rintro e W ⟨rfl, w1, hx1, hb1, rfl⟩) | (go_at_call 153; refine Calls.mono (word_any (by assumption) H.out _ _ _ _ (by omega)) ?_; rintro e W ⟨rfl, w1, hx1, hb1, rfl⟩) | (go_at_call 158; refine Calls.mono (place_any (by assumption) H.out _ _ _ _ _ hi0 hi1 (by omega)) ?_; rintro e W ⟨rfl, w1, hx1, hb1, rfl⟩) | (go_at_call 152; refine Calls.mono (more_v1 (by assumption) H.out _ _ _ _ _ _ _ ?_ ?_ ?_) ?_; (· rfl); (· rfl); (· omega); rintro e W ⟨rfl, w1, hx1, hb1, rfl⟩) | (go_at_call 150; refine Calls.mono (mJumps_any (by assumption) H.out _ _ _ _ _ hc0 hc1 (by omega)) ?_; rintro e W ⟨rfl, w1, hx1, hb1, rfl⟩) | (go_at_call 156; refine Calls.mono (mMoves_any (by assumption) H.out _ _ _ _ _ hc0 hc1 (by omega)) ?_; rintro e W ⟨rfl, w1, hx1, hb1, rfl⟩) | (go_at_call 157; refine (my_any _ _ hc0 hc1).mono ?_; rintro e W ⟨rfl, rfl⟩) | (go_at_call 149; refine (mz_any _ _ hc0 hc1).mono ?_; rintro e W ⟨rfl, rfl⟩) | (go_at_call 151; refine (mq_any _ _ hc0 hc1).mono ?_; rintro e W ⟨rfl, rfl⟩))
  rw [HL.out]
  go_ret
  exact ⟨ret_sl (by first | rfl | (simp only [List.length_append, List.length_cons, List.length_nil]; omega)), fin (by assumption) (by repeat (first | exact Ext.refl _ | assumption | refine Ext.trans ?_ (by assumption))) (by first | rfl | exact (app_nil _ _).symm | exact app_app _ _ _ _ | exact app_app3 _ _ _ _ _)⟩
set_option maxHeartbeats 1000000 in
theorem mFirst_2 {m : Mac} {w : World} (hb : Base m w) (hts : m.ts = 115) (c : Cp) (sl : Nat → Int) (b : Bd) (n : Nat) (ix : Int) (hi0 : 0 ≤ ix) (hi1 : ix ≤ 2) (k : Int) (hc0 : 0 ≤ k) (hc1 : k < 256) (hr : n ≤ 4) (hd0 : cz k = 1) (hd1 : cq k = 1) : mFirst_Said m w c sl b n ix k := by
  unfold mFirst_Said
  have H := Lib.hid hts
  clear hts
  obtain ⟨⟨hy0, hy1⟩, ⟨hz0, hz1⟩, ⟨hx0, hx3⟩, ⟨hq0, hq1⟩, ⟨hp0, hp1⟩⟩ := code_bd hc0 hc1
  have hpl := mPlace_le ix
  obtain ⟨l, hm⟩ : ∃ l, mFirst ix k = l := ⟨_, rfl⟩
  have HL := Lib.hid hm
  simp [mFirst, *] at hm
  subst hm
  go_enter Tryz.func107, Tryz.ntmps107
  go_wp2_with (first | (go_at_call 159; refine Calls.mono (read_ov (by assumption) _ _ _ _ _) ?_; rintro e W ⟨rfl, w1, hx1, hb1, rfl⟩) | (go_at_call 160; refine Calls.mono (write_ov (by assumption) _ _ _ _ _) ?_; rintro e W ⟨rfl, w1, hx1, hb1, rfl⟩) | (go_at_call 155; refine Calls.mono (wait_ov (by assumption) _ _ _ _ _) ?_; rintro e W ⟨rfl, w1, hx1, hb1, rfl⟩) | (go_at_call 154; refine Calls.mono (work_ov (by assumption) _ _ _ _) ?_; rintro e W ⟨rfl, w1, hx1, hb1, rfl⟩) | (go_at_call 153; refine Calls.mono (word_any (by assumption) H.out _ _ _ _ (by omega)) ?_; rintro e W ⟨rfl, w1, hx1, hb1, rfl⟩) | (go_at_call 158; refine Calls.mono (place_any (by assumption) H.out _ _ _ _ _ hi0 hi1 (by omega)) ?_; rintro e W ⟨rfl, w1, hx1, hb1, rfl⟩) | (go_at_call 152; refine Calls.mono (more_v1 (by assumption) H.out _ _ _ _ _ _ _ ?_ ?_ ?_) ?_; (· rfl); (· rfl); (· omega); rintro e W ⟨rfl, w1, hx1, hb1, rfl⟩) | (go_at_call 150; refine Calls.mono (mJumps_any (by assumption) H.out _ _ _ _ _ hc0 hc1 (by omega)) ?_; rintro e W ⟨rfl, w1, hx1, hb1, rfl⟩) | (go_at_call 156; refine Calls.mono (mMoves_any (by assumption) H.out _ _ _ _ _ hc0 hc1 (by omega)) ?_; rintro e W ⟨rfl, w1, hx1, hb1, rfl⟩) | (go_at_call 157; refine (my_any _ _ hc0 hc1).mono ?_; rintro e W ⟨rfl, rfl⟩) | (go_at_call 149; refine (mz_any _ _ hc0 hc1).mono ?_; rintro e W ⟨rfl, rfl⟩) | (go_at_call 151; refine (mq_any _ _ hc0 hc1).mono ?_; rintro e W ⟨rfl, rfl⟩))
  rw [HL.out]
  go_ret
  exact ⟨ret_sl (by first | rfl | (simp only [List.length_append, List.length_cons, List.length_nil]; omega)), fin (by assumption) (by repeat (first | exact Ext.refl _ | assumption | refine Ext.trans ?_ (by assumption))) (by first | rfl | exact (app_nil _ _).symm | exact app_app _ _ _ _ | exact app_app3 _ _ _ _ _)⟩
set_option maxHeartbeats 1000000 in
theorem mFirst_3 {m : Mac} {w : World} (hb : Base m w) (hts : m.ts = 115) (c : Cp) (sl : Nat → Int) (b : Bd) (n : Nat) (ix : Int) (hi0 : 0 ≤ ix) (hi1 : ix ≤ 2) (k : Int) (hc0 : 0 ≤ k) (hc1 : k < 256) (hr : n ≤ 4) (hd0 : cz k = 2) : mFirst_Said m w c sl b n ix k := by
  unfold mFirst_Said
  have H := Lib.hid hts
  clear hts
  obtain ⟨⟨hy0, hy1⟩, ⟨hz0, hz1⟩, ⟨hx0, hx3⟩, ⟨hq0, hq1⟩, ⟨hp0, hp1⟩⟩ := code_bd hc0 hc1
  have hpl := mPlace_le ix
  obtain ⟨l, hm⟩ : ∃ l, mFirst ix k = l := ⟨_, rfl⟩
  have HL := Lib.hid hm
  simp [mFirst, *] at hm
  subst hm
  go_enter Tryz.func107, Tryz.ntmps107
  go_wp2_with (first | (go_at_call 159; refine Calls.mono (read_ov (by assumption) _ _ _ _ _) ?_; rintro e W ⟨rfl, w1, hx1, hb1, rfl⟩) | (go_at_call 160; refine Calls.mono (write_ov (by assumption) _ _ _ _ _) ?_; rintro e W ⟨rfl, w1, hx1, hb1, rfl⟩) | (go_at_call 155; refine Calls.mono (wait_ov (by assumption) _ _ _ _ _) ?_; rintro e W ⟨rfl, w1, hx1, hb1, rfl⟩) | (go_at_call 154; refine Calls.mono (work_ov (by assumption) _ _ _ _) ?_; rintro e W ⟨rfl, w1, hx1, hb1, rfl⟩) | (go_at_call 153; refine Calls.mono (word_any (by assumption) H.out _ _ _ _ (by omega)) ?_; rintro e W ⟨rfl, w1, hx1, hb1, rfl⟩) | (go_at_call 158; refine Calls.mono (place_any (by assumption) H.out _ _ _ _ _ hi0 hi1 (by omega)) ?_; rintro e W ⟨rfl, w1, hx1, hb1, rfl⟩) | (go_at_call 152; refine Calls.mono (more_v1 (by assumption) H.out _ _ _ _ _ _ _ ?_ ?_ ?_) ?_; (· rfl); (· rfl); (· omega); rintro e W ⟨rfl, w1, hx1, hb1, rfl⟩) | (go_at_call 150; refine Calls.mono (mJumps_any (by assumption) H.out _ _ _ _ _ hc0 hc1 (by omega)) ?_; rintro e W ⟨rfl, w1, hx1, hb1, rfl⟩) | (go_at_call 156; refine Calls.mono (mMoves_any (by assumption) H.out _ _ _ _ _ hc0 hc1 (by omega)) ?_; rintro e W ⟨rfl, w1, hx1, hb1, rfl⟩) | (go_at_call 157; refine (my_any _ _ hc0 hc1).mono ?_; rintro e W ⟨rfl, rfl⟩) | (go_at_call 149; refine (mz_any _ _ hc0 hc1).mono ?_; rintro e W ⟨rfl, rfl⟩) | (go_at_call 151; refine (mq_any _ _ hc0 hc1).mono ?_; rintro e W ⟨rfl, rfl⟩))
  rw [HL.out]
  go_ret
  exact ⟨ret_sl (by first | rfl | (simp only [List.length_append, List.length_cons, List.length_nil]; omega)), fin (by assumption) (by repeat (first | exact Ext.refl _ | assumption | refine Ext.trans ?_ (by assumption))) (by first | rfl | exact (app_nil _ _).symm | exact app_app _ _ _ _ | exact app_app3 _ _ _ _ _)⟩
set_option maxHeartbeats 1000000 in
theorem mFirst_4 {m : Mac} {w : World} (hb : Base m w) (hts : m.ts = 115) (c : Cp) (sl : Nat → Int) (b : Bd) (n : Nat) (ix : Int) (hi0 : 0 ≤ ix) (hi1 : ix ≤ 2) (k : Int) (hc0 : 0 ≤ k) (hc1 : k < 256) (hr : n ≤ 4) (hd0 : cz k = 3) (hd1 : cq k = 0) : mFirst_Said m w c sl b n ix k := by
  unfold mFirst_Said
  have H := Lib.hid hts
  clear hts
  obtain ⟨⟨hy0, hy1⟩, ⟨hz0, hz1⟩, ⟨hx0, hx3⟩, ⟨hq0, hq1⟩, ⟨hp0, hp1⟩⟩ := code_bd hc0 hc1
  have hpl := mPlace_le ix
  obtain ⟨l, hm⟩ : ∃ l, mFirst ix k = l := ⟨_, rfl⟩
  have HL := Lib.hid hm
  simp [mFirst, *] at hm
  subst hm
  go_enter Tryz.func107, Tryz.ntmps107
  go_wp2_with (first | (go_at_call 159; refine Calls.mono (read_ov (by assumption) _ _ _ _ _) ?_; rintro e W ⟨rfl, w1, hx1, hb1, rfl⟩) | (go_at_call 160; refine Calls.mono (write_ov (by assumption) _ _ _ _ _) ?_; rintro e W ⟨rfl, w1, hx1, hb1, rfl⟩) | (go_at_call 155; refine Calls.mono (wait_ov (by assumption) _ _ _ _ _) ?_; rintro e W ⟨rfl, w1, hx1, hb1, rfl⟩) | (go_at_call 154; refine Calls.mono (work_ov (by assumption) _ _ _ _) ?_; rintro e W ⟨rfl, w1, hx1, hb1, rfl⟩) | (go_at_call 153; refine Calls.mono (word_any (by assumption) H.out _ _ _ _ (by omega)) ?_; rintro e W ⟨rfl, w1, hx1, hb1, rfl⟩) | (go_at_call 158; refine Calls.mono (place_any (by assumption) H.out _ _ _ _ _ hi0 hi1 (by omega)) ?_; rintro e W ⟨rfl, w1, hx1, hb1, rfl⟩) | (go_at_call 152; refine Calls.mono (more_v1 (by assumption) H.out _ _ _ _ _ _ _ ?_ ?_ ?_) ?_; (· rfl); (· rfl); (· omega); rintro e W ⟨rfl, w1, hx1, hb1, rfl⟩) | (go_at_call 150; refine Calls.mono (mJumps_any (by assumption) H.out _ _ _ _ _ hc0 hc1 (by omega)) ?_; rintro e W ⟨rfl, w1, hx1, hb1, rfl⟩) | (go_at_call 156; refine Calls.mono (mMoves_any (by assumption) H.out _ _ _ _ _ hc0 hc1 (by omega)) ?_; rintro e W ⟨rfl, w1, hx1, hb1, rfl⟩) | (go_at_call 157; refine (my_any _ _ hc0 hc1).mono ?_; rintro e W ⟨rfl, rfl⟩) | (go_at_call 149; refine (mz_any _ _ hc0 hc1).mono ?_; rintro e W ⟨rfl, rfl⟩) | (go_at_call 151; refine (mq_any _ _ hc0 hc1).mono ?_; rintro e W ⟨rfl, rfl⟩))
  rw [HL.out]
  go_ret
  exact ⟨ret_sl (by first | rfl | (simp only [List.length_append, List.length_cons, List.length_nil]; omega)), fin (by assumption) (by repeat (first | exact Ext.refl _ | assumption | refine Ext.trans ?_ (by assumption))) (by first | rfl | exact (app_nil _ _).symm | exact app_app _ _ _ _ | exact app_app3 _ _ _ _ _)⟩
set_option maxHeartbeats 1000000 in
theorem mFirst_5 {m : Mac} {w : World} (hb : Base m w) (hts : m.ts = 115) (c : Cp) (sl : Nat → Int) (b : Bd) (n : Nat) (ix : Int) (hi0 : 0 ≤ ix) (hi1 : ix ≤ 2) (k : Int) (hc0 : 0 ≤ k) (hc1 : k < 256) (hr : n ≤ 4) (hd0 : cz k = 3) (hd1 : cq k = 1) : mFirst_Said m w c sl b n ix k := by
  unfold mFirst_Said
  have H := Lib.hid hts
  clear hts
  obtain ⟨⟨hy0, hy1⟩, ⟨hz0, hz1⟩, ⟨hx0, hx3⟩, ⟨hq0, hq1⟩, ⟨hp0, hp1⟩⟩ := code_bd hc0 hc1
  have hpl := mPlace_le ix
  obtain ⟨l, hm⟩ : ∃ l, mFirst ix k = l := ⟨_, rfl⟩
  have HL := Lib.hid hm
  simp [mFirst, *] at hm
  subst hm
  go_enter Tryz.func107, Tryz.ntmps107
  go_wp2_with (first | (go_at_call 159; refine Calls.mono (read_ov (by assumption) _ _ _ _ _) ?_; rintro e W ⟨rfl, w1, hx1, hb1, rfl⟩) | (go_at_call 160; refine Calls.mono (write_ov (by assumption) _ _ _ _ _) ?_; rintro e W ⟨rfl, w1, hx1, hb1, rfl⟩) | (go_at_call 155; refine Calls.mono (wait_ov (by assumption) _ _ _ _ _) ?_; rintro e W ⟨rfl, w1, hx1, hb1, rfl⟩) | (go_at_call 154; refine Calls.mono (work_ov (by assumption) _ _ _ _) ?_; rintro e W ⟨rfl, w1, hx1, hb1, rfl⟩) | (go_at_call 153; refine Calls.mono (word_any (by assumption) H.out _ _ _ _ (by omega)) ?_; rintro e W ⟨rfl, w1, hx1, hb1, rfl⟩) | (go_at_call 158; refine Calls.mono (place_any (by assumption) H.out _ _ _ _ _ hi0 hi1 (by omega)) ?_; rintro e W ⟨rfl, w1, hx1, hb1, rfl⟩) | (go_at_call 152; refine Calls.mono (more_v1 (by assumption) H.out _ _ _ _ _ _ _ ?_ ?_ ?_) ?_; (· rfl); (· rfl); (· omega); rintro e W ⟨rfl, w1, hx1, hb1, rfl⟩) | (go_at_call 150; refine Calls.mono (mJumps_any (by assumption) H.out _ _ _ _ _ hc0 hc1 (by omega)) ?_; rintro e W ⟨rfl, w1, hx1, hb1, rfl⟩) | (go_at_call 156; refine Calls.mono (mMoves_any (by assumption) H.out _ _ _ _ _ hc0 hc1 (by omega)) ?_; rintro e W ⟨rfl, w1, hx1, hb1, rfl⟩) | (go_at_call 157; refine (my_any _ _ hc0 hc1).mono ?_; rintro e W ⟨rfl, rfl⟩) | (go_at_call 149; refine (mz_any _ _ hc0 hc1).mono ?_; rintro e W ⟨rfl, rfl⟩) | (go_at_call 151; refine (mq_any _ _ hc0 hc1).mono ?_; rintro e W ⟨rfl, rfl⟩))
  rw [HL.out]
  go_ret
  exact ⟨ret_sl (by first | rfl | (simp only [List.length_append, List.length_cons, List.length_nil]; omega)), fin (by assumption) (by repeat (first | exact Ext.refl _ | assumption | refine Ext.trans ?_ (by assumption))) (by first | rfl | exact (app_nil _ _).symm | exact app_app _ _ _ _ | exact app_app3 _ _ _ _ _)⟩
set_option maxHeartbeats 1000000 in
theorem mFirst_6 {m : Mac} {w : World} (hb : Base m w) (hts : m.ts = 115) (c : Cp) (sl : Nat → Int) (b : Bd) (n : Nat) (ix : Int) (hi0 : 0 ≤ ix) (hi1 : ix ≤ 2) (k : Int) (hc0 : 0 ≤ k) (hc1 : k < 256) (hr : n ≤ 4) (hd0 : cz k = 4) (hd1 : cy k = 6) : mFirst_Said m w c sl b n ix k := by
  unfold mFirst_Said
  have H := Lib.hid hts
  clear hts
  obtain ⟨⟨hy0, hy1⟩, ⟨hz0, hz1⟩, ⟨hx0, hx3⟩, ⟨hq0, hq1⟩, ⟨hp0, hp1⟩⟩ := code_bd hc0 hc1
  have hpl := mPlace_le ix
  obtain ⟨l, hm⟩ : ∃ l, mFirst ix k = l := ⟨_, rfl⟩
  have HL := Lib.hid hm
  simp [mFirst, *] at hm
  subst hm
  go_enter Tryz.func107, Tryz.ntmps107
  go_wp2_with (first | (go_at_call 159; refine Calls.mono (read_ov (by assumption) _ _ _ _ _) ?_; rintro e W ⟨rfl, w1, hx1, hb1, rfl⟩) | (go_at_call 160; refine Calls.mono (write_ov (by assumption) _ _ _ _ _) ?_; rintro e W ⟨rfl, w1, hx1, hb1, rfl⟩) | (go_at_call 155; refine Calls.mono (wait_ov (by assumption) _ _ _ _ _) ?_; rintro e W ⟨rfl, w1, hx1, hb1, rfl⟩) | (go_at_call 154; refine Calls.mono (work_ov (by assumption) _ _ _ _) ?_; rintro e W ⟨rfl, w1, hx1, hb1, rfl⟩) | (go_at_call 153; refine Calls.mono (word_any (by assumption) H.out _ _ _ _ (by omega)) ?_; rintro e W ⟨rfl, w1, hx1, hb1, rfl⟩) | (go_at_call 158; refine Calls.mono (place_any (by assumption) H.out _ _ _ _ _ hi0 hi1 (by omega)) ?_; rintro e W ⟨rfl, w1, hx1, hb1, rfl⟩) | (go_at_call 152; refine Calls.mono (more_v1 (by assumption) H.out _ _ _ _ _ _ _ ?_ ?_ ?_) ?_; (· rfl); (· rfl); (· omega); rintro e W ⟨rfl, w1, hx1, hb1, rfl⟩) | (go_at_call 150; refine Calls.mono (mJumps_any (by assumption) H.out _ _ _ _ _ hc0 hc1 (by omega)) ?_; rintro e W ⟨rfl, w1, hx1, hb1, rfl⟩) | (go_at_call 156; refine Calls.mono (mMoves_any (by assumption) H.out _ _ _ _ _ hc0 hc1 (by omega)) ?_; rintro e W ⟨rfl, w1, hx1, hb1, rfl⟩) | (go_at_call 157; refine (my_any _ _ hc0 hc1).mono ?_; rintro e W ⟨rfl, rfl⟩) | (go_at_call 149; refine (mz_any _ _ hc0 hc1).mono ?_; rintro e W ⟨rfl, rfl⟩) | (go_at_call 151; refine (mq_any _ _ hc0 hc1).mono ?_; rintro e W ⟨rfl, rfl⟩))
  rw [HL.out]
  go_ret
  exact ⟨ret_sl (by first | rfl | (simp only [List.length_append, List.length_cons, List.length_nil]; omega)), fin (by assumption) (by repeat (first | exact Ext.refl _ | assumption | refine Ext.trans ?_ (by assumption))) (by first | rfl | exact (app_nil _ _).symm | exact app_app _ _ _ _ | exact app_app3 _ _ _ _ _)⟩
set_option maxHeartbeats 1000000 in
theorem mFirst_7 {m : Mac} {w : World} (hb : Base m w) (hts : m.ts = 115) (c : Cp) (sl : Nat → Int) (b : Bd) (n : Nat) (ix : Int) (hi0 : 0 ≤ ix) (hi1 : ix ≤ 2) (k : Int) (hc0 : 0 ≤ k) (hc1 : k < 256) (hr : n ≤ 4) (hd0 : cz k = 4) (hd1 : ¬ cy k = 6) : mFirst_Said m w c sl b n ix k := by
  unfold mFirst_Said
  have H := Lib.hid hts
  clear hts
  obtain ⟨⟨hy0, hy1⟩, ⟨hz0, hz1⟩, ⟨hx0, hx3⟩, ⟨hq0, hq1⟩, ⟨hp0, hp1⟩⟩ := code_bd hc0 hc1
  have hpl := mPlace_le ix
  obtain ⟨l, hm⟩ : ∃ l, mFirst ix k = l := ⟨_, rfl⟩
  have HL := Lib.hid hm
  simp [mFirst, *] at hm
  subst hm
  have hcyk6e : (cy k == 6) = false := by simp; omega
  have hcyk6n : (cy k != 6) = true := by simp; omega
  go_enter Tryz.func107, Tryz.ntmps107
  go_wp2_with (first | (go_at_call 159; refine Calls.mono (read_ov (by assumption) _ _ _ _ _) ?_; rintro e W ⟨rfl, w1, hx1, hb1, rfl⟩) | (go_at_call 160; refine Calls.mono (write_ov (by assumption) _ _ _ _ _) ?_; rintro e W ⟨rfl, w1, hx1, hb1, rfl⟩) | (go_at_call 155; refine Calls.mono (wait_ov (by assumption) _ _ _ _ _) ?_; rintro e W ⟨rfl, w1, hx1, hb1, rfl⟩) | (go_at_call 154; refine Calls.mono (work_ov (by assumption) _ _ _ _) ?_; rintro e W ⟨rfl, w1, hx1, hb1, rfl⟩) | (go_at_call 153; refine Calls.mono (word_any (by assumption) H.out _ _ _ _ (by omega)) ?_; rintro e W ⟨rfl, w1, hx1, hb1, rfl⟩) | (go_at_call 158; refine Calls.mono (place_any (by assumption) H.out _ _ _ _ _ hi0 hi1 (by omega)) ?_; rintro e W ⟨rfl, w1, hx1, hb1, rfl⟩) | (go_at_call 152; refine Calls.mono (more_v1 (by assumption) H.out _ _ _ _ _ _ _ ?_ ?_ ?_) ?_; (· rfl); (· rfl); (· omega); rintro e W ⟨rfl, w1, hx1, hb1, rfl⟩) | (go_at_call 150; refine Calls.mono (mJumps_any (by assumption) H.out _ _ _ _ _ hc0 hc1 (by omega)) ?_; rintro e W ⟨rfl, w1, hx1, hb1, rfl⟩) | (go_at_call 156; refine Calls.mono (mMoves_any (by assumption) H.out _ _ _ _ _ hc0 hc1 (by omega)) ?_; rintro e W ⟨rfl, w1, hx1, hb1, rfl⟩) | (go_at_call 157; refine (my_any _ _ hc0 hc1).mono ?_; rintro e W ⟨rfl, rfl⟩) | (go_at_call 149; refine (mz_any _ _ hc0 hc1).mono ?_; rintro e W ⟨rfl, rfl⟩) | (go_at_call 151; refine (mq_any _ _ hc0 hc1).mono ?_; rintro e W ⟨rfl, rfl⟩))
  rw [HL.out]
  go_ret
  exact ⟨ret_sl (by first | rfl | (simp only [List.length_append, List.length_cons, List.length_nil]; omega)), fin (by assumption) (by repeat (first | exact Ext.refl _ | assumption | refine Ext.trans ?_ (by assumption))) (by first | rfl | exact (app_nil _ _).symm | exact app_app _ _ _ _ | exact app_app3 _ _ _ _ _)⟩
set_option maxHeartbeats 1000000 in
theorem mFirst_8 {m : Mac} {w : World} (hb : Base m w) (hts : m.ts = 115) (c : Cp) (sl : Nat → Int) (b : Bd) (n : Nat) (ix : Int) (hi0 : 0 ≤ ix) (hi1 : ix ≤ 2) (k : Int) (hc0 : 0 ≤ k) (hc1 : k < 256) (hr : n ≤ 4) (hd0 : cz k = 5) (hd1 : cy k = 6) : mFirst_Said m w c sl b n ix k := by
  unfold mFirst_Said
  have H := Lib.hid hts
  clear hts
  obtain ⟨⟨hy0, hy1⟩, ⟨hz0, hz1⟩, ⟨hx0, hx3⟩, ⟨hq0, hq1⟩, ⟨hp0, hp1⟩⟩ := code_bd hc0 hc1
  have hpl := mPlace_le ix
  obtain ⟨l, hm⟩ : ∃ l, mFirst ix k = l := ⟨_, rfl⟩
  have HL := Lib.hid hm
  simp [mFirst, *] at hm
  subst hm
  go_enter Tryz.func107, Tryz.ntmps107
  go_wp2_with (first | (go_at_call 159; refine Calls.mono (read_ov (by assumption) _ _ _ _ _) ?_; rintro e W ⟨rfl, w1, hx1, hb1, rfl⟩) | (go_at_call 160; refine Calls.mono (write_ov (by assumption) _ _ _ _ _) ?_; rintro e W ⟨rfl, w1, hx1, hb1, rfl⟩) | (go_at_call 155; refine Calls.mono (wait_ov (by assumption) _ _ _ _ _) ?_; rintro e W ⟨rfl, w1, hx1, hb1, rfl⟩) | (go_at_call 154; refine Calls.mono (work_ov (by assumption) _ _ _ _) ?_; rintro e W ⟨rfl, w1, hx1, hb1, rfl⟩) | (go_at_call 153; refine Calls.mono (word_any (by assumption) H.out _ _ _ _ (by omega)) ?_; rintro e W ⟨rfl, w1, hx1, hb1, rfl⟩) | (go_at_call 158; refine Calls.mono (place_any (by assumption) H.out _ _ _ _ _ hi0 hi1 (by omega)) ?_; rintro e W ⟨rfl, w1, hx1, hb1, rfl⟩) | (go_at_call 152; refine Calls.mono (more_v1 (by assumption) H.out _ _ _ _ _ _ _ ?_ ?_ ?_) ?_; (· rfl); (· rfl); (· omega); rintro e W ⟨rfl, w1, hx1, hb1, rfl⟩) | (go_at_call 150; refine Calls.mono (mJumps_any (by assumption) H.out _ _ _ _ _ hc0 hc1 (by omega)) ?_; rintro e W ⟨rfl, w1, hx1, hb1, rfl⟩) | (go_at_call 156; refine Calls.mono (mMoves_any (by assumption) H.out _ _ _ _ _ hc0 hc1 (by omega)) ?_; rintro e W ⟨rfl, w1, hx1, hb1, rfl⟩) | (go_at_call 157; refine (my_any _ _ hc0 hc1).mono ?_; rintro e W ⟨rfl, rfl⟩) | (go_at_call 149; refine (mz_any _ _ hc0 hc1).mono ?_; rintro e W ⟨rfl, rfl⟩) | (go_at_call 151; refine (mq_any _ _ hc0 hc1).mono ?_; rintro e W ⟨rfl, rfl⟩))
  rw [HL.out]
  go_ret
  exact ⟨ret_sl (by first | rfl | (simp only [List.length_append, List.length_cons, List.length_nil]; omega)), fin (by assumption) (by repeat (first | exact Ext.refl _ | assumption | refine Ext.trans ?_ (by assumption))) (by first | rfl | exact (app_nil _ _).symm | exact app_app _ _ _ _ | exact app_app3 _ _ _ _ _)⟩
set_option maxHeartbeats 1000000 in
theorem mFirst_9 {m : Mac} {w : World} (hb : Base m w) (hts : m.ts = 115) (c : Cp) (sl : Nat → Int) (b : Bd) (n : Nat) (ix : Int) (hi0 : 0 ≤ ix) (hi1 : ix ≤ 2) (k : Int) (hc0 : 0 ≤ k) (hc1 : k < 256) (hr : n ≤ 4) (hd0 : cz k = 5) (hd1 : ¬ cy k = 6) : mFirst_Said m w c sl b n ix k := by
  unfold mFirst_Said
  have H := Lib.hid hts
  clear hts
  obtain ⟨⟨hy0, hy1⟩, ⟨hz0, hz1⟩, ⟨hx0, hx3⟩, ⟨hq0, hq1⟩, ⟨hp0, hp1⟩⟩ := code_bd hc0 hc1
  have hpl := mPlace_le ix
  obtain ⟨l, hm⟩ : ∃ l, mFirst ix k = l := ⟨_, rfl⟩
  have HL := Lib.hid hm
  simp [mFirst, *] at hm
  subst hm
  have hcyk6e : (cy k == 6) = false := by simp; omega
  have hcyk6n : (cy k != 6) = true := by simp; omega
  go_enter Tryz.func107, Tryz.ntmps107
  go_wp2_with (first | (go_at_call 159; refine Calls.mono (read_ov (by assumption) _ _ _ _ _) ?_; rintro e W ⟨rfl, w1, hx1, hb1, rfl⟩) | (go_at_call 160; refine Calls.mono (write_ov (by assumption) _ _ _ _ _) ?_; rintro e W ⟨rfl, w1, hx1, hb1, rfl⟩) | (go_at_call 155; refine Calls.mono (wait_ov (by assumption) _ _ _ _ _) ?_; rintro e W ⟨rfl, w1, hx1, hb1, rfl⟩) | (go_at_call 154; refine Calls.mono (work_ov (by assumption) _ _ _ _) ?_; rintro e W ⟨rfl, w1, hx1, hb1, rfl⟩) | (go_at_call 153; refine Calls.mono (word_any (by assumption) H.out _ _ _ _ (by omega)) ?_; rintro e W ⟨rfl, w1, hx1, hb1, rfl⟩) | (go_at_call 158; refine Calls.mono (place_any (by assumption) H.out _ _ _ _ _ hi0 hi1 (by omega)) ?_; rintro e W ⟨rfl, w1, hx1, hb1, rfl⟩) | (go_at_call 152; refine Calls.mono (more_v1 (by assumption) H.out _ _ _ _ _ _ _ ?_ ?_ ?_) ?_; (· rfl); (· rfl); (· omega); rintro e W ⟨rfl, w1, hx1, hb1, rfl⟩) | (go_at_call 150; refine Calls.mono (mJumps_any (by assumption) H.out _ _ _ _ _ hc0 hc1 (by omega)) ?_; rintro e W ⟨rfl, w1, hx1, hb1, rfl⟩) | (go_at_call 156; refine Calls.mono (mMoves_any (by assumption) H.out _ _ _ _ _ hc0 hc1 (by omega)) ?_; rintro e W ⟨rfl, w1, hx1, hb1, rfl⟩) | (go_at_call 157; refine (my_any _ _ hc0 hc1).mono ?_; rintro e W ⟨rfl, rfl⟩) | (go_at_call 149; refine (mz_any _ _ hc0 hc1).mono ?_; rintro e W ⟨rfl, rfl⟩) | (go_at_call 151; refine (mq_any _ _ hc0 hc1).mono ?_; rintro e W ⟨rfl, rfl⟩))
  rw [HL.out]
  go_ret
  exact ⟨ret_sl (by first | rfl | (simp only [List.length_append, List.length_cons, List.length_nil]; omega)), fin (by assumption) (by repeat (first | exact Ext.refl _ | assumption | refine Ext.trans ?_ (by assumption))) (by first | rfl | exact (app_nil _ _).symm | exact app_app _ _ _ _ | exact app_app3 _ _ _ _ _)⟩
set_option maxHeartbeats 1000000 in
theorem mFirst_10 {m : Mac} {w : World} (hb : Base m w) (hts : m.ts = 115) (c : Cp) (sl : Nat → Int) (b : Bd) (n : Nat) (ix : Int) (hi0 : 0 ≤ ix) (hi1 : ix ≤ 2) (k : Int) (hc0 : 0 ≤ k) (hc1 : k < 256) (hr : n ≤ 4) (hd0 : cz k = 6) (hd1 : cy k = 6) (hd2 : ix = 0) : mFirst_Said m w c sl b n ix k := by
  unfold mFirst_Said
  have H := Lib.hid hts
  clear hts
  obtain ⟨⟨hy0, hy1⟩, ⟨hz0, hz1⟩, ⟨hx0, hx3⟩, ⟨hq0, hq1⟩, ⟨hp0, hp1⟩⟩ := code_bd hc0 hc1
  have hpl := mPlace_le ix
  obtain ⟨l, hm⟩ : ∃ l, mFirst ix k = l := ⟨_, rfl⟩
  have HL := Lib.hid hm
  simp [mFirst, *] at hm
  subst hm
  go_enter Tryz.func107, Tryz.ntmps107
  go_wp2_with (first | (go_at_call 159; refine Calls.mono (read_ov (by assumption) _ _ _ _ _) ?_; rintro e W ⟨rfl, w1, hx1, hb1, rfl⟩) | (go_at_call 160; refine Calls.mono (write_ov (by assumption) _ _ _ _ _) ?_; rintro e W ⟨rfl, w1, hx1, hb1, rfl⟩) | (go_at_call 155; refine Calls.mono (wait_ov (by assumption) _ _ _ _ _) ?_; rintro e W ⟨rfl, w1, hx1, hb1, rfl⟩) | (go_at_call 154; refine Calls.mono (work_ov (by assumption) _ _ _ _) ?_; rintro e W ⟨rfl, w1, hx1, hb1, rfl⟩) | (go_at_call 153; refine Calls.mono (word_any (by assumption) H.out _ _ _ _ (by omega)) ?_; rintro e W ⟨rfl, w1, hx1, hb1, rfl⟩) | (go_at_call 158; refine Calls.mono (place_any (by assumption) H.out _ _ _ _ _ hi0 hi1 (by omega)) ?_; rintro e W ⟨rfl, w1, hx1, hb1, rfl⟩) | (go_at_call 152; refine Calls.mono (more_v1 (by assumption) H.out _ _ _ _ _ _ _ ?_ ?_ ?_) ?_; (· rfl); (· rfl); (· omega); rintro e W ⟨rfl, w1, hx1, hb1, rfl⟩) | (go_at_call 150; refine Calls.mono (mJumps_any (by assumption) H.out _ _ _ _ _ hc0 hc1 (by omega)) ?_; rintro e W ⟨rfl, w1, hx1, hb1, rfl⟩) | (go_at_call 156; refine Calls.mono (mMoves_any (by assumption) H.out _ _ _ _ _ hc0 hc1 (by omega)) ?_; rintro e W ⟨rfl, w1, hx1, hb1, rfl⟩) | (go_at_call 157; refine (my_any _ _ hc0 hc1).mono ?_; rintro e W ⟨rfl, rfl⟩) | (go_at_call 149; refine (mz_any _ _ hc0 hc1).mono ?_; rintro e W ⟨rfl, rfl⟩) | (go_at_call 151; refine (mq_any _ _ hc0 hc1).mono ?_; rintro e W ⟨rfl, rfl⟩))
  rw [HL.out]
  go_ret
  exact ⟨ret_sl (by first | rfl | (simp only [List.length_append, List.length_cons, List.length_nil]; omega)), fin (by assumption) (by repeat (first | exact Ext.refl _ | assumption | refine Ext.trans ?_ (by assumption))) (by first | rfl | exact (app_nil _ _).symm | exact app_app _ _ _ _ | exact app_app3 _ _ _ _ _)⟩
set_option maxHeartbeats 1000000 in
theorem mFirst_11 {m : Mac} {w : World} (hb : Base m w) (hts : m.ts = 115) (c : Cp) (sl : Nat → Int) (b : Bd) (n : Nat) (ix : Int) (hi0 : 0 ≤ ix) (hi1 : ix ≤ 2) (k : Int) (hc0 : 0 ≤ k) (hc1 : k < 256) (hr : n ≤ 4) (hd0 : cz k = 6) (hd1 : cy k = 6) (hd2 : ¬ ix = 0) : mFirst_Said m w c sl b n ix k := by
  unfold mFirst_Said
  have H := Lib.hid hts
  clear hts
  obtain ⟨⟨hy0, hy1⟩, ⟨hz0, hz1⟩, ⟨hx0, hx3⟩, ⟨hq0, hq1⟩, ⟨hp0, hp1⟩⟩ := code_bd hc0 hc1
  have hpl := mPlace_le ix
  obtain ⟨l, hm⟩ : ∃ l, mFirst ix k = l := ⟨_, rfl⟩
  have HL := Lib.hid hm
  simp [mFirst, *] at hm
  subst hm
  have hix0e : (ix == 0) = false := by simp; omega
  have hix0n : (ix != 0) = true := by simp; omega
  go_enter Tryz.func107, Tryz.ntmps107
  go_wp2_with (first | (go_at_call 159; refine Calls.mono (read_ov (by assumption) _ _ _ _ _) ?_; rintro e W ⟨rfl, w1, hx1, hb1, rfl⟩) | (go_at_call 160; refine Calls.mono (write_ov (by assumption) _ _ _ _ _) ?_; rintro e W ⟨rfl, w1, hx1, hb1, rfl⟩) | (go_at_call 155; refine Calls.mono (wait_ov (by assumption) _ _ _ _ _) ?_; rintro e W ⟨rfl, w1, hx1, hb1, rfl⟩) | (go_at_call 154; refine Calls.mono (work_ov (by assumption) _ _ _ _) ?_; rintro e W ⟨rfl, w1, hx1, hb1, rfl⟩) | (go_at_call 153; refine Calls.mono (word_any (by assumption) H.out _ _ _ _ (by omega)) ?_; rintro e W ⟨rfl, w1, hx1, hb1, rfl⟩) | (go_at_call 158; refine Calls.mono (place_any (by assumption) H.out _ _ _ _ _ hi0 hi1 (by omega)) ?_; rintro e W ⟨rfl, w1, hx1, hb1, rfl⟩) | (go_at_call 152; refine Calls.mono (more_v1 (by assumption) H.out _ _ _ _ _ _ _ ?_ ?_ ?_) ?_; (· rfl); (· rfl); (· omega); rintro e W ⟨rfl, w1, hx1, hb1, rfl⟩) | (go_at_call 150; refine Calls.mono (mJumps_any (by assumption) H.out _ _ _ _ _ hc0 hc1 (by omega)) ?_; rintro e W ⟨rfl, w1, hx1, hb1, rfl⟩) | (go_at_call 156; refine Calls.mono (mMoves_any (by assumption) H.out _ _ _ _ _ hc0 hc1 (by omega)) ?_; rintro e W ⟨rfl, w1, hx1, hb1, rfl⟩) | (go_at_call 157; refine (my_any _ _ hc0 hc1).mono ?_; rintro e W ⟨rfl, rfl⟩) | (go_at_call 149; refine (mz_any _ _ hc0 hc1).mono ?_; rintro e W ⟨rfl, rfl⟩) | (go_at_call 151; refine (mq_any _ _ hc0 hc1).mono ?_; rintro e W ⟨rfl, rfl⟩))
  rw [HL.out]
  go_ret
  exact ⟨ret_sl (by first | rfl | (simp only [List.length_append, List.length_cons, List.length_nil]; omega)), fin (by assumption) (by repeat (first | exact Ext.refl _ | assumption | refine Ext.trans ?_ (by assumption))) (by first | rfl | exact (app_nil _ _).symm | exact app_app _ _ _ _ | exact app_app3 _ _ _ _ _)⟩
set_option maxHeartbeats 1000000 in
theorem mFirst_12 {m : Mac} {w : World} (hb : Base m w) (hts : m.ts = 115) (c : Cp) (sl : Nat → Int) (b : Bd) (n : Nat) (ix : Int) (hi0 : 0 ≤ ix) (hi1 : ix ≤ 2) (k : Int) (hc0 : 0 ≤ k) (hc1 : k < 256) (hr : n ≤ 4) (hd0 : cz k = 6) (hd1 : ¬ cy k = 6) : mFirst_Said m w c sl b n ix k := by
  unfold mFirst_Said
  have H := Lib.hid hts
  clear hts
  obtain ⟨⟨hy0, hy1⟩, ⟨hz0, hz1⟩, ⟨hx0, hx3⟩, ⟨hq0, hq1⟩, ⟨hp0, hp1⟩⟩ := code_bd hc0 hc1
  have hpl := mPlace_le ix
  obtain ⟨l, hm⟩ : ∃ l, mFirst ix k = l := ⟨_, rfl⟩
  have HL := Lib.hid hm
  simp [mFirst, *] at hm
  subst hm
  have hcyk6e : (cy k == 6) = false := by simp; omega
  have hcyk6n : (cy k != 6) = true := by simp; omega
  go_enter Tryz.func107, Tryz.ntmps107
  go_wp2_with (first | (go_at_call 159; refine Calls.mono (read_ov (by assumption) _ _ _ _ _) ?_; rintro e W ⟨rfl, w1, hx1, hb1, rfl⟩) | (go_at_call 160; refine Calls.mono (write_ov (by assumption) _ _ _ _ _) ?_; rintro e W ⟨rfl, w1, hx1, hb1, rfl⟩) | (go_at_call 155; refine Calls.mono (wait_ov (by assumption) _ _ _ _ _) ?_; rintro e W ⟨rfl, w1, hx1, hb1, rfl⟩) | (go_at_call 154; refine Calls.mono (work_ov (by assumption) _ _ _ _) ?_; rintro e W ⟨rfl, w1, hx1, hb1, rfl⟩) | (go_at_call 153; refine Calls.mono (word_any (by assumption) H.out _ _ _ _ (by omega)) ?_; rintro e W ⟨rfl, w1, hx1, hb1, rfl⟩) | (go_at_call 158; refine Calls.mono (place_any (by assumption) H.out _ _ _ _ _ hi0 hi1 (by omega)) ?_; rintro e W ⟨rfl, w1, hx1, hb1, rfl⟩) | (go_at_call 152; refine Calls.mono (more_v1 (by assumption) H.out _ _ _ _ _ _ _ ?_ ?_ ?_) ?_; (· rfl); (· rfl); (· omega); rintro e W ⟨rfl, w1, hx1, hb1, rfl⟩) | (go_at_call 150; refine Calls.mono (mJumps_any (by assumption) H.out _ _ _ _ _ hc0 hc1 (by omega)) ?_; rintro e W ⟨rfl, w1, hx1, hb1, rfl⟩) | (go_at_call 156; refine Calls.mono (mMoves_any (by assumption) H.out _ _ _ _ _ hc0 hc1 (by omega)) ?_; rintro e W ⟨rfl, w1, hx1, hb1, rfl⟩) | (go_at_call 157; refine (my_any _ _ hc0 hc1).mono ?_; rintro e W ⟨rfl, rfl⟩) | (go_at_call 149; refine (mz_any _ _ hc0 hc1).mono ?_; rintro e W ⟨rfl, rfl⟩) | (go_at_call 151; refine (mq_any _ _ hc0 hc1).mono ?_; rintro e W ⟨rfl, rfl⟩))
  rw [HL.out]
  go_ret
  exact ⟨ret_sl (by first | rfl | (simp only [List.length_append, List.length_cons, List.length_nil]; omega)), fin (by assumption) (by repeat (first | exact Ext.refl _ | assumption | refine Ext.trans ?_ (by assumption))) (by first | rfl | exact (app_nil _ _).symm | exact app_app _ _ _ _ | exact app_app3 _ _ _ _ _)⟩
set_option maxHeartbeats 1000000 in
theorem mFirst_13 {m : Mac} {w : World} (hb : Base m w) (hts : m.ts = 115) (c : Cp) (sl : Nat → Int) (b : Bd) (n : Nat) (ix : Int) (hi0 : 0 ≤ ix) (hi1 : ix ≤ 2) (k : Int) (hc0 : 0 ≤ k) (hc1 : k < 256) (hr : n ≤ 4) (hd0 : cz k = 7) : mFirst_Said m w c sl b n ix k := by
  unfold mFirst_Said
  have H := Lib.hid hts
  clear hts
  obtain ⟨⟨hy0, hy1⟩, ⟨hz0, hz1⟩, ⟨hx0, hx3⟩, ⟨hq0, hq1⟩, ⟨hp0, hp1⟩⟩ := code_bd hc0 hc1
  have hpl := mPlace_le ix
  obtain ⟨l, hm⟩ : ∃ l, mFirst ix k = l := ⟨_, rfl⟩
  have HL := Lib.hid hm
  simp [mFirst, *] at hm
  subst hm
  go_enter Tryz.func107, Tryz.ntmps107
  go_wp2_with (first | (go_at_call 159; refine Calls.mono (read_ov (by assumption) _ _ _ _ _) ?_; rintro e W ⟨rfl, w1, hx1, hb1, rfl⟩) | (go_at_call 160; refine Calls.mono (write_ov (by assumption) _ _ _ _ _) ?_; rintro e W ⟨rfl, w1, hx1, hb1, rfl⟩) | (go_at_call 155; refine Calls.mono (wait_ov (by assumption) _ _ _ _ _) ?_; rintro e W ⟨rfl, w1, hx1, hb1, rfl⟩) | (go_at_call 154; refine Calls.mono (work_ov (by assumption) _ _ _ _) ?_; rintro e W ⟨rfl, w1, hx1, hb1, rfl⟩) | (go_at_call 153; refine Calls.mono (word_any (by assumption) H.out _ _ _ _ (by omega)) ?_; rintro e W ⟨rfl, w1, hx1, hb1, rfl⟩) | (go_at_call 158; refine Calls.mono (place_any (by assumption) H.out _ _ _ _ _ hi0 hi1 (by omega)) ?_; rintro e W ⟨rfl, w1, hx1, hb1, rfl⟩) | (go_at_call 152; refine Calls.mono (more_v1 (by assumption) H.out _ _ _ _ _ _ _ ?_ ?_ ?_) ?_; (· rfl); (· rfl); (· omega); rintro e W ⟨rfl, w1, hx1, hb1, rfl⟩) | (go_at_call 150; refine Calls.mono (mJumps_any (by assumption) H.out _ _ _ _ _ hc0 hc1 (by omega)) ?_; rintro e W ⟨rfl, w1, hx1, hb1, rfl⟩) | (go_at_call 156; refine Calls.mono (mMoves_any (by assumption) H.out _ _ _ _ _ hc0 hc1 (by omega)) ?_; rintro e W ⟨rfl, w1, hx1, hb1, rfl⟩) | (go_at_call 157; refine (my_any _ _ hc0 hc1).mono ?_; rintro e W ⟨rfl, rfl⟩) | (go_at_call 149; refine (mz_any _ _ hc0 hc1).mono ?_; rintro e W ⟨rfl, rfl⟩) | (go_at_call 151; refine (mq_any _ _ hc0 hc1).mono ?_; rintro e W ⟨rfl, rfl⟩))
  rw [HL.out]
  go_ret
  exact ⟨ret_sl (by first | rfl | (simp only [List.length_append, List.length_cons, List.length_nil]; omega)), fin (by assumption) (by repeat (first | exact Ext.refl _ | assumption | refine Ext.trans ?_ (by assumption))) (by first | rfl | exact (app_nil _ _).symm | exact app_app _ _ _ _ | exact app_app3 _ _ _ _ _)⟩
set_option maxHeartbeats 8000000 in
theorem mFirst_any {m : Mac} {w : World} (hb : Base m w) (hts : m.ts = 115) (c : Cp) (sl : Nat → Int) (b : Bd) (n : Nat) (ix : Int) (hi0 : 0 ≤ ix) (hi1 : ix ≤ 2) (k : Int) (hc0 : 0 ≤ k) (hc1 : k < 256) (hr : n ≤ 4) : Calls Tryz.prog 107 #[.slice (some ⟨m.s, 0, none⟩) n 16, .int .i64 ix, .int .u8 k] (mk w m c sl b) fun e W => e = .returned (.slice (some ⟨m.s, 0, none⟩) (n + (mFirst ix k).length) 16) ∧ Lft w m c (app sl n (mFirst ix k)) b W := by
  obtain ⟨⟨hy0, hy1⟩, ⟨hz0, hz1⟩, ⟨hx0, hx3⟩, ⟨hq0, hq1⟩, ⟨hp0, hp1⟩⟩ := code_bd hc0 hc1
  rcases (by omega : cz k = 0 ∨ cz k = 1 ∨ cz k = 2 ∨ cz k = 3 ∨ cz k = 4 ∨ cz k = 5 ∨ cz k = 6 ∨ cz k = 7) with hd | hd | hd | hd | hd | hd | hd | hd
  · exact mFirst_0 hb hts c sl b n ix hi0 hi1 k hc0 hc1 hr (by first | assumption | omega)
  · rcases (by omega : cq k = 0 ∨ cq k = 1) with hd | hd
    · exact mFirst_1 hb hts c sl b n ix hi0 hi1 k hc0 hc1 hr (by first | assumption | omega) (by first | assumption | omega)
    · exact mFirst_2 hb hts c sl b n ix hi0 hi1 k hc0 hc1 hr (by first | assumption | omega) (by first | assumption | omega)
  · exact mFirst_3 hb hts c sl b n ix hi0 hi1 k hc0 hc1 hr (by first | assumption | omega)
  · rcases (by omega : cq k = 0 ∨ cq k = 1) with hd | hd
    · exact mFirst_4 hb hts c sl b n ix hi0 hi1 k hc0 hc1 hr (by first | assumption | omega) (by first | assumption | omega)
    · exact mFirst_5 hb hts c sl b n ix hi0 hi1 k hc0 hc1 hr (by first | assumption | omega) (by first | assumption | omega)
  · by_cases hd : cy k = 6
    · exact mFirst_6 hb hts c sl b n ix hi0 hi1 k hc0 hc1 hr (by first | assumption | omega) (by first | assumption | omega)
    · exact mFirst_7 hb hts c sl b n ix hi0 hi1 k hc0 hc1 hr (by first | assumption | omega) (by first | assumption | omega)
  · by_cases hd : cy k = 6
    · exact mFirst_8 hb hts c sl b n ix hi0 hi1 k hc0 hc1 hr (by first | assumption | omega) (by first | assumption | omega)
    · exact mFirst_9 hb hts c sl b n ix hi0 hi1 k hc0 hc1 hr (by first | assumption | omega) (by first | assumption | omega)
  · by_cases hd : cy k = 6
    · by_cases hd : ix = 0
      · exact mFirst_10 hb hts c sl b n ix hi0 hi1 k hc0 hc1 hr (by first | assumption | omega) (by first | assumption | omega) (by first | assumption | omega)
      · exact mFirst_11 hb hts c sl b n ix hi0 hi1 k hc0 hc1 hr (by first | assumption | omega) (by first | assumption | omega) (by first | assumption | omega)
    · exact mFirst_12 hb hts c sl b n ix hi0 hi1 k hc0 hc1 hr (by first | assumption | omega) (by first | assumption | omega)
  · exact mFirst_13 hb hts c sl b n ix hi0 hi1 k hc0 hc1 hr (by first | assumption | omega)

def mLoads_Said (m : Mac) (w : World) (c : Cp) (sl : Nat → Int) (b : Bd) (n : Nat) (ix : Int) (k : Int) : Prop := Calls Tryz.prog 108 #[.slice (some ⟨m.s, 0, none⟩) n 16, .int .i64 ix, .int .u8 k] (mk w m c sl b) fun e W => e = .returned (.slice (some ⟨m.s, 0, none⟩) (n + (mLoads ix k).length) 16) ∧ Lft w m c (app sl n (mLoads ix k)) b W
set_option maxHeartbeats 1000000 in
theorem mLoads_0 {m : Mac} {w : World} (hb : Base m w) (hts : m.ts = 115) (c : Cp) (sl : Nat → Int) (b : Bd) (n : Nat) (ix : Int) (hi0 : 0 ≤ ix) (hi1 : ix ≤ 2) (k : Int) (hc0 : 0 ≤ k) (hc1 : k < 256) (hr : n ≤ 4) (hd0 : k = 118) : mLoads_Said m w c sl b n ix k := by
  unfold mLoads_Said
  have H := Lib.hid hts
  clear hts
  obtain ⟨⟨hy0, hy1⟩, ⟨hz0, hz1⟩, ⟨hx0, hx3⟩, ⟨hq0, hq1⟩, ⟨hp0, hp1⟩⟩ := code_bd hc0 hc1
  have hpl := mPlace_le ix
  obtain ⟨l, hm⟩ : ∃ l, mLoads ix k = l := ⟨_, rfl⟩
  have HL := Lib.hid hm
  simp [mLoads, *] at hm
  subst hm
  go_enter Tryz.func108, Tryz.ntmps108
  go_wp2_with (first | (go_at_call 159; refine Calls.mono (read_ov (by assumption) _ _ _ _ _) ?_; rintro e W ⟨rfl, w1, hx1, hb1, rfl⟩) | (go_at_call 160; refine Calls.mono (write_ov (by assumption) _ _ _ _ _) ?_; rintro e W ⟨rfl, w1, hx1, hb1, rfl⟩) | (go_at_call 154; refine Calls.mono (work_ov (by assumption) _ _ _ _) ?_; rintro e W ⟨rfl, w1, hx1, hb1, rfl⟩) | (go_at_call 158; refine Calls.mono (place_any (by assumption) H.out _ _ _ _ _ hi0 hi1 (by omega)) ?_; rintro e W ⟨rfl, w1, hx1, hb1, rfl⟩) | (go_at_call 152; refine Calls.mono (more_v1 (by assumption) H.out _ _ _ _ _ _ _ ?_ ?_ ?_) ?_; (· rfl); (· rfl); (· omega); rintro e W ⟨rfl, w1, hx1, hb1, rfl⟩) | (go_at_call 157; refine (my_any _ _ hc0 hc1).mono ?_; rintro e W ⟨rfl, rfl⟩) | (go_at_call 149; refine (mz_any _ _ hc0 hc1).mono ?_; rintro e W ⟨rfl, rfl⟩))
  rw [HL.out]
  go_ret
  exact ⟨ret_sl (by first | rfl | (simp only [List.length_append, List.length_cons, List.length_nil]; omega)), fin (by assumption) (by repeat (first | exact Ext.refl _ | assumption | refine Ext.trans ?_ (by assumption))) (by first | rfl | exact (app_nil _ _).symm | exact app_app _ _ _ _ | exact app_app3 _ _ _ _ _)⟩
set_option maxHeartbeats 1000000 in
theorem mLoads_1 {m : Mac} {w : World} (hb : Base m w) (hts : m.ts = 115) (c : Cp) (sl : Nat → Int) (b : Bd) (n : Nat) (ix : Int) (hi0 : 0 ≤ ix) (hi1 : ix ≤ 2) (k : Int) (hc0 : 0 ≤ k) (hc1 : k < 256) (hr : n ≤ 4) (hd0 : ¬ k = 118) (hd1 : cz k = 6) : mLoads_Said m w c sl b n ix k := by
  unfold mLoads_Said
  have H := Lib.hid hts
  clear hts
  obtain ⟨⟨hy0, hy1⟩, ⟨hz0, hz1⟩, ⟨hx0, hx3⟩, ⟨hq0, hq1⟩, ⟨hp0, hp1⟩⟩ := code_bd hc0 hc1
  have hpl := mPlace_le ix
  obtain ⟨l, hm⟩ : ∃ l, mLoads ix k = l := ⟨_, rfl⟩
  have HL := Lib.hid hm
  simp [mLoads, *] at hm
  subst hm
  have hk118e : (k  == 118) = false := by simp; omega
  have hk118n : (k  != 118) = true := by simp; omega
  go_enter Tryz.func108, Tryz.ntmps108
  go_wp2_with (first | (go_at_call 159; refine Calls.mono (read_ov (by assumption) _ _ _ _ _) ?_; rintro e W ⟨rfl, w1, hx1, hb1, rfl⟩) | (go_at_call 160; refine Calls.mono (write_ov (by assumption) _ _ _ _ _) ?_; rintro e W ⟨rfl, w1, hx1, hb1, rfl⟩) | (go_at_call 154; refine Calls.mono (work_ov (by assumption) _ _ _ _) ?_; rintro e W ⟨rfl, w1, hx1, hb1, rfl⟩) | (go_at_call 158; refine Calls.mono (place_any (by assumption) H.out _ _ _ _ _ hi0 hi1 (by omega)) ?_; rintro e W ⟨rfl, w1, hx1, hb1, rfl⟩) | (go_at_call 152; refine Calls.mono (more_v1 (by assumption) H.out _ _ _ _ _ _ _ ?_ ?_ ?_) ?_; (· rfl); (· rfl); (· omega); rintro e W ⟨rfl, w1, hx1, hb1, rfl⟩) | (go_at_call 157; refine (my_any _ _ hc0 hc1).mono ?_; rintro e W ⟨rfl, rfl⟩) | (go_at_call 149; refine (mz_any _ _ hc0 hc1).mono ?_; rintro e W ⟨rfl, rfl⟩))
  rw [HL.out]
  go_ret
  exact ⟨ret_sl (by first | rfl | (simp only [List.length_append, List.length_cons, List.length_nil]; omega)), fin (by assumption) (by repeat (first | exact Ext.refl _ | assumption | refine Ext.trans ?_ (by assumption))) (by first | rfl | exact (app_nil _ _).symm | exact app_app _ _ _ _ | exact app_app3 _ _ _ _ _)⟩
set_option maxHeartbeats 1000000 in
theorem mLoads_2 {m : Mac} {w : World} (hb : Base m w) (hts : m.ts = 115) (c : Cp) (sl : Nat → Int) (b : Bd) (n : Nat) (ix : Int) (hi0 : 0 ≤ ix) (hi1 : ix ≤ 2) (k : Int) (hc0 : 0 ≤ k) (hc1 : k < 256) (hr : n ≤ 4) (hd0 : ¬ k = 118) (hd1 : ¬ cz k = 6) (hd2 : cy k = 6) : mLoads_Said m w c sl b n ix k := by
  unfold mLoads_Said
  have H := Lib.hid hts
  clear hts
  obtain ⟨⟨hy0, hy1⟩, ⟨hz0, hz1⟩, ⟨hx0, hx3⟩, ⟨hq0, hq1⟩, ⟨hp0, hp1⟩⟩ := code_bd hc0 hc1
  have hpl := mPlace_le ix
  obtain ⟨l, hm⟩ : ∃ l, mLoads ix k = l := ⟨_, rfl⟩
  have HL := Lib.hid hm
  simp [mLoads, *] at hm
  subst hm
  have hk118e : (k  == 118) = false := by simp; omega
  have hk118n : (k  != 118) = true := by simp; omega
  have hczk6e : (cz k == 6) = false := by simp; omega
  have hczk6n : (cz k != 6) = true := by simp; omega
  go_enter Tryz.func108, Tryz.ntmps108
  go_wp2_with (first | (go_at_call 159; refine Calls.mono (read_ov (by assumption) _ _ _ _ _) ?_; rintro e W ⟨rfl, w1, hx1, hb1, rfl⟩) | (go_at_call 160; refine Calls.mono (write_ov (by assumption) _ _ _ _ _) ?_; rintro e W ⟨rfl, w1, hx1, hb1, rfl⟩) | (go_at_call 154; refine Calls.mono (work_ov (by assumption) _ _ _ _) ?_; rintro e W ⟨rfl, w1, hx1, hb1, rfl⟩) | (go_at_call 158; refine Calls.mono (place_any (by assumption) H.out _ _ _ _ _ hi0 hi1 (by omega)) ?_; rintro e W ⟨rfl, w1, hx1, hb1, rfl⟩) | (go_at_call 152; refine Calls.mono (more_v1 (by assumption) H.out _ _ _ _ _ _ _ ?_ ?_ ?_) ?_; (· rfl); (· rfl); (· omega); rintro e W ⟨rfl, w1, hx1, hb1, rfl⟩) | (go_at_call 157; refine (my_any _ _ hc0 hc1).mono ?_; rintro e W ⟨rfl, rfl⟩) | (go_at_call 149; refine (mz_any _ _ hc0 hc1).mono ?_; rintro e W ⟨rfl, rfl⟩))
  rw [HL.out]
  go_ret
  exact ⟨ret_sl (by first | rfl | (simp only [List.length_append, List.length_cons, List.length_nil]; omega)), fin (by assumption) (by repeat (first | exact Ext.refl _ | assumption | refine Ext.trans ?_ (by assumption))) (by first | rfl | exact (app_nil _ _).symm | exact app_app _ _ _ _ | exact app_app3 _ _ _ _ _)⟩
set_option maxHeartbeats 1000000 in
theorem mLoads_3 {m : Mac} {w : World} (hb : Base m w) (hts : m.ts = 115) (c : Cp) (sl : Nat → Int) (b : Bd) (n : Nat) (ix : Int) (hi0 : 0 ≤ ix) (hi1 : ix ≤ 2) (k : Int) (hc0 : 0 ≤ k) (hc1 : k < 256) (hr : n ≤ 4) (hd0 : ¬ k = 118) (hd1 : ¬ cz k = 6) (hd2 : ¬ cy k = 6) : mLoads_Said m w c sl b n ix k := by
  unfold mLoads_Said
  have H := Lib.hid hts
  clear hts
  obtain ⟨⟨hy0, hy1⟩, ⟨hz0, hz1⟩, ⟨hx0, hx3⟩, ⟨hq0, hq1⟩, ⟨hp0, hp1⟩⟩ := code_bd hc0 hc1
  have hpl := mPlace_le ix
  obtain ⟨l, hm⟩ : ∃ l, mLoads ix k = l := ⟨_, rfl⟩
  have HL := Lib.hid hm
  simp [mLoads, *] at hm
  subst hm
  have hk118e : (k  == 118) = false := by simp; omega
  have hk118n : (k  != 118) = true := by simp; omega
  have hczk6e : (cz k == 6) = false := by simp; omega
  have hczk6n : (cz k != 6) = true := by simp; omega
  have hcyk6e : (cy k == 6) = false := by simp; omega
  have hcyk6n : (cy k != 6) = true := by simp; omega
  go_enter Tryz.func108, Tryz.ntmps108
  go_wp2_with (first | (go_at_call 159; refine Calls.mono (read_ov (by assumption) _ _ _ _ _) ?_; rintro e W ⟨rfl, w1, hx1, hb1, rfl⟩) | (go_at_call 160; refine Calls.mono (write_ov (by assumption) _ _ _ _ _) ?_; rintro e W ⟨rfl, w1, hx1, hb1, rfl⟩) | (go_at_call 154; refine Calls.mono (work_ov (by assumption) _ _ _ _) ?_; rintro e W ⟨rfl, w1, hx1, hb1, rfl⟩) | (go_at_call 158; refine Calls.mono (place_any (by assumption) H.out _ _ _ _ _ hi0 hi1 (by omega)) ?_; rintro e W ⟨rfl, w1, hx1, hb1, rfl⟩) | (go_at_call 152; refine Calls.mono (more_v1 (by assumption) H.out _ _ _ _ _ _ _ ?_ ?_ ?_) ?_; (· rfl); (· rfl); (· omega); rintro e W ⟨rfl, w1, hx1, hb1, rfl⟩) | (go_at_call 157; refine (my_any _ _ hc0 hc1).mono ?_; rintro e W ⟨rfl, rfl⟩) | (go_at_call 149; refine (mz_any _ _ hc0 hc1).mono ?_; rintro e W ⟨rfl, rfl⟩))
  rw [HL.out]
  go_ret
  exact ⟨ret_sl (by first | rfl | (simp only [List.length_append, List.length_cons, List.length_nil]; omega)), fin (by assumption) (by repeat (first | exact Ext.refl _ | assumption | refine Ext.trans ?_ (by assumption))) (by first | rfl | exact (app_nil _ _).symm | exact app_app _ _ _ _ | exact app_app3 _ _ _ _ _)⟩
set_option maxHeartbeats 8000000 in
theorem mLoads_any {m : Mac} {w : World} (hb : Base m w) (hts : m.ts = 115) (c : Cp) (sl : Nat → Int) (b : Bd) (n : Nat) (ix : Int) (hi0 : 0 ≤ ix) (hi1 : ix ≤ 2) (k : Int) (hc0 : 0 ≤ k) (hc1 : k < 256) (hr : n ≤ 4) : Calls Tryz.prog 108 #[.slice (some ⟨m.s, 0, none⟩) n 16, .int .i64 ix, .int .u8 k] (mk w m c sl b) fun e W => e = .returned (.slice (some ⟨m.s, 0, none⟩) (n + (mLoads ix k).length) 16) ∧ Lft w m c (app sl n (mLoads ix k)) b W := by
  obtain ⟨⟨hy0, hy1⟩, ⟨hz0, hz1⟩, ⟨hx0, hx3⟩, ⟨hq0, hq1⟩, ⟨hp0, hp1⟩⟩ := code_bd hc0 hc1
  by_cases hd : k = 118
  · exact mLoads_0 hb hts c sl b n ix hi0 hi1 k hc0 hc1 hr (by first | assumption | omega)
  · by_cases hd : cz k = 6
    · exact mLoads_1 hb hts c sl b n ix hi0 hi1 k hc0 hc1 hr (by first | assumption | omega) (by first | assumption | omega)
    · by_cases hd : cy k = 6
      · exact mLoads_2 hb hts c sl b n ix hi0 hi1 k hc0 hc1 hr (by first | assumption | omega) (by first | assumption | omega) (by first | assumption | omega)
      · exact mLoads_3 hb hts c sl b n ix hi0 hi1 k hc0 hc1 hr (by first | assumption | omega) (by first | assumption | omega) (by first | assumption | omega)

def mSums_Said (m : Mac) (w : World) (c : Cp) (sl : Nat → Int) (b : Bd) (n : Nat) (ix : Int) (k : Int) : Prop := Calls Tryz.prog 109 #[.slice (some ⟨m.s, 0, none⟩) n 16, .int .i64 ix, .int .u8 k] (mk w m c sl b) fun e W => e = .returned (.slice (some ⟨m.s, 0, none⟩) (n + (mSums ix k).length) 16) ∧ Lft w m c (app sl n (mSums ix k)) b W
set_option maxHeartbeats 1000000 in
theorem mSums_0 {m : Mac} {w : World} (hb : Base m w) (hts : m.ts = 115) (c : Cp) (sl : Nat → Int) (b : Bd) (n : Nat) (ix : Int) (hi0 : 0 ≤ ix) (hi1 : ix ≤ 2) (k : Int) (hc0 : 0 ≤ k) (hc1 : k < 256) (hr : n ≤ 4) (hd0 : cz k = 6) : mSums_Said m w c sl b n ix k := by
  unfold mSums_Said
  have H := Lib.hid hts
  clear hts
  obtain ⟨⟨hy0, hy1⟩, ⟨hz0, hz1⟩, ⟨hx0, hx3⟩, ⟨hq0, hq1⟩, ⟨hp0, hp1⟩⟩ := code_bd hc0 hc1
  have hpl := mPlace_le ix
  obtain ⟨l, hm⟩ : ∃ l, mSums ix k = l := ⟨_, rfl⟩
  have HL := Lib.hid hm
  simp [mSums, *] at hm
  subst hm
  go_enter Tryz.func109, Tryz.ntmps109
  go_wp2_with (first | (go_at_call 159; refine Calls.mono (read_ov (by assumption) _ _ _ _ _) ?_; rintro e W ⟨rfl, w1, hx1, hb1, rfl⟩) | (go_at_call 154; refine Calls.mono (work_ov (by assumption) _ _ _ _) ?_; rintro e W ⟨rfl, w1, hx1, hb1, rfl⟩) | (go_at_call 158; refine Calls.mono (place_any (by assumption) H.out _ _ _ _ _ hi0 hi1 (by omega)) ?_; rintro e W ⟨rfl, w1, hx1, hb1, rfl⟩) | (go_at_call 152; refine Calls.mono (more_v1 (by assumption) H.out _ _ _ _ _ _ _ ?_ ?_ ?_) ?_; (· rfl); (· rfl); (· omega); rintro e W ⟨rfl, w1, hx1, hb1, rfl⟩) | (go_at_call 149; refine (mz_any _ _ hc0 hc1).mono ?_; rintro e W ⟨rfl, rfl⟩))
  rw [HL.out]
  go_ret
  exact ⟨ret_sl (by first | rfl | (simp only [List.length_append, List.length_cons, List.length_nil]; omega)), fin (by assumption) (by repeat (first | exact Ext.refl _ | assumption | refine Ext.trans ?_ (by assumption))) (by first | rfl | exact (app_nil _ _).symm | exact app_app _ _ _ _ | exact app_app3 _ _ _ _ _)⟩
set_option maxHeartbeats 1000000 in
theorem mSums_1 {m : Mac} {w : World} (hb : Base m w) (hts : m.ts = 115) (c : Cp) (sl : Nat → Int) (b : Bd) (n : Nat) (ix : Int) (hi0 : 0 ≤ ix) (hi1 : ix ≤ 2) (k : Int) (hc0 : 0 ≤ k) (hc1 : k < 256) (hr : n ≤ 4) (hd0 : ¬ cz k = 6) : mSums_Said m w c sl b n ix k := by
  unfold mSums_Said
  have H := Lib.hid hts
  clear hts
  obtain ⟨⟨hy0, hy1⟩, ⟨hz0, hz1⟩, ⟨hx0, hx3⟩, ⟨hq0, hq1⟩, ⟨hp0, hp1⟩⟩ := code_bd hc0 hc1
  have hpl := mPlace_le ix
  obtain ⟨l, hm⟩ : ∃ l, mSums ix k = l := ⟨_, rfl⟩
  have HL := Lib.hid hm
  simp [mSums, *] at hm
  subst hm
  have hczk6e : (cz k == 6) = false := by simp; omega
  have hczk6n : (cz k != 6) = true := by simp; omega
  go_enter Tryz.func109, Tryz.ntmps109
  go_wp2_with (first | (go_at_call 159; refine Calls.mono (read_ov (by assumption) _ _ _ _ _) ?_; rintro e W ⟨rfl, w1, hx1, hb1, rfl⟩) | (go_at_call 154; refine Calls.mono (work_ov (by assumption) _ _ _ _) ?_; rintro e W ⟨rfl, w1, hx1, hb1, rfl⟩) | (go_at_call 158; refine Calls.mono (place_any (by assumption) H.out _ _ _ _ _ hi0 hi1 (by omega)) ?_; rintro e W ⟨rfl, w1, hx1, hb1, rfl⟩) | (go_at_call 152; refine Calls.mono (more_v1 (by assumption) H.out _ _ _ _ _ _ _ ?_ ?_ ?_) ?_; (· rfl); (· rfl); (· omega); rintro e W ⟨rfl, w1, hx1, hb1, rfl⟩) | (go_at_call 149; refine (mz_any _ _ hc0 hc1).mono ?_; rintro e W ⟨rfl, rfl⟩))
  rw [HL.out]
  go_ret
  exact ⟨ret_sl (by first | rfl | (simp only [List.length_append, List.length_cons, List.length_nil]; omega)), fin (by assumption) (by repeat (first | exact Ext.refl _ | assumption | refine Ext.trans ?_ (by assumption))) (by first | rfl | exact (app_nil _ _).symm | exact app_app _ _ _ _ | exact app_app3 _ _ _ _ _)⟩
set_option maxHeartbeats 8000000 in
theorem mSums_any {m : Mac} {w : World} (hb : Base m w) (hts : m.ts = 115) (c : Cp) (sl : Nat → Int) (b : Bd) (n : Nat) (ix : Int) (hi0 : 0 ≤ ix) (hi1 : ix ≤ 2) (k : Int) (hc0 : 0 ≤ k) (hc1 : k < 256) (hr : n ≤ 4) : Calls Tryz.prog 109 #[.slice (some ⟨m.s, 0, none⟩) n 16, .int .i64 ix, .int .u8 k] (mk w m c sl b) fun e W => e = .returned (.slice (some ⟨m.s, 0, none⟩) (n + (mSums ix k).length) 16) ∧ Lft w m c (app sl n (mSums ix k)) b W := by
  obtain ⟨⟨hy0, hy1⟩, ⟨hz0, hz1⟩, ⟨hx0, hx3⟩, ⟨hq0, hq1⟩, ⟨hp0, hp1⟩⟩ := code_bd hc0 hc1
  by_cases hd : cz k = 6
  · exact mSums_0 hb hts c sl b n ix hi0 hi1 k hc0 hc1 hr (by first | assumption | omega)
  · exact mSums_1 hb hts c sl b n ix hi0 hi1 k hc0 hc1 hr (by first | assumption | omega)

def mLast_Said (m : Mac) (w : World) (c : Cp) (sl : Nat → Int) (b : Bd) (n : Nat) (k : Int) : Prop := Calls Tryz.prog 110 #[.slice (some ⟨m.s, 0, none⟩) n 16, .int .u8 k] (mk w m c sl b) fun e W => e = .returned (.slice (some ⟨m.s, 0, none⟩) (n + (mLast k).length) 16) ∧ Lft w m c (app sl n (mLast k)) b W
set_option maxHeartbeats 1000000 in
theorem mLast_0 {m : Mac} {w : World} (hb : Base m w) (hts : m.ts = 115) (c : Cp) (sl : Nat → Int) (b : Bd) (n : Nat) (k : Int) (hc0 : 0 ≤ k) (hc1 : k < 256) (hr : n ≤ 4) (hd0 : cz k = 0) : mLast_Said m w c sl b n k := by
  unfold mLast_Said
  have H := Lib.hid hts
  clear hts
  obtain ⟨⟨hy0, hy1⟩, ⟨hz0, hz1⟩, ⟨hx0, hx3⟩, ⟨hq0, hq1⟩, ⟨hp0, hp1⟩⟩ := code_bd hc0 hc1
  obtain ⟨l, hm⟩ : ∃ l, mLast k = l := ⟨_, rfl⟩
  have HL := Lib.hid hm
  simp [mLast, *] at hm
  subst hm
  go_enter Tryz.func110, Tryz.ntmps110
  go_wp2_with (first | (go_at_call 159; refine Calls.mono (read_ov (by assumption) _ _ _ _ _) ?_; rintro e W ⟨rfl, w1, hx1, hb1, rfl⟩) | (go_at_call 160; refine Calls.mono (write_ov (by assumption) _ _ _ _ _) ?_; rintro e W ⟨rfl, w1, hx1, hb1, rfl⟩) | (go_at_call 155; refine Calls.mono (wait_ov (by assumption) _ _ _ _ _) ?_; rintro e W ⟨rfl, w1, hx1, hb1, rfl⟩) | (go_at_call 154; refine Calls.mono (work_ov (by assumption) _ _ _ _) ?_; rintro e W ⟨rfl, w1, hx1, hb1, rfl⟩) | (go_at_call 161; refine Calls.mono (unless_ov (by assumption) _ _ _ _) ?_; rintro e W ⟨rfl, w1, hx1, hb1, rfl⟩) | (go_at_call 153; refine Calls.mono (word_any (by assumption) H.out _ _ _ _ (by omega)) ?_; rintro e W ⟨rfl, w1, hx1, hb1, rfl⟩) | (go_at_call 164; refine Calls.mono (call_any (by assumption) H.out _ _ _ _ (by omega)) ?_; rintro e W ⟨rfl, w1, hx1, hb1, rfl⟩) | (go_at_call 152; refine Calls.mono (more_v1 (by assumption) H.out _ _ _ _ _ _ _ ?_ ?_ ?_) ?_; (· rfl); (· rfl); (· omega); rintro e W ⟨rfl, w1, hx1, hb1, rfl⟩) | (go_at_call 162; refine Calls.mono (mReturns_any (by assumption) H.out _ _ _ _ _ hc0 hc1 (by omega)) ?_; rintro e W ⟨rfl, w1, hx1, hb1, rfl⟩) | (go_at_call 163; refine Calls.mono (mPorts_any (by assumption) H.out _ _ _ _ _ hc0 hc1 (by omega)) ?_; rintro e W ⟨rfl, w1, hx1, hb1, rfl⟩) | (go_at_call 149; refine (mz_any _ _ hc0 hc1).mono ?_; rintro e W ⟨rfl, rfl⟩) | (go_at_call 151; refine (mq_any _ _ hc0 hc1).mono ?_; rintro e W ⟨rfl, rfl⟩) | (go_at_call 165; refine (mp_any _ _ hc0 hc1).mono ?_; rintro e W ⟨rfl, rfl⟩))
  rw [HL.out]
  go_ret
  exact ⟨ret_sl (by first | rfl | (simp only [List.length_append, List.length_cons, List.length_nil]; omega)), fin (by assumption) (by repeat (first | exact Ext.refl _ | assumption | refine Ext.trans ?_ (by assumption))) (by first | rfl | exact (app_nil _ _).symm | exact app_app _ _ _ _ | exact app_app3 _ _ _ _ _)⟩
set_option maxHeartbeats 1000000 in
theorem mLast_1 {m : Mac} {w : World} (hb : Base m w) (hts : m.ts = 115) (c : Cp) (sl : Nat → Int) (b : Bd) (n : Nat) (k : Int) (hc0 : 0 ≤ k) (hc1 : k < 256) (hr : n ≤ 4) (hd0 : cz k = 1) (hd1 : cq k = 0) : mLast_Said m w c sl b n k := by
  unfold mLast_Said
  have H := Lib.hid hts
  clear hts
  obtain ⟨⟨hy0, hy1⟩, ⟨hz0, hz1⟩, ⟨hx0, hx3⟩, ⟨hq0, hq1⟩, ⟨hp0, hp1⟩⟩ := code_bd hc0 hc1
  obtain ⟨l, hm⟩ : ∃ l, mLast k = l := ⟨_, rfl⟩
  have HL := Lib.hid hm
  simp [mLast, *] at hm
  subst hm
  go_enter Tryz.func110, Tryz.ntmps110
  go_wp2_with (first | (go_at_call 159; refine Calls.mono (read_ov (by assumption) _ _ _ _ _) ?_; rintro e W ⟨rfl, w1, hx1, hb1, rfl⟩) | (go_at_call 160; refine Calls.mono (write_ov (by assumption) _ _ _ _ _) ?_; rintro e W ⟨rfl, w1, hx1, hb1, rfl⟩) | (go_at_call 155; refine Calls.mono (wait_ov (by assumption) _ _ _ _ _) ?_; rintro e W ⟨rfl, w1, hx1, hb1, rfl⟩) | (go_at_call 154; refine Calls.mono (work_ov (by assumption) _ _ _ _) ?_; rintro e W ⟨rfl, w1, hx1, hb1, rfl⟩) | (go_at_call 161; refine Calls.mono (unless_ov (by assumption) _ _ _ _) ?_; rintro e W ⟨rfl, w1, hx1, hb1, rfl⟩) | (go_at_call 153; refine Calls.mono (word_any (by assumption) H.out _ _ _ _ (by omega)) ?_; rintro e W ⟨rfl, w1, hx1, hb1, rfl⟩) | (go_at_call 164; refine Calls.mono (call_any (by assumption) H.out _ _ _ _ (by omega)) ?_; rintro e W ⟨rfl, w1, hx1, hb1, rfl⟩) | (go_at_call 152; refine Calls.mono (more_v1 (by assumption) H.out _ _ _ _ _ _ _ ?_ ?_ ?_) ?_; (· rfl); (· rfl); (· omega); rintro e W ⟨rfl, w1, hx1, hb1, rfl⟩) | (go_at_call 162; refine Calls.mono (mReturns_any (by assumption) H.out _ _ _ _ _ hc0 hc1 (by omega)) ?_; rintro e W ⟨rfl, w1, hx1, hb1, rfl⟩) | (go_at_call 163; refine Calls.mono (mPorts_any (by assumption) H.out _ _ _ _ _ hc0 hc1 (by omega)) ?_; rintro e W ⟨rfl, w1, hx1, hb1, rfl⟩) | (go_at_call 149; refine (mz_any _ _ hc0 hc1).mono ?_; rintro e W ⟨rfl, rfl⟩) | (go_at_call 151; refine (mq_any _ _ hc0 hc1).mono ?_; rintro e W ⟨rfl, rfl⟩) | (go_at_call 165; refine (mp_any _ _ hc0 hc1).mono ?_; rintro e W ⟨rfl, rfl⟩))
  rw [HL.out]
  go_ret
  exact ⟨ret_sl (by first | rfl | (simp only [List.length_append, List.length_cons, List.length_nil]; omega)), fin (by assumption) (by repeat (first | exact Ext.refl _ | assumption | refine Ext.trans ?_ (by assumption))) (by first | rfl | exact (app_nil _ _).symm | exact app_app _ _ _ _ | exact app_app3 _ _ _ _ _)⟩
set_option maxHeartbeats 1000000 in
theorem mLast_2 {m : Mac} {w : World} (hb : Base m w) (hts : m.ts = 115) (c : Cp) (sl : Nat → Int) (b : Bd) (n : Nat) (k : Int) (hc0 : 0 ≤ k) (hc1 : k < 256) (hr : n ≤ 4) (hd0 : cz k = 1) (hd1 : cq k = 1) : mLast_Said m w c sl b n k := by
  unfold mLast_Said
  have H := Lib.hid hts
  clear hts
  obtain ⟨⟨hy0, hy1⟩, ⟨hz0, hz1⟩, ⟨hx0, hx3⟩, ⟨hq0, hq1⟩, ⟨hp0, hp1⟩⟩ := code_bd hc0 hc1
  obtain ⟨l, hm⟩ : ∃ l, mLast k = l := ⟨_, rfl⟩
  have HL := Lib.hid hm
  simp [mLast, *] at hm
  subst hm
  go_enter Tryz.func110, Tryz.ntmps110
  go_wp2_with (first | (go_at_call 159; refine Calls.mono (read_ov (by assumption) _ _ _ _ _) ?_; rintro e W ⟨rfl, w1, hx1, hb1, rfl⟩) | (go_at_call 160; refine Calls.mono (write_ov (by assumption) _ _ _ _ _) ?_; rintro e W ⟨rfl, w1, hx1, hb1, rfl⟩) | (go_at_call 155; refine Calls.mono (wait_ov (by assumption) _ _ _ _ _) ?_; rintro e W ⟨rfl, w1, hx1, hb1, rfl⟩) | (go_at_call 154; refine Calls.mono (work_ov (by assumption) _ _ _ _) ?_; rintro e W ⟨rfl, w1, hx1, hb1, rfl⟩) | (go_at_call 161; refine Calls.mono (unless_ov (by assumption) _ _ _ _) ?_; rintro e W ⟨rfl, w1, hx1, hb1, rfl⟩) | (go_at_call 153; refine Calls.mono (word_any (by assumption) H.out _ _ _ _ (by omega)) ?_; rintro e W ⟨rfl, w1, hx1, hb1, rfl⟩) | (go_at_call 164; refine Calls.mono (call_any (by assumption) H.out _ _ _ _ (by omega)) ?_; rintro e W ⟨rfl, w1, hx1, hb1, rfl⟩) | (go_at_call 152; refine Calls.mono (more_v1 (by assumption) H.out _ _ _ _ _ _ _ ?_ ?_ ?_) ?_; (· rfl); (· rfl); (· omega); rintro e W ⟨rfl, w1, hx1, hb1, rfl⟩) | (go_at_call 162; refine Calls.mono (mReturns_any (by assumption) H.out _ _ _ _ _ hc0 hc1 (by omega)) ?_; rintro e W ⟨rfl, w1, hx1, hb1, rfl⟩) | (go_at_call 163; refine Calls.mono (mPorts_any (by assumption) H.out _ _ _ _ _ hc0 hc1 (by omega)) ?_; rintro e W ⟨rfl, w1, hx1, hb1, rfl⟩) | (go_at_call 149; refine (mz_any _ _ hc0 hc1).mono ?_; rintro e W ⟨rfl, rfl⟩) | (go_at_call 151; refine (mq_any _ _ hc0 hc1).mono ?_; rintro e W ⟨rfl, rfl⟩) | (go_at_call 165; refine (mp_any _ _ hc0 hc1).mono ?_; rintro e W ⟨rfl, rfl⟩))
  rw [HL.out]
  go_ret
  exact ⟨ret_sl (by first | rfl | (simp only [List.length_append, List.length_cons, List.length_nil]; omega)), fin (by assumption) (by repeat (first | exact Ext.refl _ | assumption | refine Ext.trans ?_ (by assumption))) (by first | rfl | exact (app_nil _ _).symm | exact app_app _ _ _ _ | exact app_app3 _ _ _ _ _)⟩
set_option maxHeartbeats 1000000 in
theorem mLast_3 {m : Mac} {w : World} (hb : Base m w) (hts : m.ts = 115) (c : Cp) (sl : Nat → Int) (b : Bd) (n : Nat) (k : Int) (hc0 : 0 ≤ k) (hc1 : k < 256) (hr : n ≤ 4) (hd0 : cz k = 2) : mLast_Said m w c sl b n k := by
  unfold mLast_Said
  have H := Lib.hid hts
  clear hts
  obtain ⟨⟨hy0, hy1⟩, ⟨hz0, hz1⟩, ⟨hx0, hx3⟩, ⟨hq0, hq1⟩, ⟨hp0, hp1⟩⟩ := code_bd hc0 hc1
  obtain ⟨l, hm⟩ : ∃ l, mLast k = l := ⟨_, rfl⟩
  have HL := Lib.hid hm
  simp [mLast, *] at hm
  subst hm
  go_enter Tryz.func110, Tryz.ntmps110
  go_wp2_with (first | (go_at_call 159; refine Calls.mono (read_ov (by assumption) _ _ _ _ _) ?_; rintro e W ⟨rfl, w1, hx1, hb1, rfl⟩) | (go_at_call 160; refine Calls.mono (write_ov (by assumption) _ _ _ _ _) ?_; rintro e W ⟨rfl, w1, hx1, hb1, rfl⟩) | (go_at_call 155; refine Calls.mono (wait_ov (by assumption) _ _ _ _ _) ?_; rintro e W ⟨rfl, w1, hx1, hb1, rfl⟩) | (go_at_call 154; refine Calls.mono (work_ov (by assumption) _ _ _ _) ?_; rintro e W ⟨rfl, w1, hx1, hb1, rfl⟩) | (go_at_call 161; refine Calls.mono (unless_ov (by assumption) _ _ _ _) ?_; rintro e W ⟨rfl, w1, hx1, hb1, rfl⟩) | (go_at_call 153; refine Calls.mono (word_any (by assumption) H.out _ _ _ _ (by omega)) ?_; rintro e W ⟨rfl, w1, hx1, hb1, rfl⟩) | (go_at_call 164; refine Calls.mono (call_any (by assumption) H.out _ _ _ _ (by omega)) ?_; rintro e W ⟨rfl, w1, hx1, hb1, rfl⟩) | (go_at_call 152; refine Calls.mono (more_v1 (by assumption) H.out _ _ _ _ _ _ _ ?_ ?_ ?_) ?_; (· rfl); (· rfl); (· omega); rintro e W ⟨rfl, w1, hx1, hb1, rfl⟩) | (go_at_call 162; refine Calls.mono (mReturns_any (by assumption) H.out _ _ _ _ _ hc0 hc1 (by omega)) ?_; rintro e W ⟨rfl, w1, hx1, hb1, rfl⟩) | (go_at_call 163; refine Calls.mono (mPorts_any (by assumption) H.out _ _ _ _ _ hc0 hc1 (by omega)) ?_; rintro e W ⟨rfl, w1, hx1, hb1, rfl⟩) | (go_at_call 149; refine (mz_any _ _ hc0 hc1).mono ?_; rintro e W ⟨rfl, rfl⟩) | (go_at_call 151; refine (mq_any _ _ hc0 hc1).mono ?_; rintro e W ⟨rfl, rfl⟩) | (go_at_call 165; refine (mp_any _ _ hc0 hc1).mono ?_; rintro e W ⟨rfl, rfl⟩))
  rw [HL.out]
  go_ret
  exact ⟨ret_sl (by first | rfl | (simp only [List.length_append, List.length_cons, List.length_nil]; omega)), fin (by assumption) (by repeat (first | exact Ext.refl _ | assumption | refine Ext.trans ?_ (by assumption))) (by first | rfl | exact (app_nil _ _).symm | exact app_app _ _ _ _ | exact app_app3 _ _ _ _ _)⟩
set_option maxHeartbeats 1000000 in
theorem mLast_4 {m : Mac} {w : World} (hb : Base m w) (hts : m.ts = 115) (c : Cp) (sl : Nat → Int) (b : Bd) (n : Nat) (k : Int) (hc0 : 0 ≤ k) (hc1 : k < 256) (hr : n ≤ 4) (hd0 : cz k = 3) : mLast_Said m w c sl b n k := by
  unfold mLast_Said
  have H := Lib.hid hts
  clear hts
  obtain ⟨⟨hy0, hy1⟩, ⟨hz0, hz1⟩, ⟨hx0, hx3⟩, ⟨hq0, hq1⟩, ⟨hp0, hp1⟩⟩ := code_bd hc0 hc1
  obtain ⟨l, hm⟩ : ∃ l, mLast k = l := ⟨_, rfl⟩
  have HL := Lib.hid hm
  simp [mLast, *] at hm
  subst hm
  go_enter Tryz.func110, Tryz.ntmps110
  go_wp2_with (first | (go_at_call 159; refine Calls.mono (read_ov (by assumption) _ _ _ _ _) ?_; rintro e W ⟨rfl, w1, hx1, hb1, rfl⟩) | (go_at_call 160; refine Calls.mono (write_ov (by assumption) _ _ _ _ _) ?_; rintro e W ⟨rfl, w1, hx1, hb1, rfl⟩) | (go_at_call 155; refine Calls.mono (wait_ov (by assumption) _ _ _ _ _) ?_; rintro e W ⟨rfl, w1, hx1, hb1, rfl⟩) | (go_at_call 154; refine Calls.mono (work_ov (by assumption) _ _ _ _) ?_; rintro e W ⟨rfl, w1, hx1, hb1, rfl⟩) | (go_at_call 161; refine Calls.mono (unless_ov (by assumption) _ _ _ _) ?_; rintro e W ⟨rfl, w1, hx1, hb1, rfl⟩) | (go_at_call 153; refine Calls.mono (word_any (by assumption) H.out _ _ _ _ (by omega)) ?_; rintro e W ⟨rfl, w1, hx1, hb1, rfl⟩) | (go_at_call 164; refine Calls.mono (call_any (by assumption) H.out _ _ _ _ (by omega)) ?_; rintro e W ⟨rfl, w1, hx1, hb1, rfl⟩) | (go_at_call 152; refine Calls.mono (more_v1 (by assumption) H.out _ _ _ _ _ _ _ ?_ ?_ ?_) ?_; (· rfl); (· rfl); (· omega); rintro e W ⟨rfl, w1, hx1, hb1, rfl⟩) | (go_at_call 162; refine Calls.mono (mReturns_any (by assumption) H.out _ _ _ _ _ hc0 hc1 (by omega)) ?_; rintro e W ⟨rfl, w1, hx1, hb1, rfl⟩) | (go_at_call 163; refine Calls.mono (mPorts_any (by assumption) H.out _ _ _ _ _ hc0 hc1 (by omega)) ?_; rintro e W ⟨rfl, w1, hx1, hb1, rfl⟩) | (go_at_call 149; refine (mz_any _ _ hc0 hc1).mono ?_; rintro e W ⟨rfl, rfl⟩) | (go_at_call 151; refine (mq_any _ _ hc0 hc1).mono ?_; rintro e W ⟨rfl, rfl⟩) | (go_at_call 165; refine (mp_any _ _ hc0 hc1).mono ?_; rintro e W ⟨rfl, rfl⟩))
  rw [HL.out]
  go_ret
  exact ⟨ret_sl (by first | rfl | (simp only [List.length_append, List.length_cons, List.length_nil]; omega)), fin (by assumption) (by repeat (first | exact Ext.refl _ | assumption | refine Ext.trans ?_ (by assumption))) (by first | rfl | exact (app_nil _ _).symm | exact app_app _ _ _ _ | exact app_app3 _ _ _ _ _)⟩
set_option maxHeartbeats 1000000 in
theorem mLast_5 {m : Mac} {w : World} (hb : Base m w) (hts : m.ts = 115) (c : Cp) (sl : Nat → Int) (b : Bd) (n : Nat) (k : Int) (hc0 : 0 ≤ k) (hc1 : k < 256) (hr : n ≤ 4) (hd0 : cz k = 4) : mLast_Said m w c sl b n k := by
  unfold mLast_Said
  have H := Lib.hid hts
  clear hts
  obtain ⟨⟨hy0, hy1⟩, ⟨hz0, hz1⟩, ⟨hx0, hx3⟩, ⟨hq0, hq1⟩, ⟨hp0, hp1⟩⟩ := code_bd hc0 hc1
  obtain ⟨l, hm⟩ : ∃ l, mLast k = l := ⟨_, rfl⟩
  have HL := Lib.hid hm
  simp [mLast, *] at hm
  subst hm
  go_enter Tryz.func110, Tryz.ntmps110
  go_wp2_with (first | (go_at_call 159; refine Calls.mono (read_ov (by assumption) _ _ _ _ _) ?_; rintro e W ⟨rfl, w1, hx1, hb1, rfl⟩) | (go_at_call 160; refine Calls.mono (write_ov (by assumption) _ _ _ _ _) ?_; rintro e W ⟨rfl, w1, hx1, hb1, rfl⟩) | (go_at_call 155; refine Calls.mono (wait_ov (by assumption) _ _ _ _ _) ?_; rintro e W ⟨rfl, w1, hx1, hb1, rfl⟩) | (go_at_call 154; refine Calls.mono (work_ov (by assumption) _ _ _ _) ?_; rintro e W ⟨rfl, w1, hx1, hb1, rfl⟩) | (go_at_call 161; refine Calls.mono (unless_ov (by assumption) _ _ _ _) ?_; rintro e W ⟨rfl, w1, hx1, hb1, rfl⟩) | (go_at_call 153; refine Calls.mono (word_any (by assumption) H.out _ _ _ _ (by omega)) ?_; rintro e W ⟨rfl, w1, hx1, hb1, rfl⟩) | (go_at_call 164; refine Calls.mono (call_any (by assumption) H.out _ _ _ _ (by omega)) ?_; rintro e W ⟨rfl, w1, hx1, hb1, rfl⟩) | (go_at_call 152; refine Calls.mono (more_v1 (by assumption) H.out _ _ _ _ _ _ _ ?_ ?_ ?_) ?_; (· rfl); (· rfl); (· omega); rintro e W ⟨rfl, w1, hx1, hb1, rfl⟩) | (go_at_call 162; refine Calls.mono (mReturns_any (by assumption) H.out _ _ _ _ _ hc0 hc1 (by omega)) ?_; rintro e W ⟨rfl, w1, hx1, hb1, rfl⟩) | (go_at_call 163; refine Calls.mono (mPorts_any (by assumption) H.out _ _ _ _ _ hc0 hc1 (by omega)) ?_; rintro e W ⟨rfl, w1, hx1, hb1, rfl⟩) | (go_at_call 149; refine (mz_any _ _ hc0 hc1).mono ?_; rintro e W ⟨rfl, rfl⟩) | (go_at_call 151; refine (mq_any _ _ hc0 hc1).mono ?_; rintro e W ⟨rfl, rfl⟩) | (go_at_call 165; refine (mp_any _ _ hc0 hc1).mono ?_; rintro e W ⟨rfl, rfl⟩))
  rw [HL.out]
  go_ret
  exact ⟨ret_sl (by first | rfl | (simp only [List.length_append, List.length_cons, List.length_nil]; omega)), fin (by assumption) (by repeat (first | exact Ext.refl _ | assumption | refine Ext.trans ?_ (by assumption))) (by first | rfl | exact (app_nil _ _).symm | exact app_app _ _ _ _ | exact app_app3 _ _ _ _ _)⟩
set_option maxHeartbeats 1000000 in
theorem mLast_6 {m : Mac} {w : World} (hb : Base m w) (hts : m.ts = 115) (c : Cp) (sl : Nat → Int) (b : Bd) (n : Nat) (k : Int) (hc0 : 0 ≤ k) (hc1 : k < 256) (hr : n ≤ 4) (hd0 : cz k = 5) (hd1 : cq k = 0) : mLast_Said m w c sl b n k := by
  unfold mLast_Said
  have H := Lib.hid hts
  clear hts
  obtain ⟨⟨hy0, hy1⟩, ⟨hz0, hz1⟩, ⟨hx0, hx3⟩, ⟨hq0, hq1⟩, ⟨hp0, hp1⟩⟩ := code_bd hc0 hc1
  obtain ⟨l, hm⟩ : ∃ l, mLast k = l := ⟨_, rfl⟩
  have HL := Lib.hid hm
  simp [mLast, *] at hm
  subst hm
  go_enter Tryz.func110, Tryz.ntmps110
  go_wp2_with (first | (go_at_call 159; refine Calls.mono (read_ov (by assumption) _ _ _ _ _) ?_; rintro e W ⟨rfl, w1, hx1, hb1, rfl⟩) | (go_at_call 160; refine Calls.mono (write_ov (by assumption) _ _ _ _ _) ?_; rintro e W ⟨rfl, w1, hx1, hb1, rfl⟩) | (go_at_call 155; refine Calls.mono (wait_ov (by assumption) _ _ _ _ _) ?_; rintro e W ⟨rfl, w1, hx1, hb1, rfl⟩) | (go_at_call 154; refine Calls.mono (work_ov (by assumption) _ _ _ _) ?_; rintro e W ⟨rfl, w1, hx1, hb1, rfl⟩) | (go_at_call 161; refine Calls.mono (unless_ov (by assumption) _ _ _ _) ?_; rintro e W ⟨rfl, w1, hx1, hb1, rfl⟩) | (go_at_call 153; refine Calls.mono (word_any (by assumption) H.out _ _ _ _ (by omega)) ?_; rintro e W ⟨rfl, w1, hx1, hb1, rfl⟩) | (go_at_call 164; refine Calls.mono (call_any (by assumption) H.out _ _ _ _ (by omega)) ?_; rintro e W ⟨rfl, w1, hx1, hb1, rfl⟩) | (go_at_call 152; refine Calls.mono (more_v1 (by assumption) H.out _ _ _ _ _ _ _ ?_ ?_ ?_) ?_; (· rfl); (· rfl); (· omega); rintro e W ⟨rfl, w1, hx1, hb1, rfl⟩) | (go_at_call 162; refine Calls.mono (mReturns_any (by assumption) H.out _ _ _ _ _ hc0 hc1 (by omega)) ?_; rintro e W ⟨rfl, w1, hx1, hb1, rfl⟩) | (go_at_call 163; refine Calls.mono (mPorts_any (by assumption) H.out _ _ _ _ _ hc0 hc1 (by omega)) ?_; rintro e W ⟨rfl, w1, hx1, hb1, rfl⟩) | (go_at_call 149; refine (mz_any _ _ hc0 hc1).mono ?_; rintro e W ⟨rfl, rfl⟩) | (go_at_call 151; refine (mq_any _ _ hc0 hc1).mono ?_; rintro e W ⟨rfl, rfl⟩) | (go_at_call 165; refine (mp_any _ _ hc0 hc1).mono ?_; rintro e W ⟨rfl, rfl⟩))
  rw [HL.out]
  go_ret
  exact ⟨ret_sl (by first | rfl | (simp only [List.length_append, List.length_cons, List.length_nil]; omega)), fin (by assumption) (by repeat (first | exact Ext.refl _ | assumption | refine Ext.trans ?_ (by assumption))) (by first | rfl | exact (app_nil _ _).symm | exact app_app _ _ _ _ | exact app_app3 _ _ _ _ _)⟩
set_option maxHeartbeats 1000000 in
theorem mLast_7 {m : Mac} {w : World} (hb : Base m w) (hts : m.ts = 115) (c : Cp) (sl : Nat → Int) (b : Bd) (n : Nat) (k : Int) (hc0 : 0 ≤ k) (hc1 : k < 256) (hr : n ≤ 4) (hd0 : cz k = 5) (hd1 : cq k = 1) (hd2 : cp k = 0) : mLast_Said m w c sl b n k := by
  unfold mLast_Said
  have H := Lib.hid hts
  clear hts
  obtain ⟨⟨hy0, hy1⟩, ⟨hz0, hz1⟩, ⟨hx0, hx3⟩, ⟨hq0, hq1⟩, ⟨hp0, hp1⟩⟩ := code_bd hc0 hc1
  obtain ⟨l, hm⟩ : ∃ l, mLast k = l := ⟨_, rfl⟩
  have HL := Lib.hid hm
  simp [mLast, *] at hm
  subst hm
  go_enter Tryz.func110, Tryz.ntmps110
  go_wp2_with (first | (go_at_call 159; refine Calls.mono (read_ov (by assumption) _ _ _ _ _) ?_; rintro e W ⟨rfl, w1, hx1, hb1, rfl⟩) | (go_at_call 160; refine Calls.mono (write_ov (by assumption) _ _ _ _ _) ?_; rintro e W ⟨rfl, w1, hx1, hb1, rfl⟩) | (go_at_call 155; refine Calls.mono (wait_ov (by assumption) _ _ _ _ _) ?_; rintro e W ⟨rfl, w1, hx1, hb1, rfl⟩) | (go_at_call 154; refine Calls.mono (work_ov (by assumption) _ _ _ _) ?_; rintro e W ⟨rfl, w1, hx1, hb1, rfl⟩) | (go_at_call 161; refine Calls.mono (unless_ov (by assumption) _ _ _ _) ?_; rintro e W ⟨rfl, w1, hx1, hb1, rfl⟩) | (go_at_call 153; refine Calls.mono (word_any (by assumption) H.out _ _ _ _ (by omega)) ?_; rintro e W ⟨rfl, w1, hx1, hb1, rfl⟩) | (go_at_call 164; refine Calls.mono (call_any (by assumption) H.out _ _ _ _ (by omega)) ?_; rintro e W ⟨rfl, w1, hx1, hb1, rfl⟩) | (go_at_call 152; refine Calls.mono (more_v1 (by assumption) H.out _ _ _ _ _ _ _ ?_ ?_ ?_) ?_; (· rfl); (· rfl); (· omega); rintro e W ⟨rfl, w1, hx1, hb1, rfl⟩) | (go_at_call 162; refine Calls.mono (mReturns_any (by assumption) H.out _ _ _ _ _ hc0 hc1 (by omega)) ?_; rintro e W ⟨rfl, w1, hx1, hb1, rfl⟩) | (go_at_call 163; refine Calls.mono (mPorts_any (by assumption) H.out _ _ _ _ _ hc0 hc1 (by omega)) ?_; rintro e W ⟨rfl, w1, hx1, hb1, rfl⟩) | (go_at_call 149; refine (mz_any _ _ hc0 hc1).mono ?_; rintro e W ⟨rfl, rfl⟩) | (go_at_call 151; refine (mq_any _ _ hc0 hc1).mono ?_; rintro e W ⟨rfl, rfl⟩) | (go_at_call 165; refine (mp_any _ _ hc0 hc1).mono ?_; rintro e W ⟨rfl, rfl⟩))
  rw [HL.out]
  go_ret
  exact ⟨ret_sl (by first | rfl | (simp only [List.length_append, List.length_cons, List.length_nil]; omega)), fin (by assumption) (by repeat (first | exact Ext.refl _ | assumption | refine Ext.trans ?_ (by assumption))) (by first | rfl | exact (app_nil _ _).symm | exact app_app _ _ _ _ | exact app_app3 _ _ _ _ _)⟩
set_option maxHeartbeats 1000000 in
theorem mLast_8 {m : Mac} {w : World} (hb : Base m w) (hts : m.ts = 115) (c : Cp) (sl : Nat → Int) (b : Bd) (n : Nat) (k : Int) (hc0 : 0 ≤ k) (hc1 : k < 256) (hr : n ≤ 4) (hd0 : cz k = 5) (hd1 : cq k = 1) (hd2 : ¬ cp k = 0) : mLast_Said m w c sl b n k := by
  unfold mLast_Said
  have H := Lib.hid hts
  clear hts
  obtain ⟨⟨hy0, hy1⟩, ⟨hz0, hz1⟩, ⟨hx0, hx3⟩, ⟨hq0, hq1⟩, ⟨hp0, hp1⟩⟩ := code_bd hc0 hc1
  obtain ⟨l, hm⟩ : ∃ l, mLast k = l := ⟨_, rfl⟩
  have HL := Lib.hid hm
  simp [mLast, *] at hm
  subst hm
  have hcpk0e : (cp k == 0) = false := by simp; omega
  have hcpk0n : (cp k != 0) = true := by simp; omega
  go_enter Tryz.func110, Tryz.ntmps110
  go_wp2_with (first | (go_at_call 159; refine Calls.mono (read_ov (by assumption) _ _ _ _ _) ?_; rintro e W ⟨rfl, w1, hx1, hb1, rfl⟩) | (go_at_call 160; refine Calls.mono (write_ov (by assumption) _ _ _ _ _) ?_; rintro e W ⟨rfl, w1, hx1, hb1, rfl⟩) | (go_at_call 155; refine Calls.mono (wait_ov (by assumption) _ _ _ _ _) ?_; rintro e W ⟨rfl, w1, hx1, hb1, rfl⟩) | (go_at_call 154; refine Calls.mono (work_ov (by assumption) _ _ _ _) ?_; rintro e W ⟨rfl, w1, hx1, hb1, rfl⟩) | (go_at_call 161; refine Calls.mono (unless_ov (by assumption) _ _ _ _) ?_; rintro e W ⟨rfl, w1, hx1, hb1, rfl⟩) | (go_at_call 153; refine Calls.mono (word_any (by assumption) H.out _ _ _ _ (by omega)) ?_; rintro e W ⟨rfl, w1, hx1, hb1, rfl⟩) | (go_at_call 164; refine Calls.mono (call_any (by assumption) H.out _ _ _ _ (by omega)) ?_; rintro e W ⟨rfl, w1, hx1, hb1, rfl⟩) | (go_at_call 152; refine Calls.mono (more_v1 (by assumption) H.out _ _ _ _ _ _ _ ?_ ?_ ?_) ?_; (· rfl); (· rfl); (· omega); rintro e W ⟨rfl, w1, hx1, hb1, rfl⟩) | (go_at_call 162; refine Calls.mono (mReturns_any (by assumption) H.out _ _ _ _ _ hc0 hc1 (by omega)) ?_; rintro e W ⟨rfl, w1, hx1, hb1, rfl⟩) | (go_at_call 163; refine Calls.mono (mPorts_any (by assumption) H.out _ _ _ _ _ hc0 hc1 (by omega)) ?_; rintro e W ⟨rfl, w1, hx1, hb1, rfl⟩) | (go_at_call 149; refine (mz_any _ _ hc0 hc1).mono ?_; rintro e W ⟨rfl, rfl⟩) | (go_at_call 151; refine (mq_any _ _ hc0 hc1).mono ?_; rintro e W ⟨rfl, rfl⟩) | (go_at_call 165; refine (mp_any _ _ hc0 hc1).mono ?_; rintro e W ⟨rfl, rfl⟩))
  rw [HL.out]
  go_ret
  exact ⟨ret_sl (by first | rfl | (simp only [List.length_append, List.length_cons, List.length_nil]; omega)), fin (by assumption) (by repeat (first | exact Ext.refl _ | assumption | refine Ext.trans ?_ (by assumption))) (by first | rfl | exact (app_nil _ _).symm | exact app_app _ _ _ _ | exact app_app3 _ _ _ _ _)⟩
set_option maxHeartbeats 1000000 in
theorem mLast_9 {m : Mac} {w : World} (hb : Base m w) (hts : m.ts = 115) (c : Cp) (sl : Nat → Int) (b : Bd) (n : Nat) (k : Int) (hc0 : 0 ≤ k) (hc1 : k < 256) (hr : n ≤ 4) (hd0 : cz k = 6) : mLast_Said m w c sl b n k := by
  unfold mLast_Said
  have H := Lib.hid hts
  clear hts
  obtain ⟨⟨hy0, hy1⟩, ⟨hz0, hz1⟩, ⟨hx0, hx3⟩, ⟨hq0, hq1⟩, ⟨hp0, hp1⟩⟩ := code_bd hc0 hc1
  obtain ⟨l, hm⟩ : ∃ l, mLast k = l := ⟨_, rfl⟩
  have HL := Lib.hid hm
  simp [mLast, *] at hm
  subst hm
  go_enter Tryz.func110, Tryz.ntmps110
  go_wp2_with (first | (go_at_call 159; refine Calls.mono (read_ov (by assumption) _ _ _ _ _) ?_; rintro e W ⟨rfl, w1, hx1, hb1, rfl⟩) | (go_at_call 160; refine Calls.mono (write_ov (by assumption) _ _ _ _ _) ?_; rintro e W ⟨rfl, w1, hx1, hb1, rfl⟩) | (go_at_call 155; refine Calls.mono (wait_ov (by assumption) _ _ _ _ _) ?_; rintro e W ⟨rfl, w1, hx1, hb1, rfl⟩) | (go_at_call 154; refine Calls.mono (work_ov (by assumption) _ _ _ _) ?_; rintro e W ⟨rfl, w1, hx1, hb1, rfl⟩) | (go_at_call 161; refine Calls.mono (unless_ov (by assumption) _ _ _ _) ?_; rintro e W ⟨rfl, w1, hx1, hb1, rfl⟩) | (go_at_call 153; refine Calls.mono (word_any (by assumption) H.out _ _ _ _ (by omega)) ?_; rintro e W ⟨rfl, w1, hx1, hb1, rfl⟩) | (go_at_call 164; refine Calls.mono (call_any (by assumption) H.out _ _ _ _ (by omega)) ?_; rintro e W ⟨rfl, w1, hx1, hb1, rfl⟩) | (go_at_call 152; refine Calls.mono (more_v1 (by assumption) H.out _ _ _ _ _ _ _ ?_ ?_ ?_) ?_; (· rfl); (· rfl); (· omega); rintro e W ⟨rfl, w1, hx1, hb1, rfl⟩) | (go_at_call 162; refine Calls.mono (mReturns_any (by assumption) H.out _ _ _ _ _ hc0 hc1 (by omega)) ?_; rintro e W ⟨rfl, w1, hx1, hb1, rfl⟩) | (go_at_call 163; refine Calls.mono (mPorts_any (by assumption) H.out _ _ _ _ _ hc0 hc1 (by omega)) ?_; rintro e W ⟨rfl, w1, hx1, hb1, rfl⟩) | (go_at_call 149; refine (mz_any _ _ hc0 hc1).mono ?_; rintro e W ⟨rfl, rfl⟩) | (go_at_call 151; refine (mq_any _ _ hc0 hc1).mono ?_; rintro e W ⟨rfl, rfl⟩) | (go_at_call 165; refine (mp_any _ _ hc0 hc1).mono ?_; rintro e W ⟨rfl, rfl⟩))
  rw [HL.out]
  go_ret
  exact ⟨ret_sl (by first | rfl | (simp only [List.length_append, List.length_cons, List.length_nil]; omega)), fin (by assumption) (by repeat (first | exact Ext.refl _ | assumption | refine Ext.trans ?_ (by assumption))) (by first | rfl | exact (app_nil _ _).symm | exact app_app _ _ _ _ | exact app_app3 _ _ _ _ _)⟩
set_option maxHeartbeats 1000000 in
theorem mLast_10 {m : Mac} {w : World} (hb : Base m w) (hts : m.ts = 115) (c : Cp) (sl : Nat → Int) (b : Bd) (n : Nat) (k : Int) (hc0 : 0 ≤ k) (hc1 : k < 256) (hr : n ≤ 4) (hd0 : cz k = 7) : mLast_Said m w c sl b n k := by
  unfold mLast_Said
  have H := Lib.hid hts
  clear hts
  obtain ⟨⟨hy0, hy1⟩, ⟨hz0, hz1⟩, ⟨hx0, hx3⟩, ⟨hq0, hq1⟩, ⟨hp0, hp1⟩⟩ := code_bd hc0 hc1
  obtain ⟨l, hm⟩ : ∃ l, mLast k = l := ⟨_, rfl⟩
  have HL := Lib.hid hm
  simp [mLast, *] at hm
  subst hm
  go_enter Tryz.func110, Tryz.ntmps110
  go_wp2_with (first | (go_at_call 159; refine Calls.mono (read_ov (by assumption) _ _ _ _ _) ?_; rintro e W ⟨rfl, w1, hx1, hb1, rfl⟩) | (go_at_call 160; refine Calls.mono (write_ov (by assumption) _ _ _ _ _) ?_; rintro e W ⟨rfl, w1, hx1, hb1, rfl⟩) | (go_at_call 155; refine Calls.mono (wait_ov (by assumption) _ _ _ _ _) ?_; rintro e W ⟨rfl, w1, hx1, hb1, rfl⟩) | (go_at_call 154; refine Calls.mono (work_ov (by assumption) _ _ _ _) ?_; rintro e W ⟨rfl, w1, hx1, hb1, rfl⟩) | (go_at_call 161; refine Calls.mono (unless_ov (by assumption) _ _ _ _) ?_; rintro e W ⟨rfl, w1, hx1, hb1, rfl⟩) | (go_at_call 153; refine Calls.mono (word_any (by assumption) H.out _ _ _ _ (by omega)) ?_; rintro e W ⟨rfl, w1, hx1, hb1, rfl⟩) | (go_at_call 164; refine Calls.mono (call_any (by assumption) H.out _ _ _ _ (by omega)) ?_; rintro e W ⟨rfl, w1, hx1, hb1, rfl⟩) | (go_at_call 152; refine Calls.mono (more_v1 (by assumption) H.out _ _ _ _ _ _ _ ?_ ?_ ?_) ?_; (· rfl); (· rfl); (· omega); rintro e W ⟨rfl, w1, hx1, hb1, rfl⟩) | (go_at_call 162; refine Calls.mono (mReturns_any (by assumption) H.out _ _ _ _ _ hc0 hc1 (by omega)) ?_; rintro e W ⟨rfl, w1, hx1, hb1, rfl⟩) | (go_at_call 163; refine Calls.mono (mPorts_any (by assumption) H.out _ _ _ _ _ hc0 hc1 (by omega)) ?_; rintro e W ⟨rfl, w1, hx1, hb1, rfl⟩) | (go_at_call 149; refine (mz_any _ _ hc0 hc1).mono ?_; rintro e W ⟨rfl, rfl⟩) | (go_at_call 151; refine (mq_any _ _ hc0 hc1).mono ?_; rintro e W ⟨rfl, rfl⟩) | (go_at_call 165; refine (mp_any _ _ hc0 hc1).mono ?_; rintro e W ⟨rfl, rfl⟩))
  rw [HL.out]
  go_ret
  exact ⟨ret_sl (by first | rfl | (simp only [List.length_append, List.length_cons, List.length_nil]; omega)), fin (by assumption) (by repeat (first | exact Ext.refl _ | assumption | refine Ext.trans ?_ (by assumption))) (by first | rfl | exact (app_nil _ _).symm | exact app_app _ _ _ _ | exact app_app3 _ _ _ _ _)⟩
set_option maxHeartbeats 8000000 in
theorem mLast_any {m : Mac} {w : World} (hb : Base m w) (hts : m.ts = 115) (c : Cp) (sl : Nat → Int) (b : Bd) (n : Nat) (k : Int) (hc0 : 0 ≤ k) (hc1 : k < 256) (hr : n ≤ 4) : Calls Tryz.prog 110 #[.slice (some ⟨m.s, 0, none⟩) n 16, .int .u8 k] (mk w m c sl b) fun e W => e = .returned (.slice (some ⟨m.s, 0, none⟩) (n + (mLast k).length) 16) ∧ Lft w m c (app sl n (mLast k)) b W := by
  obtain ⟨⟨hy0, hy1⟩, ⟨hz0, hz1⟩, ⟨hx0, hx3⟩, ⟨hq0, hq1⟩, ⟨hp0, hp1⟩⟩ := code_bd hc0 hc1
  rcases (by omega : cz k = 0 ∨ cz k = 1 ∨ cz k = 2 ∨ cz k = 3 ∨ cz k = 4 ∨ cz k = 5 ∨ cz k = 6 ∨ cz k = 7) with hd | hd | hd | hd | hd | hd | hd | hd
  · exact mLast_0 hb hts c sl b n k hc0 hc1 hr (by first | assumption | omega)
  · rcases (by omega : cq k = 0 ∨ cq k = 1) with hd | hd
    · exact mLast_1 hb hts c sl b n k hc0 hc1 hr (by first | assumption | omega) (by first | assumption | omega)
    · exact mLast_2 hb hts c sl b n k hc0 hc1 hr (by first | assumption | omega) (by first | assumption | omega)
  · exact mLast_3 hb hts c sl b n k hc0 hc1 hr (by first | assumption | omega)
  · exact mLast_4 hb hts c sl b n k hc0 hc1 hr (by first | assumption | omega)
  · exact mLast_5 hb hts c sl b n k hc0 hc1 hr (by first | assumption | omega)
  · rcases (by omega : cq k = 0 ∨ cq k = 1) with hd | hd
    · exact mLast_6 hb hts c sl b n k hc0 hc1 hr (by first | assumption | omega) (by first | assumption | omega)
    · by_cases hd : cp k = 0
      · exact mLast_7 hb hts c sl b n k hc0 hc1 hr (by first | assumption | omega) (by first | assumption | omega) (by first | assumption | omega)
      · exact mLast_8 hb hts c sl b n k hc0 hc1 hr (by first | assumption | omega) (by first | assumption | omega) (by first | assumption | omega)
  · exact mLast_9 hb hts c sl b n k hc0 hc1 hr (by first | assumption | omega)
  · exact mLast_10 hb hts c sl b n k hc0 hc1 hr (by first | assumption | omega)

def mBits_Said (m : Mac) (w : World) (c : Cp) (sl : Nat → Int) (b : Bd) (n : Nat) (k : Int) : Prop := Calls Tryz.prog 111 #[.slice (some ⟨m.s, 0, none⟩) n 16, .int .u8 k] (mk w m c sl b) fun e W => e = .returned (.slice (some ⟨m.s, 0, none⟩) (n + (mBits k).length) 16) ∧ Lft w m c (app sl n (mBits k)) b W
set_option maxHeartbeats 1000000 in
theorem mBits_0 {m : Mac} {w : World} (hb : Base m w) (hts : m.ts = 115) (c : Cp) (sl : Nat → Int) (b : Bd) (n : Nat) (k : Int) (hc0 : 0 ≤ k) (hc1 : k < 256) (hr : n ≤ 4) (hd0 : cz k = 6) (hd1 : cx k = 1) : mBits_Said m w c sl b n k := by
  unfold mBits_Said
  have H := Lib.hid hts
  clear hts
  obtain ⟨⟨hy0, hy1⟩, ⟨hz0, hz1⟩, ⟨hx0, hx3⟩, ⟨hq0, hq1⟩, ⟨hp0, hp1⟩⟩ := code_bd hc0 hc1
  obtain ⟨l, hm⟩ : ∃ l, mBits k = l := ⟨_, rfl⟩
  have HL := Lib.hid hm
  simp [mBits, *] at hm
  subst hm
  go_enter Tryz.func111, Tryz.ntmps111
  go_wp2_with (first | (go_at_call 159; refine Calls.mono (read_ov (by assumption) _ _ _ _ _) ?_; rintro e W ⟨rfl, w1, hx1, hb1, rfl⟩) | (go_at_call 160; refine Calls.mono (write_ov (by assumption) _ _ _ _ _) ?_; rintro e W ⟨rfl, w1, hx1, hb1, rfl⟩) | (go_at_call 155; refine Calls.mono (wait_ov (by assumption) _ _ _ _ _) ?_; rintro e W ⟨rfl, w1, hx1, hb1, rfl⟩) | (go_at_call 154; refine Calls.mono (work_ov (by assumption) _ _ _ _) ?_; rintro e W ⟨rfl, w1, hx1, hb1, rfl⟩) | (go_at_call 152; refine Calls.mono (more_v1 (by assumption) H.out _ _ _ _ _ _ _ ?_ ?_ ?_) ?_; (· rfl); (· rfl); (· omega); rintro e W ⟨rfl, w1, hx1, hb1, rfl⟩) | (go_at_call 106; refine (mx_any _ _ hc0 hc1).mono ?_; rintro e W ⟨rfl, rfl⟩) | (go_at_call 149; refine (mz_any _ _ hc0 hc1).mono ?_; rintro e W ⟨rfl, rfl⟩))
  rw [HL.out]
  go_ret
  exact ⟨ret_sl (by first | rfl | (simp only [List.length_append, List.length_cons, List.length_nil]; omega)), fin (by assumption) (by repeat (first | exact Ext.refl _ | assumption | refine Ext.trans ?_ (by assumption))) (by first | rfl | exact (app_nil _ _).symm | exact app_app _ _ _ _ | exact app_app3 _ _ _ _ _)⟩
set_option maxHeartbeats 1000000 in
theorem mBits_1 {m : Mac} {w : World} (hb : Base m w) (hts : m.ts = 115) (c : Cp) (sl : Nat → Int) (b : Bd) (n : Nat) (k : Int) (hc0 : 0 ≤ k) (hc1 : k < 256) (hr : n ≤ 4) (hd0 : cz k = 6) (hd1 : ¬ cx k = 1) : mBits_Said m w c sl b n k := by
  unfold mBits_Said
  have H := Lib.hid hts
  clear hts
  obtain ⟨⟨hy0, hy1⟩, ⟨hz0, hz1⟩, ⟨hx0, hx3⟩, ⟨hq0, hq1⟩, ⟨hp0, hp1⟩⟩ := code_bd hc0 hc1
  obtain ⟨l, hm⟩ : ∃ l, mBits k = l := ⟨_, rfl⟩
  have HL := Lib.hid hm
  simp [mBits, *] at hm
  subst hm
  have hcxk1e : (cx k == 1) = false := by simp; omega
  have hcxk1n : (cx k != 1) = true := by simp; omega
  go_enter Tryz.func111, Tryz.ntmps111
  go_wp2_with (first | (go_at_call 159; refine Calls.mono (read_ov (by assumption) _ _ _ _ _) ?_; rintro e W ⟨rfl, w1, hx1, hb1, rfl⟩) | (go_at_call 160; refine Calls.mono (write_ov (by assumption) _ _ _ _ _) ?_; rintro e W ⟨rfl, w1, hx1, hb1, rfl⟩) | (go_at_call 155; refine Calls.mono (wait_ov (by assumption) _ _ _ _ _) ?_; rintro e W ⟨rfl, w1, hx1, hb1, rfl⟩) | (go_at_call 154; refine Calls.mono (work_ov (by assumption) _ _ _ _) ?_; rintro e W ⟨rfl, w1, hx1, hb1, rfl⟩) | (go_at_call 152; refine Calls.mono (more_v1 (by assumption) H.out _ _ _ _ _ _ _ ?_ ?_ ?_) ?_; (· rfl); (· rfl); (· omega); rintro e W ⟨rfl, w1, hx1, hb1, rfl⟩) | (go_at_call 106; refine (mx_any _ _ hc0 hc1).mono ?_; rintro e W ⟨rfl, rfl⟩) | (go_at_call 149; refine (mz_any _ _ hc0 hc1).mono ?_; rintro e W ⟨rfl, rfl⟩))
  rw [HL.out]
  go_ret
  exact ⟨ret_sl (by first | rfl | (simp only [List.length_append, List.length_cons, List.length_nil]; omega)), fin (by assumption) (by repeat (first | exact Ext.refl _ | assumption | refine Ext.trans ?_ (by assumption))) (by first | rfl | exact (app_nil _ _).symm | exact app_app _ _ _ _ | exact app_app3 _ _ _ _ _)⟩
set_option maxHeartbeats 1000000 in
theorem mBits_2 {m : Mac} {w : World} (hb : Base m w) (hts : m.ts = 115) (c : Cp) (sl : Nat → Int) (b : Bd) (n : Nat) (k : Int) (hc0 : 0 ≤ k) (hc1 : k < 256) (hr : n ≤ 4) (hd0 : ¬ cz k = 6) : mBits_Said m w c sl b n k := by
  unfold mBits_Said
  have H := Lib.hid hts
  clear hts
  obtain ⟨⟨hy0, hy1⟩, ⟨hz0, hz1⟩, ⟨hx0, hx3⟩, ⟨hq0, hq1⟩, ⟨hp0, hp1⟩⟩ := code_bd hc0 hc1
  obtain ⟨l, hm⟩ : ∃ l, mBits k = l := ⟨_, rfl⟩
  have HL := Lib.hid hm
  simp [mBits, *] at hm
  subst hm
  have hczk6e : (cz k == 6) = false := by simp; omega
  have hczk6n : (cz k != 6) = true := by simp; omega
  go_enter Tryz.func111, Tryz.ntmps111
  go_wp2_with (first | (go_at_call 159; refine Calls.mono (read_ov (by assumption) _ _ _ _ _) ?_; rintro e W ⟨rfl, w1, hx1, hb1, rfl⟩) | (go_at_call 160; refine Calls.mono (write_ov (by assumption) _ _ _ _ _) ?_; rintro e W ⟨rfl, w1, hx1, hb1, rfl⟩) | (go_at_call 155; refine Calls.mono (wait_ov (by assumption) _ _ _ _ _) ?_; rintro e W ⟨rfl, w1, hx1, hb1, rfl⟩) | (go_at_call 154; refine Calls.mono (work_ov (by assumption) _ _ _ _) ?_; rintro e W ⟨rfl, w1, hx1, hb1, rfl⟩) | (go_at_call 152; refine Calls.mono (more_v1 (by assumption) H.out _ _ _ _ _ _ _ ?_ ?_ ?_) ?_; (· rfl); (· rfl); (· omega); rintro e W ⟨rfl, w1, hx1, hb1, rfl⟩) | (go_at_call 106; refine (mx_any _ _ hc0 hc1).mono ?_; rintro e W ⟨rfl, rfl⟩) | (go_at_call 149; refine (mz_any _ _ hc0 hc1).mono ?_; rintro e W ⟨rfl, rfl⟩))
  rw [HL.out]
  go_ret
  exact ⟨ret_sl (by first | rfl | (simp only [List.length_append, List.length_cons, List.length_nil]; omega)), fin (by assumption) (by repeat (first | exact Ext.refl _ | assumption | refine Ext.trans ?_ (by assumption))) (by first | rfl | exact (app_nil _ _).symm | exact app_app _ _ _ _ | exact app_app3 _ _ _ _ _)⟩
set_option maxHeartbeats 8000000 in
theorem mBits_any {m : Mac} {w : World} (hb : Base m w) (hts : m.ts = 115) (c : Cp) (sl : Nat → Int) (b : Bd) (n : Nat) (k : Int) (hc0 : 0 ≤ k) (hc1 : k < 256) (hr : n ≤ 4) : Calls Tryz.prog 111 #[.slice (some ⟨m.s, 0, none⟩) n 16, .int .u8 k] (mk w m c sl b) fun e W => e = .returned (.slice (some ⟨m.s, 0, none⟩) (n + (mBits k).length) 16) ∧ Lft w m c (app sl n (mBits k)) b W := by
  obtain ⟨⟨hy0, hy1⟩, ⟨hz0, hz1⟩, ⟨hx0, hx3⟩, ⟨hq0, hq1⟩, ⟨hp0, hp1⟩⟩ := code_bd hc0 hc1
  by_cases hd : cz k = 6
  · by_cases hd : cx k = 1
    · exact mBits_0 hb hts c sl b n k hc0 hc1 hr (by first | assumption | omega) (by first | assumption | omega)
    · exact mBits_1 hb hts c sl b n k hc0 hc1 hr (by first | assumption | omega) (by first | assumption | omega)
  · exact mBits_2 hb hts c sl b n k hc0 hc1 hr (by first | assumption | omega)

def mIndexed_Said (m : Mac) (w : World) (c : Cp) (sl : Nat → Int) (b : Bd) (n : Nat) (k : Int) : Prop := Calls Tryz.prog 113 #[.slice (some ⟨m.s, 0, none⟩) n 16, .int .u8 k] (mk w m c sl b) fun e W => e = .returned (.slice (some ⟨m.s, 0, none⟩) (n + (mIndexed k).length) 16) ∧ Lft w m c (app sl n (mIndexed k)) b W
set_option maxHeartbeats 1000000 in
theorem mIndexed_0 {m : Mac} {w : World} (hb : Base m w) (hts : m.ts = 115) (c : Cp) (sl : Nat → Int) (b : Bd) (n : Nat) (k : Int) (hc0 : 0 ≤ k) (hc1 : k < 256) (hr : n ≤ 4) (hd0 : cx k = 1) : mIndexed_Said m w c sl b n k := by
  unfold mIndexed_Said
  have H := Lib.hid hts
  clear hts
  obtain ⟨⟨hy0, hy1⟩, ⟨hz0, hz1⟩, ⟨hx0, hx3⟩, ⟨hq0, hq1⟩, ⟨hp0, hp1⟩⟩ := code_bd hc0 hc1
  obtain ⟨l, hm⟩ : ∃ l, mIndexed k = l := ⟨_, rfl⟩
  have HL := Lib.hid hm
  simp [mIndexed, *] at hm
  subst hm
  go_enter Tryz.func113, Tryz.ntmps113
  go_wp2_with (first | (go_at_call 159; refine Calls.mono (read_ov (by assumption) _ _ _ _ _) ?_; rintro e W ⟨rfl, w1, hx1, hb1, rfl⟩) | (go_at_call 160; refine Calls.mono (write_ov (by assumption) _ _ _ _ _) ?_; rintro e W ⟨rfl, w1, hx1, hb1, rfl⟩) | (go_at_call 155; refine Calls.mono (wait_ov (by assumption) _ _ _ _ _) ?_; rintro e W ⟨rfl, w1, hx1, hb1, rfl⟩) | (go_at_call 154; refine Calls.mono (work_ov (by assumption) _ _ _ _) ?_; rintro e W ⟨rfl, w1, hx1, hb1, rfl⟩) | (go_at_call 152; refine Calls.mono (more_v1 (by assumption) H.out _ _ _ _ _ _ _ ?_ ?_ ?_) ?_; (· rfl); (· rfl); (· omega); rintro e W ⟨rfl, w1, hx1, hb1, rfl⟩) | (go_at_call 106; refine (mx_any _ _ hc0 hc1).mono ?_; rintro e W ⟨rfl, rfl⟩))
  rw [HL.out]
  go_ret
  exact ⟨ret_sl (by first | rfl | (simp only [List.length_append, List.length_cons, List.length_nil]; omega)), fin (by assumption) (by repeat (first | exact Ext.refl _ | assumption | refine Ext.trans ?_ (by assumption))) (by first | rfl | exact (app_nil _ _).symm | exact app_app _ _ _ _ | exact app_app3 _ _ _ _ _)⟩
set_option maxHeartbeats 1000000 in
theorem mIndexed_1 {m : Mac} {w : World} (hb : Base m w) (hts : m.ts = 115) (c : Cp) (sl : Nat → Int) (b : Bd) (n : Nat) (k : Int) (hc0 : 0 ≤ k) (hc1 : k < 256) (hr : n ≤ 4) (hd0 : ¬ cx k = 1) : mIndexed_Said m w c sl b n k := by
  unfold mIndexed_Said
  have H := Lib.hid hts
  clear hts
  obtain ⟨⟨hy0, hy1⟩, ⟨hz0, hz1⟩, ⟨hx0, hx3⟩, ⟨hq0, hq1⟩, ⟨hp0, hp1⟩⟩ := code_bd hc0 hc1
  obtain ⟨l, hm⟩ : ∃ l, mIndexed k = l := ⟨_, rfl⟩
  have HL := Lib.hid hm
  simp [mIndexed, *] at hm
  subst hm
  have hcxk1e : (cx k == 1) = false := by simp; omega
  have hcxk1n : (cx k != 1) = true := by simp; omega
  go_enter Tryz.func113, Tryz.ntmps113
  go_wp2_with (first | (go_at_call 159; refine Calls.mono (read_ov (by assumption) _ _ _ _ _) ?_; rintro e W ⟨rfl, w1, hx1, hb1, rfl⟩) | (go_at_call 160; refine Calls.mono (write_ov (by assumption) _ _ _ _ _) ?_; rintro e W ⟨rfl, w1, hx1, hb1, rfl⟩) | (go_at_call 155; refine Calls.mono (wait_ov (by assumption) _ _ _ _ _) ?_; rintro e W ⟨rfl, w1, hx1, hb1, rfl⟩) | (go_at_call 154; refine Calls.mono (work_ov (by assumption) _ _ _ _) ?_; rintro e W ⟨rfl, w1, hx1, hb1, rfl⟩) | (go_at_call 152; refine Calls.mono (more_v1 (by assumption) H.out _ _ _ _ _ _ _ ?_ ?_ ?_) ?_; (· rfl); (· rfl); (· omega); rintro e W ⟨rfl, w1, hx1, hb1, rfl⟩) | (go_at_call 106; refine (mx_any _ _ hc0 hc1).mono ?_; rintro e W ⟨rfl, rfl⟩))
  rw [HL.out]
  go_ret
  exact ⟨ret_sl (by first | rfl | (simp only [List.length_append, List.length_cons, List.length_nil]; omega)), fin (by assumption) (by repeat (first | exact Ext.refl _ | assumption | refine Ext.trans ?_ (by assumption))) (by first | rfl | exact (app_nil _ _).symm | exact app_app _ _ _ _ | exact app_app3 _ _ _ _ _)⟩
set_option maxHeartbeats 8000000 in
theorem mIndexed_any {m : Mac} {w : World} (hb : Base m w) (hts : m.ts = 115) (c : Cp) (sl : Nat → Int) (b : Bd) (n : Nat) (k : Int) (hc0 : 0 ≤ k) (hc1 : k < 256) (hr : n ≤ 4) : Calls Tryz.prog 113 #[.slice (some ⟨m.s, 0, none⟩) n 16, .int .u8 k] (mk w m c sl b) fun e W => e = .returned (.slice (some ⟨m.s, 0, none⟩) (n + (mIndexed k).length) 16) ∧ Lft w m c (app sl n (mIndexed k)) b W := by
  obtain ⟨⟨hy0, hy1⟩, ⟨hz0, hz1⟩, ⟨hx0, hx3⟩, ⟨hq0, hq1⟩, ⟨hp0, hp1⟩⟩ := code_bd hc0 hc1
  by_cases hd : cx k = 1
  · exact mIndexed_0 hb hts c sl b n k hc0 hc1 hr (by first | assumption | omega)
  · exact mIndexed_1 hb hts c sl b n k hc0 hc1 hr (by first | assumption | omega)

def mSecond_Said (m : Mac) (w : World) (c : Cp) (sl : Nat → Int) (b : Bd) (n : Nat) (k : Int) : Prop := Calls Tryz.prog 112 #[.slice (some ⟨m.s, 0, none⟩) n 16, .int .u8 k] (mk w m c sl b) fun e W => e = .returned (.slice (some ⟨m.s, 0, none⟩) (n + (mSecond k).length) 16) ∧ Lft w m c (app sl n (mSecond k)) b W
set_option maxHeartbeats 1000000 in
theorem mSecond_0 {m : Mac} {w : World} (hb : Base m w) (hts : m.ts = 115) (c : Cp) (sl : Nat → Int) (b : Bd) (n : Nat) (k : Int) (hc0 : 0 ≤ k) (hc1 : k < 256) (hr : n ≤ 4) (hd0 : cx k = 2) (hd1 : 4 ≤ cy k) (hd2 : cz k ≤ 3) : mSecond_Said m w c sl b n k := by
  unfold mSecond_Said
  have H := Lib.hid hts
  clear hts
  obtain ⟨⟨hy0, hy1⟩, ⟨hz0, hz1⟩, ⟨hx0, hx3⟩, ⟨hq0, hq1⟩, ⟨hp0, hp1⟩⟩ := code_bd hc0 hc1
  obtain ⟨l, hm⟩ : ∃ l, mSecond k = l := ⟨_, rfl⟩
  have HL := Lib.hid hm
  simp [mSecond, *] at hm
  subst hm
  go_enter Tryz.func112, Tryz.ntmps112
  go_wp2_with (first | (go_at_call 159; refine Calls.mono (read_ov (by assumption) _ _ _ _ _) ?_; rintro e W ⟨rfl, w1, hx1, hb1, rfl⟩) | (go_at_call 160; refine Calls.mono (write_ov (by assumption) _ _ _ _ _) ?_; rintro e W ⟨rfl, w1, hx1, hb1, rfl⟩) | (go_at_call 155; refine Calls.mono (wait_ov (by assumption) _ _ _ _ _) ?_; rintro e W ⟨rfl, w1, hx1, hb1, rfl⟩) | (go_at_call 154; refine Calls.mono (work_ov (by assumption) _ _ _ _) ?_; rintro e W ⟨rfl, w1, hx1, hb1, rfl⟩) | (go_at_call 153; refine Calls.mono (word_any (by assumption) H.out _ _ _ _ (by omega)) ?_; rintro e W ⟨rfl, w1, hx1, hb1, rfl⟩) | (go_at_call 152; refine Calls.mono (more_v1 (by assumption) H.out _ _ _ _ _ _ _ ?_ ?_ ?_) ?_; (· rfl); (· rfl); (· omega); rintro e W ⟨rfl, w1, hx1, hb1, rfl⟩) | (go_at_call 166; refine Calls.mono (mBlocks_any (by assumption) H.out _ _ _ _ _ hc0 hc1 (by assumption) (by assumption) (by omega)) ?_; rintro e W ⟨rfl, w1, hx1, hb1, rfl⟩) | (go_at_call 167; refine Calls.mono (mSpecials_any (by assumption) H.out _ _ _ _ _ hc0 hc1 (by omega)) ?_; rintro e W ⟨rfl, w1, hx1, hb1, rfl⟩) | (go_at_call 106; refine (mx_any _ _ hc0 hc1).mono ?_; rintro e W ⟨rfl, rfl⟩) | (go_at_call 157; refine (my_any _ _ hc0 hc1).mono ?_; rintro e W ⟨rfl, rfl⟩) | (go_at_call 149; refine (mz_any _ _ hc0 hc1).mono ?_; rintro e W ⟨rfl, rfl⟩) | (go_at_call 151; refine (mq_any _ _ hc0 hc1).mono ?_; rintro e W ⟨rfl, rfl⟩))
  rw [HL.out]
  go_ret
  exact ⟨ret_sl (by first | rfl | (simp only [List.length_append, List.length_cons, List.length_nil]; omega)), fin (by assumption) (by repeat (first | exact Ext.refl _ | assumption | refine Ext.trans ?_ (by assumption))) (by first | rfl | exact (app_nil _ _).symm | exact app_app _ _ _ _ | exact app_app3 _ _ _ _ _)⟩
set_option maxHeartbeats 1000000 in
theorem mSecond_1 {m : Mac} {w : World} (hb : Base m w) (hts : m.ts = 115) (c : Cp) (sl : Nat → Int) (b : Bd) (n : Nat) (k : Int) (hc0 : 0 ≤ k) (hc1 : k < 256) (hr : n ≤ 4) (hd0 : cx k = 2) (hd1 : ¬ 4 ≤ cy k) : mSecond_Said m w c sl b n k := by
  unfold mSecond_Said
  have H := Lib.hid hts
  clear hts
  obtain ⟨⟨hy0, hy1⟩, ⟨hz0, hz1⟩, ⟨hx0, hx3⟩, ⟨hq0, hq1⟩, ⟨hp0, hp1⟩⟩ := code_bd hc0 hc1
  obtain ⟨l, hm⟩ : ∃ l, mSecond k = l := ⟨_, rfl⟩
  have HL := Lib.hid hm
  simp [mSecond, *] at hm
  subst hm
  have hd4 : decide (4 ≤ cy k) = false := by simp; omega
  go_enter Tryz.func112, Tryz.ntmps112
  go_wp2_with (first | (go_at_call 159; refine Calls.mono (read_ov (by assumption) _ _ _ _ _) ?_; rintro e W ⟨rfl, w1, hx1, hb1, rfl⟩) | (go_at_call 160; refine Calls.mono (write_ov (by assumption) _ _ _ _ _) ?_; rintro e W ⟨rfl, w1, hx1, hb1, rfl⟩) | (go_at_call 155; refine Calls.mono (wait_ov (by assumption) _ _ _ _ _) ?_; rintro e W ⟨rfl, w1, hx1, hb1, rfl⟩) | (go_at_call 154; refine Calls.mono (work_ov (by assumption) _ _ _ _) ?_; rintro e W ⟨rfl, w1, hx1, hb1, rfl⟩) | (go_at_call 153; refine Calls.mono (word_any (by assumption) H.out _ _ _ _ (by omega)) ?_; rintro e W ⟨rfl, w1, hx1, hb1, rfl⟩) | (go_at_call 152; refine Calls.mono (more_v1 (by assumption) H.out _ _ _ _ _ _ _ ?_ ?_ ?_) ?_; (· rfl); (· rfl); (· omega); rintro e W ⟨rfl, w1, hx1, hb1, rfl⟩) | (go_at_call 166; refine Calls.mono (mBlocks_any (by assumption) H.out _ _ _ _ _ hc0 hc1 (by assumption) (by assumption) (by omega)) ?_; rintro e W ⟨rfl, w1, hx1, hb1, rfl⟩) | (go_at_call 167; refine Calls.mono (mSpecials_any (by assumption) H.out _ _ _ _ _ hc0 hc1 (by omega)) ?_; rintro e W ⟨rfl, w1, hx1, hb1, rfl⟩) | (go_at_call 106; refine (mx_any _ _ hc0 hc1).mono ?_; rintro e W ⟨rfl, rfl⟩) | (go_at_call 157; refine (my_any _ _ hc0 hc1).mono ?_; rintro e W ⟨rfl, rfl⟩) | (go_at_call 149; refine (mz_any _ _ hc0 hc1).mono ?_; rintro e W ⟨rfl, rfl⟩) | (go_at_call 151; refine (mq_any _ _ hc0 hc1).mono ?_; rintro e W ⟨rfl, rfl⟩))
  rw [HL.out]
  go_ret
  exact ⟨ret_sl (by first | rfl | (simp only [List.length_append, List.length_cons, List.length_nil]; omega)), fin (by assumption) (by repeat (first | exact Ext.refl _ | assumption | refine Ext.trans ?_ (by assumption))) (by first | rfl | exact (app_nil _ _).symm | exact app_app _ _ _ _ | exact app_app3 _ _ _ _ _)⟩
set_option maxHeartbeats 1000000 in
theorem mSecond_2 {m : Mac} {w : World} (hb : Base m w) (hts : m.ts = 115) (c : Cp) (sl : Nat → Int) (b : Bd) (n : Nat) (k : Int) (hc0 : 0 ≤ k) (hc1 : k < 256) (hr : n ≤ 4) (hd0 : cx k = 2) (hd1 : 4 ≤ cy k) (hd2 : ¬ cz k ≤ 3) : mSecond_Said m w c sl b n k := by
  unfold mSecond_Said
  have H := Lib.hid hts
  clear hts
  obtain ⟨⟨hy0, hy1⟩, ⟨hz0, hz1⟩, ⟨hx0, hx3⟩, ⟨hq0, hq1⟩, ⟨hp0, hp1⟩⟩ := code_bd hc0 hc1
  obtain ⟨l, hm⟩ : ∃ l, mSecond k = l := ⟨_, rfl⟩
  have HL := Lib.hid hm
  simp [mSecond, *] at hm
  subst hm
  have hd3 : decide (cz k ≤ 3) = false := by simp; omega
  go_enter Tryz.func112, Tryz.ntmps112
  go_wp2_with (first | (go_at_call 159; refine Calls.mono (read_ov (by assumption) _ _ _ _ _) ?_; rintro e W ⟨rfl, w1, hx1, hb1, rfl⟩) | (go_at_call 160; refine Calls.mono (write_ov (by assumption) _ _ _ _ _) ?_; rintro e W ⟨rfl, w1, hx1, hb1, rfl⟩) | (go_at_call 155; refine Calls.mono (wait_ov (by assumption) _ _ _ _ _) ?_; rintro e W ⟨rfl, w1, hx1, hb1, rfl⟩) | (go_at_call 154; refine Calls.mono (work_ov (by assumption) _ _ _ _) ?_; rintro e W ⟨rfl, w1, hx1, hb1, rfl⟩) | (go_at_call 153; refine Calls.mono (word_any (by assumption) H.out _ _ _ _ (by omega)) ?_; rintro e W ⟨rfl, w1, hx1, hb1, rfl⟩) | (go_at_call 152; refine Calls.mono (more_v1 (by assumption) H.out _ _ _ _ _ _ _ ?_ ?_ ?_) ?_; (· rfl); (· rfl); (· omega); rintro e W ⟨rfl, w1, hx1, hb1, rfl⟩) | (go_at_call 166; refine Calls.mono (mBlocks_any (by assumption) H.out _ _ _ _ _ hc0 hc1 (by assumption) (by assumption) (by omega)) ?_; rintro e W ⟨rfl, w1, hx1, hb1, rfl⟩) | (go_at_call 167; refine Calls.mono (mSpecials_any (by assumption) H.out _ _ _ _ _ hc0 hc1 (by omega)) ?_; rintro e W ⟨rfl, w1, hx1, hb1, rfl⟩) | (go_at_call 106; refine (mx_any _ _ hc0 hc1).mono ?_; rintro e W ⟨rfl, rfl⟩) | (go_at_call 157; refine (my_any _ _ hc0 hc1).mono ?_; rintro e W ⟨rfl, rfl⟩) | (go_at_call 149; refine (mz_any _ _ hc0 hc1).mono ?_; rintro e W ⟨rfl, rfl⟩) | (go_at_call 151; refine (mq_any _ _ hc0 hc1).mono ?_; rintro e W ⟨rfl, rfl⟩))
  rw [HL.out]
  go_ret
  exact ⟨ret_sl (by first | rfl | (simp only [List.length_append, List.length_cons, List.length_nil]; omega)), fin (by assumption) (by repeat (first | exact Ext.refl _ | assumption | refine Ext.trans ?_ (by assumption))) (by first | rfl | exact (app_nil _ _).symm | exact app_app _ _ _ _ | exact app_app3 _ _ _ _ _)⟩
set_option maxHeartbeats 1000000 in
theorem mSecond_3 {m : Mac} {w : World} (hb : Base m w) (hts : m.ts = 115) (c : Cp) (sl : Nat → Int) (b : Bd) (n : Nat) (k : Int) (hc0 : 0 ≤ k) (hc1 : k < 256) (hr : n ≤ 4) (hd0 : cx k = 0) : mSecond_Said m w c sl b n k := by
  unfold mSecond_Said
  have H := Lib.hid hts
  clear hts
  obtain ⟨⟨hy0, hy1⟩, ⟨hz0, hz1⟩, ⟨hx0, hx3⟩, ⟨hq0, hq1⟩, ⟨hp0, hp1⟩⟩ := code_bd hc0 hc1
  obtain ⟨l, hm⟩ : ∃ l, mSecond k = l := ⟨_, rfl⟩
  have HL := Lib.hid hm
  simp [mSecond, *] at hm
  subst hm
  go_enter Tryz.func112, Tryz.ntmps112
  go_wp2_with (first | (go_at_call 159; refine Calls.mono (read_ov (by assumption) _ _ _ _ _) ?_; rintro e W ⟨rfl, w1, hx1, hb1, rfl⟩) | (go_at_call 160; refine Calls.mono (write_ov (by assumption) _ _ _ _ _) ?_; rintro e W ⟨rfl, w1, hx1, hb1, rfl⟩) | (go_at_call 155; refine Calls.mono (wait_ov (by assumption) _ _ _ _ _) ?_; rintro e W ⟨rfl, w1, hx1, hb1, rfl⟩) | (go_at_call 154; refine Calls.mono (work_ov (by assumption) _ _ _ _) ?_; rintro e W ⟨rfl, w1, hx1, hb1, rfl⟩) | (go_at_call 153; refine Calls.mono (word_any (by assumption) H.out _ _ _ _ (by omega)) ?_; rintro e W ⟨rfl, w1, hx1, hb1, rfl⟩) | (go_at_call 152; refine Calls.mono (more_v1 (by assumption) H.out _ _ _ _ _ _ _ ?_ ?_ ?_) ?_; (· rfl); (· rfl); (· omega); rintro e W ⟨rfl, w1, hx1, hb1, rfl⟩) | (go_at_call 166; refine Calls.mono (mBlocks_any (by assumption) H.out _ _ _ _ _ hc0 hc1 (by assumption) (by assumption) (by omega)) ?_; rintro e W ⟨rfl, w1, hx1, hb1, rfl⟩) | (go_at_call 167; refine Calls.mono (mSpecials_any (by assumption) H.out _ _ _ _ _ hc0 hc1 (by omega)) ?_; rintro e W ⟨rfl, w1, hx1, hb1, rfl⟩) | (go_at_call 106; refine (mx_any _ _ hc0 hc1).mono ?_; rintro e W ⟨rfl, rfl⟩) | (go_at_call 157; refine (my_any _ _ hc0 hc1).mono ?_; rintro e W ⟨rfl, rfl⟩) | (go_at_call 149; refine (mz_any _ _ hc0 hc1).mono ?_; rintro e W ⟨rfl, rfl⟩) | (go_at_call 151; refine (mq_any _ _ hc0 hc1).mono ?_; rintro e W ⟨rfl, rfl⟩))
  rw [HL.out]
  go_ret
  exact ⟨ret_sl (by first | rfl | (simp only [List.length_append, List.length_cons, List.length_nil]; omega)), fin (by assumption) (by repeat (first | exact Ext.refl _ | assumption | refine Ext.trans ?_ (by assumption))) (by first | rfl | exact (app_nil _ _).symm | exact app_app _ _ _ _ | exact app_app3 _ _ _ _ _)⟩
set_option maxHeartbeats 1000000 in
theorem mSecond_4 {m : Mac} {w : World} (hb : Base m w) (hts : m.ts = 115) (c : Cp) (sl : Nat → Int) (b : Bd) (n : Nat) (k : Int) (hc0 : 0 ≤ k) (hc1 : k < 256) (hr : n ≤ 4) (hd0 : cx k = 3) : mSecond_Said m w c sl b n k := by
  unfold mSecond_Said
  have H := Lib.hid hts
  clear hts
  obtain ⟨⟨hy0, hy1⟩, ⟨hz0, hz1⟩, ⟨hx0, hx3⟩, ⟨hq0, hq1⟩, ⟨hp0, hp1⟩⟩ := code_bd hc0 hc1
  obtain ⟨l, hm⟩ : ∃ l, mSecond k = l := ⟨_, rfl⟩
  have HL := Lib.hid hm
  simp [mSecond, *] at hm
  subst hm
  go_enter Tryz.func112, Tryz.ntmps112
  go_wp2_with (first | (go_at_call 159; refine Calls.mono (read_ov (by assumption) _ _ _ _ _) ?_; rintro e W ⟨rfl, w1, hx1, hb1, rfl⟩) | (go_at_call 160; refine Calls.mono (write_ov (by assumption) _ _ _ _ _) ?_; rintro e W ⟨rfl, w1, hx1, hb1, rfl⟩) | (go_at_call 155; refine Calls.mono (wait_ov (by assumption) _ _ _ _ _) ?_; rintro e W ⟨rfl, w1, hx1, hb1, rfl⟩) | (go_at_call 154; refine Calls.mono (work_ov (by assumption) _ _ _ _) ?_; rintro e W ⟨rfl, w1, hx1, hb1, rfl⟩) | (go_at_call 153; refine Calls.mono (word_any (by assumption) H.out _ _ _ _ (by omega)) ?_; rintro e W ⟨rfl, w1, hx1, hb1, rfl⟩) | (go_at_call 152; refine Calls.mono (more_v1 (by assumption) H.out _ _ _ _ _ _ _ ?_ ?_ ?_) ?_; (· rfl); (· rfl); (· omega); rintro e W ⟨rfl, w1, hx1, hb1, rfl⟩) | (go_at_call 166; refine Calls.mono (mBlocks_any (by assumption) H.out _ _ _ _ _ hc0 hc1 (by assumption) (by assumption) (by omega)) ?_; rintro e W ⟨rfl, w1, hx1, hb1, rfl⟩) | (go_at_call 167; refine Calls.mono (mSpecials_any (by assumption) H.out _ _ _ _ _ hc0 hc1 (by omega)) ?_; rintro e W ⟨rfl, w1, hx1, hb1, rfl⟩) | (go_at_call 106; refine (mx_any _ _ hc0 hc1).mono ?_; rintro e W ⟨rfl, rfl⟩) | (go_at_call 157; refine (my_any _ _ hc0 hc1).mono ?_; rintro e W ⟨rfl, rfl⟩) | (go_at_call 149; refine (mz_any _ _ hc0 hc1).mono ?_; rintro e W ⟨rfl, rfl⟩) | (go_at_call 151; refine (mq_any _ _ hc0 hc1).mono ?_; rintro e W ⟨rfl, rfl⟩))
  rw [HL.out]
  go_ret
  exact ⟨ret_sl (by first | rfl | (simp only [List.length_append, List.length_cons, List.length_nil]; omega)), fin (by assumption) (by repeat (first | exact Ext.refl _ | assumption | refine Ext.trans ?_ (by assumption))) (by first | rfl | exact (app_nil _ _).symm | exact app_app _ _ _ _ | exact app_app3 _ _ _ _ _)⟩
set_option maxHeartbeats 1000000 in
theorem mSecond_5 {m : Mac} {w : World} (hb : Base m w) (hts : m.ts = 115) (c : Cp) (sl : Nat → Int) (b : Bd) (n : Nat) (k : Int) (hc0 : 0 ≤ k) (hc1 : k < 256) (hr : n ≤ 4) (hd0 : cx k = 1) (hd1 : cz k = 0) : mSecond_Said m w c sl b n k := by
  unfold mSecond_Said
  have H := Lib.hid hts
  clear hts
  obtain ⟨⟨hy0, hy1⟩, ⟨hz0, hz1⟩, ⟨hx0, hx3⟩, ⟨hq0, hq1⟩, ⟨hp0, hp1⟩⟩ := code_bd hc0 hc1
  obtain ⟨l, hm⟩ : ∃ l, mSecond k = l := ⟨_, rfl⟩
  have HL := Lib.hid hm
  simp [mSecond, *] at hm
  subst hm
  go_enter Tryz.func112, Tryz.ntmps112
  go_wp2_with (first | (go_at_call 159; refine Calls.mono (read_ov (by assumption) _ _ _ _ _) ?_; rintro e W ⟨rfl, w1, hx1, hb1, rfl⟩) | (go_at_call 160; refine Calls.mono (write_ov (by assumption) _ _ _ _ _) ?_; rintro e W ⟨rfl, w1, hx1, hb1, rfl⟩) | (go_at_call 155; refine Calls.mono (wait_ov (by assumption) _ _ _ _ _) ?_; rintro e W ⟨rfl, w1, hx1, hb1, rfl⟩) | (go_at_call 154; refine Calls.mono (work_ov (by assumption) _ _ _ _) ?_; rintro e W ⟨rfl, w1, hx1, hb1, rfl⟩) | (go_at_call 153; refine Calls.mono (word_any (by assumption) H.out _ _ _ _ (by omega)) ?_; rintro e W ⟨rfl, w1, hx1, hb1, rfl⟩) | (go_at_call 152; refine Calls.mono (more_v1 (by assumption) H.out _ _ _ _ _ _ _ ?_ ?_ ?_) ?_; (· rfl); (· rfl); (· omega); rintro e W ⟨rfl, w1, hx1, hb1, rfl⟩) | (go_at_call 166; refine Calls.mono (mBlocks_any (by assumption) H.out _ _ _ _ _ hc0 hc1 (by assumption) (by assumption) (by omega)) ?_; rintro e W ⟨rfl, w1, hx1, hb1, rfl⟩) | (go_at_call 167; refine Calls.mono (mSpecials_any (by assumption) H.out _ _ _ _ _ hc0 hc1 (by omega)) ?_; rintro e W ⟨rfl, w1, hx1, hb1, rfl⟩) | (go_at_call 106; refine (mx_any _ _ hc0 hc1).mono ?_; rintro e W ⟨rfl, rfl⟩) | (go_at_call 157; refine (my_any _ _ hc0 hc1).mono ?_; rintro e W ⟨rfl, rfl⟩) | (go_at_call 149; refine (mz_any _ _ hc0 hc1).mono ?_; rintro e W ⟨rfl, rfl⟩) | (go_at_call 151; refine (mq_any _ _ hc0 hc1).mono ?_; rintro e W ⟨rfl, rfl⟩))
  rw [HL.out]
  go_ret
  exact ⟨ret_sl (by first | rfl | (simp only [List.length_append, List.length_cons, List.length_nil]; omega)), fin (by assumption) (by repeat (first | exact Ext.refl _ | assumption | refine Ext.trans ?_ (by assumption))) (by first | rfl | exact (app_nil _ _).symm | exact app_app _ _ _ _ | exact app_app3 _ _ _ _ _)⟩
set_option maxHeartbeats 1000000 in
theorem mSecond_6 {m : Mac} {w : World} (hb : Base m w) (hts : m.ts = 115) (c : Cp) (sl : Nat → Int) (b : Bd) (n : Nat) (k : Int) (hc0 : 0 ≤ k) (hc1 : k < 256) (hr : n ≤ 4) (hd0 : cx k = 1) (hd1 : cz k = 1) : mSecond_Said m w c sl b n k := by
  unfold mSecond_Said
  have H := Lib.hid hts
  clear hts
  obtain ⟨⟨hy0, hy1⟩, ⟨hz0, hz1⟩, ⟨hx0, hx3⟩, ⟨hq0, hq1⟩, ⟨hp0, hp1⟩⟩ := code_bd hc0 hc1
  obtain ⟨l, hm⟩ : ∃ l, mSecond k = l := ⟨_, rfl⟩
  have HL := Lib.hid hm
  simp [mSecond, *] at hm
  subst hm
  go_enter Tryz.func112, Tryz.ntmps112
  go_wp2_with (first | (go_at_call 159; refine Calls.mono (read_ov (by assumption) _ _ _ _ _) ?_; rintro e W ⟨rfl, w1, hx1, hb1, rfl⟩) | (go_at_call 160; refine Calls.mono (write_ov (by assumption) _ _ _ _ _) ?_; rintro e W ⟨rfl, w1, hx1, hb1, rfl⟩) | (go_at_call 155; refine Calls.mono (wait_ov (by assumption) _ _ _ _ _) ?_; rintro e W ⟨rfl, w1, hx1, hb1, rfl⟩) | (go_at_call 154; refine Calls.mono (work_ov (by assumption) _ _ _ _) ?_; rintro e W ⟨rfl, w1, hx1, hb1, rfl⟩) | (go_at_call 153; refine Calls.mono (word_any (by assumption) H.out _ _ _ _ (by omega)) ?_; rintro e W ⟨rfl, w1, hx1, hb1, rfl⟩) | (go_at_call 152; refine Calls.mono (more_v1 (by assumption) H.out _ _ _ _ _ _ _ ?_ ?_ ?_) ?_; (· rfl); (· rfl); (· omega); rintro e W ⟨rfl, w1, hx1, hb1, rfl⟩) | (go_at_call 166; refine Calls.mono (mBlocks_any (by assumption) H.out _ _ _ _ _ hc0 hc1 (by assumption) (by assumption) (by omega)) ?_; rintro e W ⟨rfl, w1, hx1, hb1, rfl⟩) | (go_at_call 167; refine Calls.mono (mSpecials_any (by assumption) H.out _ _ _ _ _ hc0 hc1 (by omega)) ?_; rintro e W ⟨rfl, w1, hx1, hb1, rfl⟩) | (go_at_call 106; refine (mx_any _ _ hc0 hc1).mono ?_; rintro e W ⟨rfl, rfl⟩) | (go_at_call 157; refine (my_any _ _ hc0 hc1).mono ?_; rintro e W ⟨rfl, rfl⟩) | (go_at_call 149; refine (mz_any _ _ hc0 hc1).mono ?_; rintro e W ⟨rfl, rfl⟩) | (go_at_call 151; refine (mq_any _ _ hc0 hc1).mono ?_; rintro e W ⟨rfl, rfl⟩))
  rw [HL.out]
  go_ret
  exact ⟨ret_sl (by first | rfl | (simp only [List.length_append, List.length_cons, List.length_nil]; omega)), fin (by assumption) (by repeat (first | exact Ext.refl _ | assumption | refine Ext.trans ?_ (by assumption))) (by first | rfl | exact (app_nil _ _).symm | exact app_app _ _ _ _ | exact app_app3 _ _ _ _ _)⟩
set_option maxHeartbeats 1000000 in
theorem mSecond_7 {m : Mac} {w : World} (hb : Base m w) (hts : m.ts = 115) (c : Cp) (sl : Nat → Int) (b : Bd) (n : Nat) (k : Int) (hc0 : 0 ≤ k) (hc1 : k < 256) (hr : n ≤ 4) (hd0 : cx k = 1) (hd1 : cz k = 2) (hd2 : cq k = 0) : mSecond_Said m w c sl b n k := by
  unfold mSecond_Said
  have H := Lib.hid hts
  clear hts
  obtain ⟨⟨hy0, hy1⟩, ⟨hz0, hz1⟩, ⟨hx0, hx3⟩, ⟨hq0, hq1⟩, ⟨hp0, hp1⟩⟩ := code_bd hc0 hc1
  obtain ⟨l, hm⟩ : ∃ l, mSecond k = l := ⟨_, rfl⟩
  have HL := Lib.hid hm
  simp [mSecond, *] at hm
  subst hm
  go_enter Tryz.func112, Tryz.ntmps112
  go_wp2_with (first | (go_at_call 159; refine Calls.mono (read_ov (by assumption) _ _ _ _ _) ?_; rintro e W ⟨rfl, w1, hx1, hb1, rfl⟩) | (go_at_call 160; refine Calls.mono (write_ov (by assumption) _ _ _ _ _) ?_; rintro e W ⟨rfl, w1, hx1, hb1, rfl⟩) | (go_at_call 155; refine Calls.mono (wait_ov (by assumption) _ _ _ _ _) ?_; rintro e W ⟨rfl, w1, hx1, hb1, rfl⟩) | (go_at_call 154; refine Calls.mono (work_ov (by assumption) _ _ _ _) ?_; rintro e W ⟨rfl, w1, hx1, hb1, rfl⟩) | (go_at_call 153; refine Calls.mono (word_any (by assumption) H.out _ _ _ _ (by omega)) ?_; rintro e W ⟨rfl, w1, hx1, hb1, rfl⟩) | (go_at_call 152; refine Calls.mono (more_v1 (by assumption) H.out _ _ _ _ _ _ _ ?_ ?_ ?_) ?_; (· rfl); (· rfl); (· omega); rintro e W ⟨rfl, w1, hx1, hb1, rfl⟩) | (go_at_call 166; refine Calls.mono (mBlocks_any (by assumption) H.out _ _ _ _ _ hc0 hc1 (by assumption) (by assumption) (by omega)) ?_; rintro e W ⟨rfl, w1, hx1, hb1, rfl⟩) | (go_at_call 167; refine Calls.mono (mSpecials_any (by assumption) H.out _ _ _ _ _ hc0 hc1 (by omega)) ?_; rintro e W ⟨rfl, w1, hx1, hb1, rfl⟩) | (go_at_call 106; refine (mx_any _ _ hc0 hc1).mono ?_; rintro e W ⟨rfl, rfl⟩) | (go_at_call 157; refine (my_any _ _ hc0 hc1).mono ?_; rintro e W ⟨rfl, rfl⟩) | (go_at_call 149; refine (mz_any _ _ hc0 hc1).mono ?_; rintro e W ⟨rfl, rfl⟩) | (go_at_call 151; refine (mq_any _ _ hc0 hc1).mono ?_; rintro e W ⟨rfl, rfl⟩))
  rw [HL.out]
  go_ret
  exact ⟨ret_sl (by first | rfl | (simp only [List.length_append, List.length_cons, List.length_nil]; omega)), fin (by assumption) (by repeat (first | exact Ext.refl _ | assumption | refine Ext.trans ?_ (by assumption))) (by first | rfl | exact (app_nil _ _).symm | exact app_app _ _ _ _ | exact app_app3 _ _ _ _ _)⟩
set_option maxHeartbeats 1000000 in
theorem mSecond_8 {m : Mac} {w : World} (hb : Base m w) (hts : m.ts = 115) (c : Cp) (sl : Nat → Int) (b : Bd) (n : Nat) (k : Int) (hc0 : 0 ≤ k) (hc1 : k < 256) (hr : n ≤ 4) (hd0 : cx k = 1) (hd1 : cz k = 2) (hd2 : cq k = 1) : mSecond_Said m w c sl b n k := by
  unfold mSecond_Said
  have H := Lib.hid hts
  clear hts
  obtain ⟨⟨hy0, hy1⟩, ⟨hz0, hz1⟩, ⟨hx0, hx3⟩, ⟨hq0, hq1⟩, ⟨hp0, hp1⟩⟩ := code_bd hc0 hc1
  obtain ⟨l, hm⟩ : ∃ l, mSecond k = l := ⟨_, rfl⟩
  have HL := Lib.hid hm
  simp [mSecond, *] at hm
  subst hm
  go_enter Tryz.func112, Tryz.ntmps112
  go_wp2_with (first | (go_at_call 159; refine Calls.mono (read_ov (by assumption) _ _ _ _ _) ?_; rintro e W ⟨rfl, w1, hx1, hb1, rfl⟩) | (go_at_call 160; refine Calls.mono (write_ov (by assumption) _ _ _ _ _) ?_; rintro e W ⟨rfl, w1, hx1, hb1, rfl⟩) | (go_at_call 155; refine Calls.mono (wait_ov (by assumption) _ _ _ _ _) ?_; rintro e W ⟨rfl, w1, hx1, hb1, rfl⟩) | (go_at_call 154; refine Calls.mono (work_ov (by assumption) _ _ _ _) ?_; rintro e W ⟨rfl, w1, hx1, hb1, rfl⟩) | (go_at_call 153; refine Calls.mono (word_any (by assumption) H.out _ _ _ _ (by omega)) ?_; rintro e W ⟨rfl, w1, hx1, hb1, rfl⟩) | (go_at_call 152; refine Calls.mono (more_v1 (by assumption) H.out _ _ _ _ _ _ _ ?_ ?_ ?_) ?_; (· rfl); (· rfl); (· omega); rintro e W ⟨rfl, w1, hx1, hb1, rfl⟩) | (go_at_call 166; refine Calls.mono (mBlocks_any (by assumption) H.out _ _ _ _ _ hc0 hc1 (by assumption) (by assumption) (by omega)) ?_; rintro e W ⟨rfl, w1, hx1, hb1, rfl⟩) | (go_at_call 167; refine Calls.mono (mSpecials_any (by assumption) H.out _ _ _ _ _ hc0 hc1 (by omega)) ?_; rintro e W ⟨rfl, w1, hx1, hb1, rfl⟩) | (go_at_call 106; refine (mx_any _ _ hc0 hc1).mono ?_; rintro e W ⟨rfl, rfl⟩) | (go_at_call 157; refine (my_any _ _ hc0 hc1).mono ?_; rintro e W ⟨rfl, rfl⟩) | (go_at_call 149; refine (mz_any _ _ hc0 hc1).mono ?_; rintro e W ⟨rfl, rfl⟩) | (go_at_call 151; refine (mq_any _ _ hc0 hc1).mono ?_; rintro e W ⟨rfl, rfl⟩))
  rw [HL.out]
  go_ret
  exact ⟨ret_sl (by first | rfl | (simp only [List.length_append, List.length_cons, List.length_nil]; omega)), fin (by assumption) (by repeat (first | exact Ext.refl _ | assumption | refine Ext.trans ?_ (by assumption))) (by first | rfl | exact (app_nil _ _).symm | exact app_app _ _ _ _ | exact app_app3 _ _ _ _ _)⟩
set_option maxHeartbeats 1000000 in
theorem mSecond_9 {m : Mac} {w : World} (hb : Base m w) (hts : m.ts = 115) (c : Cp) (sl : Nat → Int) (b : Bd) (n : Nat) (k : Int) (hc0 : 0 ≤ k) (hc1 : k < 256) (hr : n ≤ 4) (hd0 : cx k = 1) (hd1 : cz k = 3) (hd2 : cq k = 0) : mSecond_Said m w c sl b n k := by
  unfold mSecond_Said
  have H := Lib.hid hts
  clear hts
  obtain ⟨⟨hy0, hy1⟩, ⟨hz0, hz1⟩, ⟨hx0, hx3⟩, ⟨hq0, hq1⟩, ⟨hp0, hp1⟩⟩ := code_bd hc0 hc1
  obtain ⟨l, hm⟩ : ∃ l, mSecond k = l := ⟨_, rfl⟩
  have HL := Lib.hid hm
  simp [mSecond, *] at hm
  subst hm
  go_enter Tryz.func112, Tryz.ntmps112
  go_wp2_with (first | (go_at_call 159; refine Calls.mono (read_ov (by assumption) _ _ _ _ _) ?_; rintro e W ⟨rfl, w1, hx1, hb1, rfl⟩) | (go_at_call 160; refine Calls.mono (write_ov (by assumption) _ _ _ _ _) ?_; rintro e W ⟨rfl, w1, hx1, hb1, rfl⟩) | (go_at_call 155; refine Calls.mono (wait_ov (by assumption) _ _ _ _ _) ?_; rintro e W ⟨rfl, w1, hx1, hb1, rfl⟩) | (go_at_call 154; refine Calls.mono (work_ov (by assumption) _ _ _ _) ?_; rintro e W ⟨rfl, w1, hx1, hb1, rfl⟩) | (go_at_call 153; refine Calls.mono (word_any (by assumption) H.out _ _ _ _ (by omega)) ?_; rintro e W ⟨rfl, w1, hx1, hb1, rfl⟩) | (go_at_call 152; refine Calls.mono (more_v1 (by assumption) H.out _ _ _ _ _ _ _ ?_ ?_ ?_) ?_; (· rfl); (· rfl); (· omega); rintro e W ⟨rfl, w1, hx1, hb1, rfl⟩) | (go_at_call 166; refine Calls.mono (mBlocks_any (by assumption) H.out _ _ _ _ _ hc0 hc1 (by assumption) (by assumption) (by omega)) ?_; rintro e W ⟨rfl, w1, hx1, hb1, rfl⟩) | (go_at_call 167; refine Calls.mono (mSpecials_any (by assumption) H.out _ _ _ _ _ hc0 hc1 (by omega)) ?_; rintro e W ⟨rfl, w1, hx1, hb1, rfl⟩) | (go_at_call 106; refine (mx_any _ _ hc0 hc1).mono ?_; rintro e W ⟨rfl, rfl⟩) | (go_at_call 157; refine (my_any _ _ hc0 hc1).mono ?_; rintro e W ⟨rfl, rfl⟩) | (go_at_call 149; refine (mz_any _ _ hc0 hc1).mono ?_; rintro e W ⟨rfl, rfl⟩) | (go_at_call 151; refine (mq_any _ _ hc0 hc1).mono ?_; rintro e W ⟨rfl, rfl⟩))
  rw [HL.out]
  go_ret
  exact ⟨ret_sl (by first | rfl | (simp only [List.length_append, List.length_cons, List.length_nil]; omega)), fin (by assumption) (by repeat (first | exact Ext.refl _ | assumption | refine Ext.trans ?_ (by assumption))) (by first | rfl | exact (app_nil _ _).symm | exact app_app _ _ _ _ | exact app_app3 _ _ _ _ _)⟩
set_option maxHeartbeats 1000000 in
theorem mSecond_10 {m : Mac} {w : World} (hb : Base m w) (hts : m.ts = 115) (c : Cp) (sl : Nat → Int) (b : Bd) (n : Nat) (k : Int) (hc0 : 0 ≤ k) (hc1 : k < 256) (hr : n ≤ 4) (hd0 : cx k = 1) (hd1 : cz k = 3) (hd2 : cq k = 1) : mSecond_Said m w c sl b n k := by
  unfold mSecond_Said
  have H := Lib.hid hts
  clear hts
  obtain ⟨⟨hy0, hy1⟩, ⟨hz0, hz1⟩, ⟨hx0, hx3⟩, ⟨hq0, hq1⟩, ⟨hp0, hp1⟩⟩ := code_bd hc0 hc1
  obtain ⟨l, hm⟩ : ∃ l, mSecond k = l := ⟨_, rfl⟩
  have HL := Lib.hid hm
  simp [mSecond, *] at hm
  subst hm
  go_enter Tryz.func112, Tryz.ntmps112
  go_wp2_with (first | (go_at_call 159; refine Calls.mono (read_ov (by assumption) _ _ _ _ _) ?_; rintro e W ⟨rfl, w1, hx1, hb1, rfl⟩) | (go_at_call 160; refine Calls.mono (write_ov (by assumption) _ _ _ _ _) ?_; rintro e W ⟨rfl, w1, hx1, hb1, rfl⟩) | (go_at_call 155; refine Calls.mono (wait_ov (by assumption) _ _ _ _ _) ?_; rintro e W ⟨rfl, w1, hx1, hb1, rfl⟩) | (go_at_call 154; refine Calls.mono (work_ov (by assumption) _ _ _ _) ?_; rintro e W ⟨rfl, w1, hx1, hb1, rfl⟩) | (go_at_call 153; refine Calls.mono (word_any (by assumption) H.out _ _ _ _ (by omega)) ?_; rintro e W ⟨rfl, w1, hx1, hb1, rfl⟩) | (go_at_call 152; refine Calls.mono (more_v1 (by assumption) H.out _ _ _ _ _ _ _ ?_ ?_ ?_) ?_; (· rfl); (· rfl); (· omega); rintro e W ⟨rfl, w1, hx1, hb1, rfl⟩) | (go_at_call 166; refine Calls.mono (mBlocks_any (by assumption) H.out _ _ _ _ _ hc0 hc1 (by assumption) (by assumption) (by omega)) ?_; rintro e W ⟨rfl, w1, hx1, hb1, rfl⟩) | (go_at_call 167; refine Calls.mono (mSpecials_any (by assumption) H.out _ _ _ _ _ hc0 hc1 (by omega)) ?_; rintro e W ⟨rfl, w1, hx1, hb1, rfl⟩) | (go_at_call 106; refine (mx_any _ _ hc0 hc1).mono ?_; rintro e W ⟨rfl, rfl⟩) | (go_at_call 157; refine (my_any _ _ hc0 hc1).mono ?_; rintro e W ⟨rfl, rfl⟩) | (go_at_call 149; refine (mz_any _ _ hc0 hc1).mono ?_; rintro e W ⟨rfl, rfl⟩) | (go_at_call 151; refine (mq_any _ _ hc0 hc1).mono ?_; rintro e W ⟨rfl, rfl⟩))
  rw [HL.out]
  go_ret
  exact ⟨ret_sl (by first | rfl | (simp only [List.length_append, List.length_cons, List.length_nil]; omega)), fin (by assumption) (by repeat (first | exact Ext.refl _ | assumption | refine Ext.trans ?_ (by assumption))) (by first | rfl | exact (app_nil _ _).symm | exact app_app _ _ _ _ | exact app_app3 _ _ _ _ _)⟩
set_option maxHeartbeats 1000000 in
theorem mSecond_11 {m : Mac} {w : World} (hb : Base m w) (hts : m.ts = 115) (c : Cp) (sl : Nat → Int) (b : Bd) (n : Nat) (k : Int) (hc0 : 0 ≤ k) (hc1 : k < 256) (hr : n ≤ 4) (hd0 : cx k = 1) (hd1 : cz k = 4) : mSecond_Said m w c sl b n k := by
  unfold mSecond_Said
  have H := Lib.hid hts
  clear hts
  obtain ⟨⟨hy0, hy1⟩, ⟨hz0, hz1⟩, ⟨hx0, hx3⟩, ⟨hq0, hq1⟩, ⟨hp0, hp1⟩⟩ := code_bd hc0 hc1
  obtain ⟨l, hm⟩ : ∃ l, mSecond k = l := ⟨_, rfl⟩
  have HL := Lib.hid hm
  simp [mSecond, *] at hm
  subst hm
  go_enter Tryz.func112, Tryz.ntmps112
  go_wp2_with (first | (go_at_call 159; refine Calls.mono (read_ov (by assumption) _ _ _ _ _) ?_; rintro e W ⟨rfl, w1, hx1, hb1, rfl⟩) | (go_at_call 160; refine Calls.mono (write_ov (by assumption) _ _ _ _ _) ?_; rintro e W ⟨rfl, w1, hx1, hb1, rfl⟩) | (go_at_call 155; refine Calls.mono (wait_ov (by assumption) _ _ _ _ _) ?_; rintro e W ⟨rfl, w1, hx1, hb1, rfl⟩) | (go_at_call 154; refine Calls.mono (work_ov (by assumption) _ _ _ _) ?_; rintro e W ⟨rfl, w1, hx1, hb1, rfl⟩) | (go_at_call 153; refine Calls.mono (word_any (by assumption) H.out _ _ _ _ (by omega)) ?_; rintro e W ⟨rfl, w1, hx1, hb1, rfl⟩) | (go_at_call 152; refine Calls.mono (more_v1 (by assumption) H.out _ _ _ _ _ _ _ ?_ ?_ ?_) ?_; (· rfl); (· rfl); (· omega); rintro e W ⟨rfl, w1, hx1, hb1, rfl⟩) | (go_at_call 166; refine Calls.mono (mBlocks_any (by assumption) H.out _ _ _ _ _ hc0 hc1 (by assumption) (by assumption) (by omega)) ?_; rintro e W ⟨rfl, w1, hx1, hb1, rfl⟩) | (go_at_call 167; refine Calls.mono (mSpecials_any (by assumption) H.out _ _ _ _ _ hc0 hc1 (by omega)) ?_; rintro e W ⟨rfl, w1, hx1, hb1, rfl⟩) | (go_at_call 106; refine (mx_any _ _ hc0 hc1).mono ?_; rintro e W ⟨rfl, rfl⟩) | (go_at_call 157; refine (my_any _ _ hc0 hc1).mono ?_; rintro e W ⟨rfl, rfl⟩) | (go_at_call 149; refine (mz_any _ _ hc0 hc1).mono ?_; rintro e W ⟨rfl, rfl⟩) | (go_at_call 151; refine (mq_any _ _ hc0 hc1).mono ?_; rintro e W ⟨rfl, rfl⟩))
  rw [HL.out]
  go_ret
  exact ⟨ret_sl (by first | rfl | (simp only [List.length_append, List.length_cons, List.length_nil]; omega)), fin (by assumption) (by repeat (first | exact Ext.refl _ | assumption | refine Ext.trans ?_ (by assumption))) (by first | rfl | exact (app_nil _ _).symm | exact app_app _ _ _ _ | exact app_app3 _ _ _ _ _)⟩
set_option maxHeartbeats 1000000 in
theorem mSecond_12 {m : Mac} {w : World} (hb : Base m w) (hts : m.ts = 115) (c : Cp) (sl : Nat → Int) (b : Bd) (n : Nat) (k : Int) (hc0 : 0 ≤ k) (hc1 : k < 256) (hr : n ≤ 4) (hd0 : cx k = 1) (hd1 : cz k = 5) : mSecond_Said m w c sl b n k := by
  unfold mSecond_Said
  have H := Lib.hid hts
  clear hts
  obtain ⟨⟨hy0, hy1⟩, ⟨hz0, hz1⟩, ⟨hx0, hx3⟩, ⟨hq0, hq1⟩, ⟨hp0, hp1⟩⟩ := code_bd hc0 hc1
  obtain ⟨l, hm⟩ : ∃ l, mSecond k = l := ⟨_, rfl⟩
  have HL := Lib.hid hm
  simp [mSecond, *] at hm
  subst hm
  go_enter Tryz.func112, Tryz.ntmps112
  go_wp2_with (first | (go_at_call 159; refine Calls.mono (read_ov (by assumption) _ _ _ _ _) ?_; rintro e W ⟨rfl, w1, hx1, hb1, rfl⟩) | (go_at_call 160; refine Calls.mono (write_ov (by assumption) _ _ _ _ _) ?_; rintro e W ⟨rfl, w1, hx1, hb1, rfl⟩) | (go_at_call 155; refine Calls.mono (wait_ov (by assumption) _ _ _ _ _) ?_; rintro e W ⟨rfl, w1, hx1, hb1, rfl⟩) | (go_at_call 154; refine Calls.mono (work_ov (by assumption) _ _ _ _) ?_; rintro e W ⟨rfl, w1, hx1, hb1, rfl⟩) | (go_at_call 153; refine Calls.mono (word_any (by assumption) H.out _ _ _ _ (by omega)) ?_; rintro e W ⟨rfl, w1, hx1, hb1, rfl⟩) | (go_at_call 152; refine Calls.mono (more_v1 (by assumption) H.out _ _ _ _ _ _ _ ?_ ?_ ?_) ?_; (· rfl); (· rfl); (· omega); rintro e W ⟨rfl, w1, hx1, hb1, rfl⟩) | (go_at_call 166; refine Calls.mono (mBlocks_any (by assumption) H.out _ _ _ _ _ hc0 hc1 (by assumption) (by assumption) (by omega)) ?_; rintro e W ⟨rfl, w1, hx1, hb1, rfl⟩) | (go_at_call 167; refine Calls.mono (mSpecials_any (by assumption) H.out _ _ _ _ _ hc0 hc1 (by omega)) ?_; rintro e W ⟨rfl, w1, hx1, hb1, rfl⟩) | (go_at_call 106; refine (mx_any _ _ hc0 hc1).mono ?_; rintro e W ⟨rfl, rfl⟩) | (go_at_call 157; refine (my_any _ _ hc0 hc1).mono ?_; rintro e W ⟨rfl, rfl⟩) | (go_at_call 149; refine (mz_any _ _ hc0 hc1).mono ?_; rintro e W ⟨rfl, rfl⟩) | (go_at_call 151; refine (mq_any _ _ hc0 hc1).mono ?_; rintro e W ⟨rfl, rfl⟩))
  rw [HL.out]
  go_ret
  exact ⟨ret_sl (by first | rfl | (simp only [List.length_append, List.length_cons, List.length_nil]; omega)), fin (by assumption) (by repeat (first | exact Ext.refl _ | assumption | refine Ext.trans ?_ (by assumption))) (by first | rfl | exact (app_nil _ _).symm | exact app_app _ _ _ _ | exact app_app3 _ _ _ _ _)⟩
set_option maxHeartbeats 1000000 in
theorem mSecond_13 {m : Mac} {w : World} (hb : Base m w) (hts : m.ts = 115) (c : Cp) (sl : Nat → Int) (b : Bd) (n : Nat) (k : Int) (hc0 : 0 ≤ k) (hc1 : k < 256) (hr : n ≤ 4) (hd0 : cx k = 1) (hd1 : cz k = 6) : mSecond_Said m w c sl b n k := by
  unfold mSecond_Said
  have H := Lib.hid hts
  clear hts
  obtain ⟨⟨hy0, hy1⟩, ⟨hz0, hz1⟩, ⟨hx0, hx3⟩, ⟨hq0, hq1⟩, ⟨hp0, hp1⟩⟩ := code_bd hc0 hc1
  obtain ⟨l, hm⟩ : ∃ l, mSecond k = l := ⟨_, rfl⟩
  have HL := Lib.hid hm
  simp [mSecond, *] at hm
  subst hm
  go_enter Tryz.func112, Tryz.ntmps112
  go_wp2_with (first | (go_at_call 159; refine Calls.mono (read_ov (by assumption) _ _ _ _ _) ?_; rintro e W ⟨rfl, w1, hx1, hb1, rfl⟩) | (go_at_call 160; refine Calls.mono (write_ov (by assumption) _ _ _ _ _) ?_; rintro e W ⟨rfl, w1, hx1, hb1, rfl⟩) | (go_at_call 155; refine Calls.mono (wait_ov (by assumption) _ _ _ _ _) ?_; rintro e W ⟨rfl, w1, hx1, hb1, rfl⟩) | (go_at_call 154; refine Calls.mono (work_ov (by assumption) _ _ _ _) ?_; rintro e W ⟨rfl, w1, hx1, hb1, rfl⟩) | (go_at_call 153; refine Calls.mono (word_any (by assumption) H.out _ _ _ _ (by omega)) ?_; rintro e W ⟨rfl, w1, hx1, hb1, rfl⟩) | (go_at_call 152; refine Calls.mono (more_v1 (by assumption) H.out _ _ _ _ _ _ _ ?_ ?_ ?_) ?_; (· rfl); (· rfl); (· omega); rintro e W ⟨rfl, w1, hx1, hb1, rfl⟩) | (go_at_call 166; refine Calls.mono (mBlocks_any (by assumption) H.out _ _ _ _ _ hc0 hc1 (by assumption) (by assumption) (by omega)) ?_; rintro e W ⟨rfl, w1, hx1, hb1, rfl⟩) | (go_at_call 167; refine Calls.mono (mSpecials_any (by assumption) H.out _ _ _ _ _ hc0 hc1 (by omega)) ?_; rintro e W ⟨rfl, w1, hx1, hb1, rfl⟩) | (go_at_call 106; refine (mx_any _ _ hc0 hc1).mono ?_; rintro e W ⟨rfl, rfl⟩) | (go_at_call 157; refine (my_any _ _ hc0 hc1).mono ?_; rintro e W ⟨rfl, rfl⟩) | (go_at_call 149; refine (mz_any _ _ hc0 hc1).mono ?_; rintro e W ⟨rfl, rfl⟩) | (go_at_call 151; refine (mq_any _ _ hc0 hc1).mono ?_; rintro e W ⟨rfl, rfl⟩))
  rw [HL.out]
  go_ret
  exact ⟨ret_sl (by first | rfl | (simp only [List.length_append, List.length_cons, List.length_nil]; omega)), fin (by assumption) (by repeat (first | exact Ext.refl _ | assumption | refine Ext.trans ?_ (by assumption))) (by first | rfl | exact (app_nil _ _).symm | exact app_app _ _ _ _ | exact app_app3 _ _ _ _ _)⟩
set_option maxHeartbeats 1000000 in
theorem mSecond_14 {m : Mac} {w : World} (hb : Base m w) (hts : m.ts = 115) (c : Cp) (sl : Nat → Int) (b : Bd) (n : Nat) (k : Int) (hc0 : 0 ≤ k) (hc1 : k < 256) (hr : n ≤ 4) (hd0 : cx k = 1) (hd1 : cz k = 7) : mSecond_Said m w c sl b n k := by
  unfold mSecond_Said
  have H := Lib.hid hts
  clear hts
  obtain ⟨⟨hy0, hy1⟩, ⟨hz0, hz1⟩, ⟨hx0, hx3⟩, ⟨hq0, hq1⟩, ⟨hp0, hp1⟩⟩ := code_bd hc0 hc1
  obtain ⟨l, hm⟩ : ∃ l, mSecond k = l := ⟨_, rfl⟩
  have HL := Lib.hid hm
  simp [mSecond, *] at hm
  subst hm
  go_enter Tryz.func112, Tryz.ntmps112
  go_wp2_with (first | (go_at_call 159; refine Calls.mono (read_ov (by assumption) _ _ _ _ _) ?_; rintro e W ⟨rfl, w1, hx1, hb1, rfl⟩) | (go_at_call 160; refine Calls.mono (write_ov (by assumption) _ _ _ _ _) ?_; rintro e W ⟨rfl, w1, hx1, hb1, rfl⟩) | (go_at_call 155; refine Calls.mono (wait_ov (by assumption) _ _ _ _ _) ?_; rintro e W ⟨rfl, w1, hx1, hb1, rfl⟩) | (go_at_call 154; refine Calls.mono (work_ov (by assumption) _ _ _ _) ?_; rintro e W ⟨rfl, w1, hx1, hb1, rfl⟩) | (go_at_call 153; refine Calls.mono (word_any (by assumption) H.out _ _ _ _ (by omega)) ?_; rintro e W ⟨rfl, w1, hx1, hb1, rfl⟩) | (go_at_call 152; refine Calls.mono (more_v1 (by assumption) H.out _ _ _ _ _ _ _ ?_ ?_ ?_) ?_; (· rfl); (· rfl); (· omega); rintro e W ⟨rfl, w1, hx1, hb1, rfl⟩) | (go_at_call 166; refine Calls.mono (mBlocks_any (by assumption) H.out _ _ _ _ _ hc0 hc1 (by assumption) (by assumption) (by omega)) ?_; rintro e W ⟨rfl, w1, hx1, hb1, rfl⟩) | (go_at_call 167; refine Calls.mono (mSpecials_any (by assumption) H.out _ _ _ _ _ hc0 hc1 (by omega)) ?_; rintro e W ⟨rfl, w1, hx1, hb1, rfl⟩) | (go_at_call 106; refine (mx_any _ _ hc0 hc1).mono ?_; rintro e W ⟨rfl, rfl⟩) | (go_at_call 157; refine (my_any _ _ hc0 hc1).mono ?_; rintro e W ⟨rfl, rfl⟩) | (go_at_call 149; refine (mz_any _ _ hc0 hc1).mono ?_; rintro e W ⟨rfl, rfl⟩) | (go_at_call 151; refine (mq_any _ _ hc0 hc1).mono ?_; rintro e W ⟨rfl, rfl⟩))
  rw [HL.out]
  go_ret
  exact ⟨ret_sl (by first | rfl | (simp only [List.length_append, List.length_cons, List.length_nil]; omega)), fin (by assumption) (by repeat (first | exact Ext.refl _ | assumption | refine Ext.trans ?_ (by assumption))) (by first | rfl | exact (app_nil _ _).symm | exact app_app _ _ _ _ | exact app_app3 _ _ _ _ _)⟩
set_option maxHeartbeats 8000000 in
theorem mSecond_any {m : Mac} {w : World} (hb : Base m w) (hts : m.ts = 115) (c : Cp) (sl : Nat → Int) (b : Bd) (n : Nat) (k : Int) (hc0 : 0 ≤ k) (hc1 : k < 256) (hr : n ≤ 4) : Calls Tryz.prog 112 #[.slice (some ⟨m.s, 0, none⟩) n 16, .int .u8 k] (mk w m c sl b) fun e W => e = .returned (.slice (some ⟨m.s, 0, none⟩) (n + (mSecond k).length) 16) ∧ Lft w m c (app sl n (mSecond k)) b W := by
  obtain ⟨⟨hy0, hy1⟩, ⟨hz0, hz1⟩, ⟨hx0, hx3⟩, ⟨hq0, hq1⟩, ⟨hp0, hp1⟩⟩ := code_bd hc0 hc1
  rcases (by omega : cx k = 2 ∨ cx k = 0 ∨ cx k = 3 ∨ cx k = 1) with hd | hd | hd | hd
  · by_cases hd : 4 ≤ cy k
    · by_cases hd : cz k ≤ 3
      · exact mSecond_0 hb hts c sl b n k hc0 hc1 hr (by first | assumption | omega) (by first | assumption | omega) (by first | assumption | omega)
      · exact mSecond_2 hb hts c sl b n k hc0 hc1 hr (by first | assumption | omega) (by first | assumption | omega) (by first | assumption | omega)
    · exact mSecond_1 hb hts c sl b n k hc0 hc1 hr (by first | assumption | omega) (by first | assumption | omega)
  · exact mSecond_3 hb hts c sl b n k hc0 hc1 hr (by first | assumption | omega)
  · exact mSecond_4 hb hts c sl b n k hc0 hc1 hr (by first | assumption | omega)
  · rcases (by omega : cz k = 0 ∨ cz k = 1 ∨ cz k = 2 ∨ cz k = 3 ∨ cz k = 4 ∨ cz k = 5 ∨ cz k = 6 ∨ cz k = 7) with hd | hd | hd | hd | hd | hd | hd | hd
    · exact mSecond_5 hb hts c sl b n k hc0 hc1 hr (by first | assumption | omega) (by first | assumption | omega)
    · exact mSecond_6 hb hts c sl b n k hc0 hc1 hr (by first | assumption | omega) (by first | assumption | omega)
    · rcases (by omega : cq k = 0 ∨ cq k = 1) with hd | hd
      · exact mSecond_7 hb hts c sl b n k hc0 hc1 hr (by first | assumption | omega) (by first | assumption | omega) (by first | assumption | omega)
      · exact mSecond_8 hb hts c sl b n k hc0 hc1 hr (by first | assumption | omega) (by first | assumption | omega) (by first | assumption | omega)
    · rcases (by omega : cq k = 0 ∨ cq k = 1) with hd | hd
      · exact mSecond_9 hb hts c sl b n k hc0 hc1 hr (by first | assumption | omega) (by first | assumption | omega) (by first | assumption | omega)
      · exact mSecond_10 hb hts c sl b n k hc0 hc1 hr (by first | assumption | omega) (by first | assumption | omega) (by first | assumption | omega)
    · exact mSecond_11 hb hts c sl b n k hc0 hc1 hr (by first | assumption | omega) (by first | assumption | omega)
    · exact mSecond_12 hb hts c sl b n k hc0 hc1 hr (by first | assumption | omega) (by first | assumption | omega)
    · exact mSecond_13 hb hts c sl b n k hc0 hc1 hr (by first | assumption | omega) (by first | assumption | omega)
    · exact mSecond_14 hb hts c sl b n k hc0 hc1 hr (by first | assumption | omega) (by first | assumption | omega)

end Go.Proofs.YtneganpbamemmaaGreat
