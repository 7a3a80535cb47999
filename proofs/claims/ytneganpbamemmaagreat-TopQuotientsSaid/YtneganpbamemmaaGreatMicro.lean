/- Package micro: the steps of each code. -/
import Derived.Test.YtneganpbamemmaaGreatLeaf
import Derived.Test.YtneganpbamemmaaGreatPlainA
set_option linter.unusedVariables false
set_option linter.unusedSimpArgs false
set_option linter.unusedSectionVars false
namespace Go.Proofs.YtneganpbamemmaaGreat
open Go Go.RowKit Sq

theorem read_any (w : World) (p x : Int) : Calls Tryz.prog 159 #[.int .i64 p, .int .i64 x] w fun e w' => e = .returned (.agg #[.int .i64 1, .int .i64 p, .int .i64 x, .int .i64 3]) ∧ w.alloc (.cells #[.int .i64 1, .int .i64 p, .int .i64 x, .int .i64 3] 115) = w' := by
  go_enter Tryz.func159, Tryz.ntmps159
  go_wp2
  exact bodyPost_ret (v := .agg #[.int .i64 1, .int .i64 p, .int .i64 x, .int .i64 3]) (by simp [results, Tryz.results159, go_sem]) rfl ⟨rfl, rfl⟩
theorem write_any (w : World) (p x : Int) : Calls Tryz.prog 160 #[.int .i64 p, .int .i64 x] w fun e w' => e = .returned (.agg #[.int .i64 2, .int .i64 p, .int .i64 x, .int .i64 3]) ∧ w.alloc (.cells #[.int .i64 2, .int .i64 p, .int .i64 x, .int .i64 3] 115) = w' := by
  go_enter Tryz.func160, Tryz.ntmps160
  go_wp2
  exact bodyPost_ret (v := .agg #[.int .i64 2, .int .i64 p, .int .i64 x, .int .i64 3]) (by simp [results, Tryz.results160, go_sem]) rfl ⟨rfl, rfl⟩
theorem wait_any (w : World) (n p : Int) : Calls Tryz.prog 155 #[.int .i64 n, .int .i64 p] w fun e w' => e = .returned (.agg #[.int .i64 0, .int .i64 p, .int .i64 0, .int .i64 n]) ∧ w.alloc (.cells #[.int .i64 0, .int .i64 p, .int .i64 0, .int .i64 n] 115) = w' := by
  go_enter Tryz.func155, Tryz.ntmps155
  go_wp2
  exact bodyPost_ret (v := .agg #[.int .i64 0, .int .i64 p, .int .i64 0, .int .i64 n]) (by simp [results, Tryz.results155, go_sem]) rfl ⟨rfl, rfl⟩
theorem work_any (w : World) (x : Int) : Calls Tryz.prog 154 #[.int .i64 x] w fun e w' => e = .returned (.agg #[.int .i64 5, .int .i64 0, .int .i64 x, .int .i64 0]) ∧ w.alloc (.cells #[.int .i64 5, .int .i64 0, .int .i64 x, .int .i64 0] 115) = w' := by
  go_enter Tryz.func154, Tryz.ntmps154
  go_wp2
  exact bodyPost_ret (v := .agg #[.int .i64 5, .int .i64 0, .int .i64 x, .int .i64 0]) (by simp [results, Tryz.results154, go_sem]) rfl ⟨rfl, rfl⟩
theorem unless_any (w : World) (x : Int) : Calls Tryz.prog 161 #[.int .i64 x] w fun e w' => e = .returned (.agg #[.int .i64 6, .int .i64 0, .int .i64 x, .int .i64 0]) ∧ w.alloc (.cells #[.int .i64 6, .int .i64 0, .int .i64 x, .int .i64 0] 115) = w' := by
  go_enter Tryz.func161, Tryz.ntmps161
  go_wp2
  exact bodyPost_ret (v := .agg #[.int .i64 6, .int .i64 0, .int .i64 x, .int .i64 0]) (by simp [results, Tryz.results161, go_sem]) rfl ⟨rfl, rfl⟩

section
variable {m : Mac} {w : World} (hb : Base m w) (hts : m.ts = 115) (c : Cp) (sl : Nat → Int) (b : Bd)
include hb hts

theorem more_any (n k cap : Nat) (ad : Addr) (l : List Stp) (hl : l.length = k) (hr : n + k ≤ 16)
    (hc : ∀ (j : Nat) (u : Value), ((flat l).map (Value.int .i64))[j]? = some u → (mk w m c sl b).cell? (ad.add j) = some u) :
    Calls Tryz.prog 152 #[.slice (some ⟨m.s, 0, none⟩) n 16, .slice (some ad) k cap] (mk w m c sl b) fun e W => e = .returned (.slice (some ⟨m.s, 0, none⟩) (n + k) 16) ∧ mk w m c (app sl n l) b = W := by
  go_enter Tryz.func152, Tryz.ntmps152
  have H := Lib.hid hl
  have H2 := Lib.hid hc
  have H3 := Lib.hid hts
  clear hl hc hts
  go_wp2_with (at_builtin; refine wpList_append_steps hb rfl (.tmp 5) (.tmp 6) 76 rfl (by rw [H3.out]; exact Tryz.underlying76) (by rw [H3.out]; kernel_rfl) n k cap rfl ad rfl l H.out H2.out hr ?_)
  go_ret
  exact ⟨rfl, rfl⟩
end
theorem more_new {m : Mac} {w : World} (hts : m.ts = 115) (c : Cp) (sl : Nat → Int) (b : Bd) {W1 : World} (hL : Lft w m c sl b W1) (n k q : Nat) (l : List Stp) (arr : Array Value) (t : TypeId) (hq : q = W1.heap.size) (ha : arr = ((flat l).map (Value.int .i64)).toArray) (hl : l.length = k) (hr : n + k ≤ 16) :
    Calls Tryz.prog 152 #[.slice (some ⟨m.s, 0, none⟩) n 16, .slice (some ⟨q, 0, none⟩) k k] (W1.alloc (.cells arr t)) fun e W => e = .returned (.slice (some ⟨m.s, 0, none⟩) (n + k) 16) ∧ Lft w m c (app sl n l) b W := by
  subst hq
  obtain ⟨w1, h1, hb1, rfl⟩ := hL
  rw [mk_alloc hb1, mk_size]
  refine (more_any (hb1.alloc _) hts c sl b n k k _ l hl hr (steps_new hb1 l t arr ha)).mono ?_
  rintro e W ⟨rfl, rfl⟩
  exact ⟨rfl, Lft.mk' (hb1.alloc _) (h1.trans (Ext.alloc _ _))⟩

end Go.Proofs.YtneganpbamemmaaGreat
