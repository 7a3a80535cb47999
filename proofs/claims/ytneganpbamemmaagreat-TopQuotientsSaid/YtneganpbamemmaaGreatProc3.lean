/- The processor: places, cycles. -/
import Derived.Test.YtneganpbamemmaaGreatProc1
set_option linter.unusedVariables false
set_option linter.unusedSimpArgs false
set_option linter.unusedSectionVars false
namespace Go.Proofs.YtneganpbamemmaaGreat
open Go Go.RowKit Sq

/-- A block that was made stays readable through the machine. -/
theorem newc {m : Mac} {w w1 : World} {arr : Array Value} {t : TypeId} (hb : Base m w) (hx : Ext (w.alloc (.cells arr t)) w1) (c : Cp) (sl : Nat → Int) (b : Bd) (i : Nat) {v : Value} (hv : arr[i]? = some v) :
    (mk w1 m c sl b).cell? ⟨w.heap.size, i, none⟩ = some v := by
  have h1 := hb.ct; have h2 := hb.st; have h3 := hb.bt; have h4 := hb.le
  have e1 : (mk w1 m c sl b).heap[w.heap.size]? = (w.alloc (.cells arr t)).heap[w.heap.size]? := by
    rw [mk_heap_o (by omega) (by omega) (by omega)]
    exact hx.block _ (by simp)
  rw [World.cell?_of_block e1, World.cell?_alloc_new]
  simpa using hv
section
variable {m : Mac} {w : World} (hb : Base m w) (c : Cp) (sl : Nat → Int) (b : Bd)
include hb
theorem place_0 (ho : c.Ok) : Calls Tryz.prog 90 #[.pointer (some ⟨m.c, 0, none⟩), .int .i64 0] (mk w m c sl b) fun e W => e = .returned (.int .u16 (c.placeA 0)) ∧ Lft w m (c.placeC 0) sl b W := by
  have hg := ho.g
  have he : IntKind.u16.wrap (IntKind.u16.wrap (c.g.pc + 1) - 1) = c.g.pc := by
    have h : ∀ x : Int, IntKind.u16.wrap x = x % 65536 := fun _ => rfl
    rw [h, h]; have := hg.pc; omega
  have HE := Lib.hid he
  clear he
  have HA := Lib.hid (show c.placeA 0 = _ by simp [Cp.placeA]; rfl)
  have HC := Lib.hid (show c.placeC 0 = _ by simp [Cp.placeC]; rfl)
  go_enter Tryz.func90, Tryz.ntmps90
  go_wp2_with (go_at_call 82; (try simp only [mk_drew, mk_drewN]); refine Calls.mono (pair_any (by first | assumption | exact Base.drew (by assumption) | exact Base.drewN (by assumption) _ | exact Base.alloc (by assumption) _) _ _ _ (by assumption) _ _ (by first | assumption | omega) (by first | assumption | omega) (by first | assumption | omega) (by first | assumption | omega)) ?_; rintro e W ⟨rfl, n1, rfl⟩)
  go_ret
  rw [HA.out, HC.out]
  exact ⟨ret_int HE.out, Lft.mk' (by first | assumption | exact Base.drew (by assumption) | exact Base.drewN (by assumption) _ | exact Base.alloc (by assumption) _) (by repeat (first | exact Ext.refl _ | assumption | refine Ext.drew' ?_ | refine Ext.drewN' ?_ _ | refine Ext.alloc' ?_ _ | refine Ext.trans ?_ (by assumption)))⟩
theorem place_1 (ho : c.Ok) : Calls Tryz.prog 90 #[.pointer (some ⟨m.c, 0, none⟩), .int .i64 1] (mk w m c sl b) fun e W => e = .returned (.int .u16 (c.placeA 1)) ∧ Lft w m (c.placeC 1) sl b W := by
  have hg := ho.g
  have HA := Lib.hid (show c.placeA 1 = _ by simp [Cp.placeA]; rfl)
  have HC := Lib.hid (show c.placeC 1 = _ by simp [Cp.placeC]; rfl)
  go_enter Tryz.func90, Tryz.ntmps90
  go_wp2_with (go_at_call 82; (try simp only [mk_drew, mk_drewN]); refine Calls.mono (pair_any (by first | assumption | exact Base.drew (by assumption) | exact Base.drewN (by assumption) _ | exact Base.alloc (by assumption) _) _ _ _ (by assumption) _ _ (by first | assumption | omega) (by first | assumption | omega) (by first | assumption | omega) (by first | assumption | omega)) ?_; rintro e W ⟨rfl, n1, rfl⟩)
  go_ret
  rw [HA.out, HC.out]
  exact ⟨rfl, Lft.mk' (by first | assumption | exact Base.drew (by assumption) | exact Base.drewN (by assumption) _ | exact Base.alloc (by assumption) _) (by repeat (first | exact Ext.refl _ | assumption | refine Ext.drew' ?_ | refine Ext.drewN' ?_ _ | refine Ext.alloc' ?_ _ | refine Ext.trans ?_ (by assumption)))⟩
theorem place_2 (ho : c.Ok) : Calls Tryz.prog 90 #[.pointer (some ⟨m.c, 0, none⟩), .int .i64 2] (mk w m c sl b) fun e W => e = .returned (.int .u16 (c.placeA 2)) ∧ Lft w m (c.placeC 2) sl b W := by
  have hg := ho.g
  have HA := Lib.hid (show c.placeA 2 = _ by simp [Cp.placeA]; rfl)
  have HC := Lib.hid (show c.placeC 2 = _ by simp [Cp.placeC]; rfl)
  go_enter Tryz.func90, Tryz.ntmps90
  go_wp2_with (go_at_call 82; (try simp only [mk_drew, mk_drewN]); refine Calls.mono (pair_any (by first | assumption | exact Base.drew (by assumption) | exact Base.drewN (by assumption) _ | exact Base.alloc (by assumption) _) _ _ _ (by assumption) _ _ (by first | assumption | omega) (by first | assumption | omega) (by first | assumption | omega) (by first | assumption | omega)) ?_; rintro e W ⟨rfl, n1, rfl⟩)
  go_ret
  rw [HA.out, HC.out]
  exact ⟨rfl, Lft.mk' (by first | assumption | exact Base.drew (by assumption) | exact Base.drewN (by assumption) _ | exact Base.alloc (by assumption) _) (by repeat (first | exact Ext.refl _ | assumption | refine Ext.drew' ?_ | refine Ext.drewN' ?_ _ | refine Ext.alloc' ?_ _ | refine Ext.trans ?_ (by assumption)))⟩
theorem place_3 (ho : c.Ok) : Calls Tryz.prog 90 #[.pointer (some ⟨m.c, 0, none⟩), .int .i64 3] (mk w m c sl b) fun e W => e = .returned (.int .u16 (c.placeA 3)) ∧ Lft w m (c.placeC 3) sl b W := by
  have hg := ho.g
  have HA := Lib.hid (show c.placeA 3 = _ by simp [Cp.placeA]; rfl)
  have HC := Lib.hid (show c.placeC 3 = _ by simp [Cp.placeC]; rfl)
  go_enter Tryz.func90, Tryz.ntmps90
  go_wp2_with (go_at_call 82; (try simp only [mk_drew, mk_drewN]); refine Calls.mono (pair_any (by first | assumption | exact Base.drew (by assumption) | exact Base.drewN (by assumption) _ | exact Base.alloc (by assumption) _) _ _ _ (by assumption) _ _ (by first | assumption | omega) (by first | assumption | omega) (by first | assumption | omega) (by first | assumption | omega)) ?_; rintro e W ⟨rfl, n1, rfl⟩)
  go_ret
  rw [HA.out, HC.out]
  exact ⟨rfl, Lft.mk' (by first | assumption | exact Base.drew (by assumption) | exact Base.drewN (by assumption) _ | exact Base.alloc (by assumption) _) (by repeat (first | exact Ext.refl _ | assumption | refine Ext.drew' ?_ | refine Ext.drewN' ?_ _ | refine Ext.alloc' ?_ _ | refine Ext.trans ?_ (by assumption)))⟩
theorem place_4 (ho : c.Ok) : Calls Tryz.prog 90 #[.pointer (some ⟨m.c, 0, none⟩), .int .i64 4] (mk w m c sl b) fun e W => e = .returned (.int .u16 (c.placeA 4)) ∧ Lft w m (c.placeC 4) sl b W := by
  have hg := ho.g
  have he : IntKind.u16.wrap (IntKind.u16.wrap (c.g.sp + 1) - 1) = c.g.sp := by
    have h : ∀ x : Int, IntKind.u16.wrap x = x % 65536 := fun _ => rfl
    rw [h, h]; have := hg.sp; omega
  have HE := Lib.hid he
  clear he
  have HA := Lib.hid (show c.placeA 4 = _ by simp [Cp.placeA]; rfl)
  have HC := Lib.hid (show c.placeC 4 = _ by simp [Cp.placeC]; rfl)
  go_enter Tryz.func90, Tryz.ntmps90
  go_wp2_with (go_at_call 82; (try simp only [mk_drew, mk_drewN]); refine Calls.mono (pair_any (by first | assumption | exact Base.drew (by assumption) | exact Base.drewN (by assumption) _ | exact Base.alloc (by assumption) _) _ _ _ (by assumption) _ _ (by first | assumption | omega) (by first | assumption | omega) (by first | assumption | omega) (by first | assumption | omega)) ?_; rintro e W ⟨rfl, n1, rfl⟩)
  go_ret
  rw [HA.out, HC.out]
  exact ⟨ret_int HE.out, Lft.mk' (by first | assumption | exact Base.drew (by assumption) | exact Base.drewN (by assumption) _ | exact Base.alloc (by assumption) _) (by repeat (first | exact Ext.refl _ | assumption | refine Ext.drew' ?_ | refine Ext.drewN' ?_ _ | refine Ext.alloc' ?_ _ | refine Ext.trans ?_ (by assumption)))⟩
theorem place_5 (ho : c.Ok) : Calls Tryz.prog 90 #[.pointer (some ⟨m.c, 0, none⟩), .int .i64 5] (mk w m c sl b) fun e W => e = .returned (.int .u16 (c.placeA 5)) ∧ Lft w m (c.placeC 5) sl b W := by
  have hg := ho.g
  have HA := Lib.hid (show c.placeA 5 = _ by simp [Cp.placeA]; rfl)
  have HC := Lib.hid (show c.placeC 5 = _ by simp [Cp.placeC]; rfl)
  go_enter Tryz.func90, Tryz.ntmps90
  go_wp2_with (go_at_call 82; (try simp only [mk_drew, mk_drewN]); refine Calls.mono (pair_any (by first | assumption | exact Base.drew (by assumption) | exact Base.drewN (by assumption) _ | exact Base.alloc (by assumption) _) _ _ _ (by assumption) _ _ (by first | assumption | omega) (by first | assumption | omega) (by first | assumption | omega) (by first | assumption | omega)) ?_; rintro e W ⟨rfl, n1, rfl⟩)
  go_ret
  rw [HA.out, HC.out]
  exact ⟨rfl, Lft.mk' (by first | assumption | exact Base.drew (by assumption) | exact Base.drewN (by assumption) _ | exact Base.alloc (by assumption) _) (by repeat (first | exact Ext.refl _ | assumption | refine Ext.drew' ?_ | refine Ext.drewN' ?_ _ | refine Ext.alloc' ?_ _ | refine Ext.trans ?_ (by assumption)))⟩
theorem place_6 (ho : c.Ok) : Calls Tryz.prog 90 #[.pointer (some ⟨m.c, 0, none⟩), .int .i64 6] (mk w m c sl b) fun e W => e = .returned (.int .u16 (c.placeA 6)) ∧ Lft w m (c.placeC 6) sl b W := by
  have hg := ho.g
  have HA := Lib.hid (show c.placeA 6 = _ by simp [Cp.placeA]; rfl)
  have HC := Lib.hid (show c.placeC 6 = _ by simp [Cp.placeC]; rfl)
  go_enter Tryz.func90, Tryz.ntmps90
  go_wp2_with (go_at_call 82; (try simp only [mk_drew, mk_drewN]); refine Calls.mono (pair_any (by first | assumption | exact Base.drew (by assumption) | exact Base.drewN (by assumption) _ | exact Base.alloc (by assumption) _) _ _ _ (by assumption) _ _ (by first | assumption | omega) (by first | assumption | omega) (by first | assumption | omega) (by first | assumption | omega)) ?_; rintro e W ⟨rfl, n1, rfl⟩)
  go_ret
  rw [HA.out, HC.out]
  exact ⟨rfl, Lft.mk' (by first | assumption | exact Base.drew (by assumption) | exact Base.drewN (by assumption) _ | exact Base.alloc (by assumption) _) (by repeat (first | exact Ext.refl _ | assumption | refine Ext.drew' ?_ | refine Ext.drewN' ?_ _ | refine Ext.alloc' ?_ _ | refine Ext.trans ?_ (by assumption)))⟩
theorem place_7 (ho : c.Ok) : Calls Tryz.prog 90 #[.pointer (some ⟨m.c, 0, none⟩), .int .i64 7] (mk w m c sl b) fun e W => e = .returned (.int .u16 (c.placeA 7)) ∧ Lft w m (c.placeC 7) sl b W := by
  have hg := ho.g
  have HA := Lib.hid (show c.placeA 7 = _ by simp [Cp.placeA]; rfl)
  have HC := Lib.hid (show c.placeC 7 = _ by simp [Cp.placeC]; rfl)
  go_enter Tryz.func90, Tryz.ntmps90
  go_wp2_with (go_at_call 82; (try simp only [mk_drew, mk_drewN]); refine Calls.mono (pair_any (by first | assumption | exact Base.drew (by assumption) | exact Base.drewN (by assumption) _ | exact Base.alloc (by assumption) _) _ _ _ (by assumption) _ _ (by first | assumption | omega) (by first | assumption | omega) (by first | assumption | omega) (by first | assumption | omega)) ?_; rintro e W ⟨rfl, n1, rfl⟩)
  go_ret
  rw [HA.out, HC.out]
  exact ⟨rfl, Lft.mk' (by first | assumption | exact Base.drew (by assumption) | exact Base.drewN (by assumption) _ | exact Base.alloc (by assumption) _) (by repeat (first | exact Ext.refl _ | assumption | refine Ext.drew' ?_ | refine Ext.drewN' ?_ _ | refine Ext.alloc' ?_ _ | refine Ext.trans ?_ (by assumption)))⟩
theorem place_8 (ho : c.Ok) : Calls Tryz.prog 90 #[.pointer (some ⟨m.c, 0, none⟩), .int .i64 8] (mk w m c sl b) fun e W => e = .returned (.int .u16 (c.placeA 8)) ∧ Lft w m (c.placeC 8) sl b W := by
  have hg := ho.g
  have HA := Lib.hid (show c.placeA 8 = _ by simp [Cp.placeA]; rfl)
  have HC := Lib.hid (show c.placeC 8 = _ by simp [Cp.placeC]; rfl)
  go_enter Tryz.func90, Tryz.ntmps90
  go_wp2_with (go_at_call 139; (try simp only [mk_drew, mk_drewN]); refine Calls.mono (ir_any (by first | assumption | exact Base.drew (by assumption) | exact Base.drewN (by assumption) _ | exact Base.alloc (by assumption) _) _ _ _ (by assumption)) ?_; rintro e W ⟨rfl, n1, rfl⟩)
  go_ret
  rw [HA.out, HC.out]
  exact ⟨rfl, Lft.mk' (by first | assumption | exact Base.drew (by assumption) | exact Base.drewN (by assumption) _ | exact Base.alloc (by assumption) _) (by repeat (first | exact Ext.refl _ | assumption | refine Ext.drew' ?_ | refine Ext.drewN' ?_ _ | refine Ext.alloc' ?_ _ | refine Ext.trans ?_ (by assumption)))⟩
theorem place_9 (ho : c.Ok) : Calls Tryz.prog 90 #[.pointer (some ⟨m.c, 0, none⟩), .int .i64 9] (mk w m c sl b) fun e W => e = .returned (.int .u16 (c.placeA 9)) ∧ Lft w m (c.placeC 9) sl b W := by
  have hg := ho.g
  have HA := Lib.hid (show c.placeA 9 = _ by simp [Cp.placeA]; rfl)
  have HC := Lib.hid (show c.placeC 9 = _ by simp [Cp.placeC]; rfl)
  go_enter Tryz.func90, Tryz.ntmps90
  go_wp2_with (go_at_call 82; (try simp only [mk_drew, mk_drewN]); refine Calls.mono (pair_any (by first | assumption | exact Base.drew (by assumption) | exact Base.drewN (by assumption) _ | exact Base.alloc (by assumption) _) _ _ _ (by assumption) _ _ (by first | assumption | omega) (by first | assumption | omega) (by first | assumption | omega) (by first | assumption | omega)) ?_; rintro e W ⟨rfl, n1, rfl⟩)
  go_ret
  rw [HA.out, HC.out]
  exact ⟨rfl, Lft.mk' (by first | assumption | exact Base.drew (by assumption) | exact Base.drewN (by assumption) _ | exact Base.alloc (by assumption) _) (by repeat (first | exact Ext.refl _ | assumption | refine Ext.drew' ?_ | refine Ext.drewN' ?_ _ | refine Ext.alloc' ?_ _ | refine Ext.trans ?_ (by assumption)))⟩
theorem cplace_any (ho : c.Ok) (p : Int) (h0 : 0 ≤ p) (h1 : p ≤ 9) : Calls Tryz.prog 90 #[.pointer (some ⟨m.c, 0, none⟩), .int .i64 p] (mk w m c sl b) fun e W => e = .returned (.int .u16 (c.placeA p)) ∧ Lft w m (c.placeC p) sl b W := by
  rcases (by omega : p = 0 ∨ p = 1 ∨ p = 2 ∨ p = 3 ∨ p = 4 ∨ p = 5 ∨ p = 6 ∨ p = 7 ∨ p = 8 ∨ p = 9) with rfl | rfl | rfl | rfl | rfl | rfl | rfl | rfl | rfl | rfl
  · exact place_0 hb c sl b ho
  · exact place_1 hb c sl b ho
  · exact place_2 hb c sl b ho
  · exact place_3 hb c sl b ho
  · exact place_4 hb c sl b ho
  · exact place_5 hb c sl b ho
  · exact place_6 hb c sl b ho
  · exact place_7 hb c sl b ho
  · exact place_8 hb c sl b ho
  · exact place_9 hb c sl b ho
set_option maxHeartbeats 1000000 in
theorem cycle_0 (ho : c.Ok) (p x n : Int) (h0 : 0 ≤ p) (h1 : p ≤ 9) (x0 : 0 ≤ x) (x1 : x ≤ 13) (hk : ({ c.placeC p with what := x, port := false } : Cp).Ok) : Calls Tryz.prog 76 #[.pointer (some ⟨m.c, 0, none⟩), .agg #[.int .i64 0, .int .i64 p, .int .i64 x, .int .i64 n]] (mk w m c sl b) fun e W => e = .returned (.tuple #[]) ∧ Lft w m (c.cycle ⟨0, p, x, n⟩) sl b W := by
  have H := Lib.hid (fun (w' : World) (hb' : Base m w') => cplace_any hb' c sl b ho p h0 h1)
  have HP := Lib.hid (show c.cycle ⟨0, p, x, n⟩ = _ by simp [Cp.cycle]; rfl)
  go_enter Tryz.func76, Tryz.ntmps76
  go_wp2_with (go_at_call 90; (try simp only [mk_drew, mk_drewN, mk_alloc hb]); refine Calls.mono (H.out _ (by first | assumption | exact Base.drew (by assumption) | exact Base.drewN (by assumption) _ | exact Base.alloc (by assumption) _)) ?_; rintro e W ⟨rfl, w1, hx1, hb1, rfl⟩; have n0 := fun c' => newc hb hx1 c' sl b 0 (v := .int .i64 0) rfl; have n1 := fun c' => newc hb hx1 c' sl b 1 (v := .int .i64 p) rfl; have n2 := fun c' => newc hb hx1 c' sl b 2 (v := .int .i64 x) rfl; have n3 := fun c' => newc hb hx1 c' sl b 3 (v := .int .i64 n) rfl; have d3 := fun j c' => newc hb (Ext.drewN' hx1 j) c' sl b 3 (v := .int .i64 n) rfl)
  go_region
  all_goals
    go_wp2_with (first | (go_at_call 59; (try simp only [mk_drew, mk_drewN]); refine Calls.mono (start_any (by first | assumption | exact Base.drew (by assumption) | exact Base.drewN (by assumption) _ | exact Base.alloc (by assumption) _) _ _ _ _ _ _) ?_; rintro e W ⟨rfl, rfl⟩) | (go_at_call 91; (try simp only [mk_drew, mk_drewN]); refine Calls.mono (byteOf_any (by first | assumption | exact Base.drew (by assumption) | exact Base.drewN (by assumption) _ | exact Base.alloc (by assumption) _) _ _ _ hk _ ⟨x0, by omega⟩) ?_; rintro e W ⟨rfl, n1, rfl⟩))
    (first | go_end0 | refine bodyPost_ret (results_none rfl _ _ _) rfl ?_)
    refine ⟨rfl, ?_⟩
    rw [HP.out]
    exact Lft.mk' (by first | assumption | exact Base.drew (by assumption) | exact Base.drewN (by assumption) _ | exact Base.alloc (by assumption) _) (by repeat (first | exact Ext.refl _ | assumption | refine Ext.drew' ?_ | refine Ext.drewN' ?_ _ | refine Ext.alloc' ?_ _ | refine Ext.trans ?_ (by assumption)))
set_option maxHeartbeats 1000000 in
theorem cycle_1 (ho : c.Ok) (p x n : Int) (h0 : 0 ≤ p) (h1 : p ≤ 9) (x0 : 0 ≤ x) (x1 : x ≤ 13) (hk : ({ c.placeC p with what := x, port := false } : Cp).Ok) : Calls Tryz.prog 76 #[.pointer (some ⟨m.c, 0, none⟩), .agg #[.int .i64 1, .int .i64 p, .int .i64 x, .int .i64 n]] (mk w m c sl b) fun e W => e = .returned (.tuple #[]) ∧ Lft w m (c.cycle ⟨1, p, x, n⟩) sl b W := by
  have H := Lib.hid (fun (w' : World) (hb' : Base m w') => cplace_any hb' c sl b ho p h0 h1)
  have HP := Lib.hid (show c.cycle ⟨1, p, x, n⟩ = _ by simp [Cp.cycle]; rfl)
  go_enter Tryz.func76, Tryz.ntmps76
  go_wp2_with (go_at_call 90; (try simp only [mk_drew, mk_drewN, mk_alloc hb]); refine Calls.mono (H.out _ (by first | assumption | exact Base.drew (by assumption) | exact Base.drewN (by assumption) _ | exact Base.alloc (by assumption) _)) ?_; rintro e W ⟨rfl, w1, hx1, hb1, rfl⟩; have n0 := fun c' => newc hb hx1 c' sl b 0 (v := .int .i64 1) rfl; have n1 := fun c' => newc hb hx1 c' sl b 1 (v := .int .i64 p) rfl; have n2 := fun c' => newc hb hx1 c' sl b 2 (v := .int .i64 x) rfl; have n3 := fun c' => newc hb hx1 c' sl b 3 (v := .int .i64 n) rfl; have d3 := fun j c' => newc hb (Ext.drewN' hx1 j) c' sl b 3 (v := .int .i64 n) rfl)
  go_region
  all_goals
    go_wp2_with (first | (go_at_call 59; (try simp only [mk_drew, mk_drewN]); refine Calls.mono (start_any (by first | assumption | exact Base.drew (by assumption) | exact Base.drewN (by assumption) _ | exact Base.alloc (by assumption) _) _ _ _ _ _ _) ?_; rintro e W ⟨rfl, rfl⟩) | (go_at_call 91; (try simp only [mk_drew, mk_drewN]); refine Calls.mono (byteOf_any (by first | assumption | exact Base.drew (by assumption) | exact Base.drewN (by assumption) _ | exact Base.alloc (by assumption) _) _ _ _ hk _ ⟨x0, by omega⟩) ?_; rintro e W ⟨rfl, n1, rfl⟩))
    (first | go_end0 | refine bodyPost_ret (results_none rfl _ _ _) rfl ?_)
    refine ⟨rfl, ?_⟩
    rw [HP.out]
    exact Lft.mk' (by first | assumption | exact Base.drew (by assumption) | exact Base.drewN (by assumption) _ | exact Base.alloc (by assumption) _) (by repeat (first | exact Ext.refl _ | assumption | refine Ext.drew' ?_ | refine Ext.drewN' ?_ _ | refine Ext.alloc' ?_ _ | refine Ext.trans ?_ (by assumption)))
set_option maxHeartbeats 1000000 in
theorem cycle_2 (ho : c.Ok) (p x n : Int) (h0 : 0 ≤ p) (h1 : p ≤ 9) (x0 : 0 ≤ x) (x1 : x ≤ 13) (hk : ({ c.placeC p with what := x, port := false } : Cp).Ok) : Calls Tryz.prog 76 #[.pointer (some ⟨m.c, 0, none⟩), .agg #[.int .i64 2, .int .i64 p, .int .i64 x, .int .i64 n]] (mk w m c sl b) fun e W => e = .returned (.tuple #[]) ∧ Lft w m (c.cycle ⟨2, p, x, n⟩) sl b W := by
  have H := Lib.hid (fun (w' : World) (hb' : Base m w') => cplace_any hb' c sl b ho p h0 h1)
  have HP := Lib.hid (show c.cycle ⟨2, p, x, n⟩ = _ by simp [Cp.cycle]; rfl)
  go_enter Tryz.func76, Tryz.ntmps76
  go_wp2_with (go_at_call 90; (try simp only [mk_drew, mk_drewN, mk_alloc hb]); refine Calls.mono (H.out _ (by first | assumption | exact Base.drew (by assumption) | exact Base.drewN (by assumption) _ | exact Base.alloc (by assumption) _)) ?_; rintro e W ⟨rfl, w1, hx1, hb1, rfl⟩; have n0 := fun c' => newc hb hx1 c' sl b 0 (v := .int .i64 2) rfl; have n1 := fun c' => newc hb hx1 c' sl b 1 (v := .int .i64 p) rfl; have n2 := fun c' => newc hb hx1 c' sl b 2 (v := .int .i64 x) rfl; have n3 := fun c' => newc hb hx1 c' sl b 3 (v := .int .i64 n) rfl; have d3 := fun j c' => newc hb (Ext.drewN' hx1 j) c' sl b 3 (v := .int .i64 n) rfl)
  go_region
  all_goals
    go_wp2_with (first | (go_at_call 59; (try simp only [mk_drew, mk_drewN]); refine Calls.mono (start_any (by first | assumption | exact Base.drew (by assumption) | exact Base.drewN (by assumption) _ | exact Base.alloc (by assumption) _) _ _ _ _ _ _) ?_; rintro e W ⟨rfl, rfl⟩) | (go_at_call 91; (try simp only [mk_drew, mk_drewN]); refine Calls.mono (byteOf_any (by first | assumption | exact Base.drew (by assumption) | exact Base.drewN (by assumption) _ | exact Base.alloc (by assumption) _) _ _ _ hk _ ⟨x0, by omega⟩) ?_; rintro e W ⟨rfl, n1, rfl⟩))
    (first | go_end0 | refine bodyPost_ret (results_none rfl _ _ _) rfl ?_)
    refine ⟨rfl, ?_⟩
    rw [HP.out]
    exact Lft.mk' (by first | assumption | exact Base.drew (by assumption) | exact Base.drewN (by assumption) _ | exact Base.alloc (by assumption) _) (by repeat (first | exact Ext.refl _ | assumption | refine Ext.drew' ?_ | refine Ext.drewN' ?_ _ | refine Ext.alloc' ?_ _ | refine Ext.trans ?_ (by assumption)))
end
end Go.Proofs.YtneganpbamemmaaGreat
