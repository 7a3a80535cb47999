/- The end of a cycle, on the bus. -/
import Derived.Test.YtneganpbamemmaaGreatProc2
import Derived.Test.YtneganpbamemmaaGreatProc4
import Derived.Test.YtneganpbamemmaaGreatBoard
set_option linter.unusedVariables false
set_option linter.unusedSimpArgs false
set_option linter.unusedSectionVars false
namespace Go.Proofs.YtneganpbamemmaaGreat
open Go Go.RowKit Sq
theorem ahead_read (a : Addr) (w : World) : (nilAhead 426 61 (.pointer (some a)) "Read").run Tryz.prog w = .ok (some false) w := by kernel_rfl
theorem ahead_write (a : Addr) (w : World) : (nilAhead 426 61 (.pointer (some a)) "Write").run Tryz.prog w = .ok (some false) w := by kernel_rfl
theorem ahead_hold (a : Addr) (w : World) : (nilAhead 426 61 (.pointer (some a)) "Hold").run Tryz.prog w = .ok (some false) w := by kernel_rfl
theorem ahead_int (a : Addr) (w : World) : (nilAhead 426 61 (.pointer (some a)) "Int").run Tryz.prog w = .ok (some false) w := by kernel_rfl
theorem meth_read (a : Addr) (w : World) : (method 426 61 (.pointer (some a)) "Read").run Tryz.prog w = .ok (35, .pointer (some a)) w := by kernel_rfl
theorem meth_write (a : Addr) (w : World) : (method 426 61 (.pointer (some a)) "Write").run Tryz.prog w = .ok (36, .pointer (some a)) w := by kernel_rfl
theorem meth_hold (a : Addr) (w : World) : (method 426 61 (.pointer (some a)) "Hold").run Tryz.prog w = .ok (281, .pointer (some a)) w := by kernel_rfl
theorem meth_int (a : Addr) (w : World) : (method 426 61 (.pointer (some a)) "Int").run Tryz.prog w = .ok (283, .pointer (some a)) w := by kernel_rfl
attribute [local go_sem] ahead_read ahead_write ahead_hold ahead_int meth_read meth_write meth_hold meth_int
theorem latch_addr (c : Cp) (v : Int) : (c.latch v).addr = c.addr := by unfold Cp.latch; split <;> rfl
theorem latch_kind (c : Cp) (v : Int) : (c.latch v).kind = c.kind := by unfold Cp.latch; split <;> rfl
theorem fetched_addr (c : Cp) (v : Int) : (c.fetched v).addr = c.addr := by
  unfold Cp.fetched
  split
  · rfl
  split
  · rfl
  split
  · rfl
  split <;> rfl
theorem fetched_kind (c : Cp) (v : Int) : (c.fetched v).kind = c.kind := by
  unfold Cp.fetched
  split
  · rfl
  split
  · rfl
  split
  · rfl
  split <;> rfl
section
variable {m : Mac} {w : World} (hb : Base m w) (c : Cp) (sl : Nat → Int) (b : Bd)
include hb
set_option maxRecDepth 8000 in
set_option maxHeartbeats 1000000 in
theorem finish_0 (hts : m.ts = 115) (a : Nat) (ha2 : a < 65536) (hm : Mid ({ c with kind := 0, addr := (a : Int) } : Cp) sl) (hv : 0 ≤ b.mem a ∧ b.mem a < 256) (hk : ({ c with kind := 0, addr := (a : Int) } : Cp).g.halt = false → (0 < ({ c with kind := 0, addr := (a : Int) } : Cp).second ∨ (b.mem a ≠ 237 ∧ b.mem a ≠ 203)) → okCode ({ c with kind := 0, addr := (a : Int) } : Cp).second (b.mem a) = true) (hn : ({ c with kind := 0, addr := (a : Int) } : Cp).g.halt = false → b.mem a ≠ 221 ∧ b.mem a ≠ 253) : Calls Tryz.prog 51 #[.pointer (some ⟨m.c, 0, none⟩), .iface 61 (.pointer (some ⟨m.b, 0, none⟩))] (mk w m { c with kind := 0, addr := (a : Int) } sl b) fun e W => e = .returned (.tuple #[]) ∧ Lft w m ((({ c with kind := 0, addr := (a : Int) } : Cp).fetched (b.mem a)).next (({ c with kind := 0, addr := (a : Int) } : Cp).fetchedS sl (b.mem a))) (({ c with kind := 0, addr := (a : Int) } : Cp).fetchedS sl (b.mem a)) b W := by
  have HR := Lib.hid (fun (w' : World) (hb' : Base m w') => bread_any hb' ({ c with kind := 0, addr := (a : Int) } : Cp) sl b a ha2)
  have HL := Lib.hid (fun (w' : World) (hb' : Base m w') => fetched_any hb' ({ c with kind := 0, addr := (a : Int) } : Cp) sl b hm.ok hts (b.mem a) hv.1 hv.2 hm.second hm.pre hn)
  have HN := Lib.hid (fun (w' : World) (hb' : Base m w') => next_any hb' (({ c with kind := 0, addr := (a : Int) } : Cp).fetched (b.mem a)) (({ c with kind := 0, addr := (a : Int) } : Cp).fetchedS sl (b.mem a)) b hts (hm.fetched hv hk))
  have hK : (({ c with kind := 0, addr := (a : Int) } : Cp).fetched (b.mem a)).kind = 0 := fetched_kind _ _
  clear hk hn
  clear hts hm
  go_enter Tryz.func51, Tryz.ntmps51
  go_wp2
  go_region_held3 (fun w' => w'.cell? ⟨m.c, 45, none⟩ = some (.int .u16 (a : Int))) (first | exact cell_45 (by first | assumption | exact Base.drew (by assumption)) | exact (by rw [World.cell?_drew]; exact cell_45 (by first | assumption | exact Base.drew (by assumption))) | (refine (cell_45 (by assumption)).trans ?_; rw [fetched_addr])) (first | (go_at_call 35; (try simp only [mk_drew, mk_drewN]); refine Calls.mono (HR.out _ (by first | assumption | exact Base.drew (by assumption))) ?_; rintro e W ⟨rfl, rfl⟩) | (go_at_call 60; (try simp only [mk_drew, mk_drewN]); refine Calls.mono (HL.out _ (by first | assumption | exact Base.drew (by assumption))) ?_; rintro e W ⟨rfl, w1, hx1, hb1, rfl⟩))
  all_goals go_wp2_with (go_at_call 62; (try simp only [mk_drew, mk_drewN]); refine Calls.mono (HN.out _ (by first | assumption | exact Base.drew (by assumption))) ?_; rintro e W ⟨rfl, w2, hx2, hb2, rfl⟩)
  all_goals
    (first | go_end0 | refine bodyPost_ret (results_none rfl _ _ _) rfl ?_)
    exact ⟨rfl, Lft.mk' (by assumption) (by repeat (first | exact Ext.refl _ | assumption | refine Ext.drew' ?_ | refine Ext.trans ?_ (by assumption)))⟩
set_option maxRecDepth 8000 in
set_option maxHeartbeats 1000000 in
theorem finish_1 (hts : m.ts = 115) (a : Nat) (ha2 : a < 65536) (hm : Mid ({ c with kind := 1, addr := (a : Int) } : Cp) sl) (hv : 0 ≤ b.mem a ∧ b.mem a < 256) : Calls Tryz.prog 51 #[.pointer (some ⟨m.c, 0, none⟩), .iface 61 (.pointer (some ⟨m.b, 0, none⟩))] (mk w m { c with kind := 1, addr := (a : Int) } sl b) fun e W => e = .returned (.tuple #[]) ∧ Lft w m ((({ c with kind := 1, addr := (a : Int) } : Cp).latch (b.mem a)).next sl) sl b W := by
  have HR := Lib.hid (fun (w' : World) (hb' : Base m w') => bread_any hb' ({ c with kind := 1, addr := (a : Int) } : Cp) sl b a ha2)
  have HL := Lib.hid (fun (w' : World) (hb' : Base m w') => latch_any hb' ({ c with kind := 1, addr := (a : Int) } : Cp) sl b (b.mem a) hm.what.1)
  have HN := Lib.hid (fun (w' : World) (hb' : Base m w') => next_any hb' (({ c with kind := 1, addr := (a : Int) } : Cp).latch (b.mem a)) sl b hts (hm.latch hv))
  have hK : (({ c with kind := 1, addr := (a : Int) } : Cp).latch (b.mem a)).kind = 1 := latch_kind _ _
  clear hts hm
  go_enter Tryz.func51, Tryz.ntmps51
  go_wp2
  go_region_held3 (fun w' => w'.cell? ⟨m.c, 45, none⟩ = some (.int .u16 (a : Int))) (first | exact cell_45 (by first | assumption | exact Base.drew (by assumption)) | exact (by rw [World.cell?_drew]; exact cell_45 (by first | assumption | exact Base.drew (by assumption))) | (refine (cell_45 (by assumption)).trans ?_; rw [latch_addr])) (first | (go_at_call 35; (try simp only [mk_drew, mk_drewN]); refine Calls.mono (HR.out _ (by first | assumption | exact Base.drew (by assumption))) ?_; rintro e W ⟨rfl, rfl⟩) | (go_at_call 61; (try simp only [mk_drew, mk_drewN]); refine Calls.mono (HL.out _ (by first | assumption | exact Base.drew (by assumption))) ?_; rintro e W ⟨rfl, w1, hx1, hb1, rfl⟩))
  all_goals go_wp2_with (go_at_call 62; (try simp only [mk_drew, mk_drewN]); refine Calls.mono (HN.out _ (by first | assumption | exact Base.drew (by assumption))) ?_; rintro e W ⟨rfl, w2, hx2, hb2, rfl⟩)
  all_goals
    (first | go_end0 | refine bodyPost_ret (results_none rfl _ _ _) rfl ?_)
    exact ⟨rfl, Lft.mk' (by assumption) (by repeat (first | exact Ext.refl _ | assumption | refine Ext.drew' ?_ | refine Ext.trans ?_ (by assumption)))⟩
set_option maxRecDepth 8000 in
set_option maxHeartbeats 1000000 in
theorem finish_2 (hts : m.ts = 115) (a : Nat) (ha2 : a < 65536) (hm : Mid ({ c with kind := 2, addr := (a : Int) } : Cp) sl) : Calls Tryz.prog 51 #[.pointer (some ⟨m.c, 0, none⟩), .iface 61 (.pointer (some ⟨m.b, 0, none⟩))] (mk w m { c with kind := 2, addr := (a : Int) } sl b) fun e W => e = .returned (.tuple #[]) ∧ Lft w m (({ c with kind := 2, addr := (a : Int) } : Cp).next sl) sl (b.write a c.out) W := by
  have HR := Lib.hid (fun (w' : World) (hb' : Base m w') => bwrite_any hb' ({ c with kind := 2, addr := (a : Int) } : Cp) sl b a ha2 c.out)
  have HN := Lib.hid (fun (w' : World) (hb' : Base m w') => next_any hb' ({ c with kind := 2, addr := (a : Int) } : Cp) sl (b.write a c.out) hts hm)
  clear hts hm
  go_enter Tryz.func51, Tryz.ntmps51
  go_wp2
  go_region_held3 (fun w' => w'.cell? ⟨m.c, 39, none⟩ = some (.int .u8 c.out) ∧ w'.cell? ⟨m.c, 45, none⟩ = some (.int .u16 (a : Int))) (first | exact ⟨cell_39 (by first | assumption | exact Base.drew (by assumption)), cell_45 (by first | assumption | exact Base.drew (by assumption))⟩ | exact ⟨(by rw [World.cell?_drew]; exact cell_39 (by first | assumption | exact Base.drew (by assumption))), (by rw [World.cell?_drew]; exact cell_45 (by first | assumption | exact Base.drew (by assumption)))⟩) ((go_at_call 36; (try simp only [mk_drew, mk_drewN]); refine Calls.mono (HR.out _ (by first | assumption | exact Base.drew (by assumption))) ?_; rintro e W ⟨rfl, rfl⟩))
  all_goals go_wp2_with (go_at_call 62; (try simp only [mk_drew, mk_drewN]); refine Calls.mono (HN.out _ (by first | assumption | exact Base.drew (by assumption))) ?_; rintro e W ⟨rfl, w2, hx2, hb2, rfl⟩)
  all_goals
    (first | go_end0 | refine bodyPost_ret (results_none rfl _ _ _) rfl ?_)
    exact ⟨rfl, Lft.mk' (by assumption) (by repeat (first | exact Ext.refl _ | assumption | refine Ext.drew' ?_ | refine Ext.trans ?_ (by assumption)))⟩
set_option maxRecDepth 8000 in
set_option maxHeartbeats 1000000 in
theorem finish_4 (hts : m.ts = 115) (a : Nat) (ha2 : a < 65536) (hm : Mid ({ c with kind := 4, addr := (a : Int) } : Cp) sl) : Calls Tryz.prog 51 #[.pointer (some ⟨m.c, 0, none⟩), .iface 61 (.pointer (some ⟨m.b, 0, none⟩))] (mk w m { c with kind := 4, addr := (a : Int) } sl b) fun e W => e = .returned (.tuple #[]) ∧ Lft w m (({ c with kind := 4, addr := (a : Int) } : Cp).next sl) sl b W := by
  have HN := Lib.hid (fun (w' : World) (hb' : Base m w') => next_any hb' ({ c with kind := 4, addr := (a : Int) } : Cp) sl b hts hm)
  clear hts hm
  go_enter Tryz.func51, Tryz.ntmps51
  go_wp2_with (go_at_call 62; (try simp only [mk_drew, mk_drewN]); refine Calls.mono (HN.out _ (by first | assumption | exact Base.drew (by assumption))) ?_; rintro e W ⟨rfl, w2, hx2, hb2, rfl⟩)
  all_goals
    (first | go_end0 | refine bodyPost_ret (results_none rfl _ _ _) rfl ?_)
    exact ⟨rfl, Lft.mk' (by assumption) (by repeat (first | exact Ext.refl _ | assumption | refine Ext.drew' ?_ | refine Ext.trans ?_ (by assumption)))⟩
end
end Go.Proofs.YtneganpbamemmaaGreat
