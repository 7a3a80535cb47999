/- The processor's small functions. -/
import Derived.Test.YtneganpbamemmaaGreatPlainA
import Derived.Test.YtneganpbamemmaaGreatRegs
import Derived.Test.YtneganpbamemmaaGreatRegs2
import Derived.Test.YtneganpbamemmaaGreatBulk
import Derived.Test.YtneganpbamemmaaGreatAlu3
import Derived.Test.YtneganpbamemmaaGreatDaa
import Derived.Test.YtneganpbamemmaaGreatWide
import Derived.Test.YtneganpbamemmaaGreatTurn
import Derived.Deep.RegionHeld3
set_option linter.unusedVariables false
set_option linter.unusedSimpArgs false
set_option linter.unusedSectionVars false
namespace Go.Proofs.YtneganpbamemmaaGreat
open Go Go.RowKit Sq
theorem and1_i64 (x : Int) (h0 : 0 ≤ x) (h1 : x < 8) : bits BinOp.and IntKind.i64 x 1 = x % 2 := by
  have h : ∀ n : Fin 8, bits BinOp.and .i64 (n.val : Int) 1 = (n.val : Int) % 2 := by decide +kernel
  have := h ⟨x.toNat, by omega⟩
  rwa [show ((x.toNat : Nat) : Int) = x by omega] at this
section
variable {m : Mac} {w : World} (hb : Base m w) (c : Cp) (sl : Nat → Int) (b : Bd)
include hb
theorem start_any (kind addr n : Int) : Calls Tryz.prog 59 #[.pointer (some ⟨m.c, 0, none⟩), .int .i64 kind, .int .u16 addr, .int .i64 n] (mk w m c sl b) fun e W => e = .returned (.tuple #[]) ∧ mk w m (c.start kind addr n) sl b = W := by
  go_enter Tryz.func59, Tryz.ntmps59
  go_wp2
  go_end0
  exact ⟨rfl, rfl⟩
theorem cset_any (f : Int) : Calls Tryz.prog 121 #[.pointer (some ⟨m.c, 0, none⟩), .int .u8 f] (mk w m c sl b) fun e W => e = .returned (.tuple #[]) ∧ mk w m (c.setF f) sl b = W := by
  go_enter Tryz.func121, Tryz.ntmps121
  go_wp2
  go_end0
  exact ⟨rfl, rfl⟩
theorem done_any : Calls Tryz.prog 43 #[.pointer (some ⟨m.c, 0, none⟩)] (mk w m c sl b) fun e W => e = .returned (.bool (c.kind == -1)) ∧ mk w m c sl b = W := by
  go_enter Tryz.func43, Tryz.ntmps43
  go_wp2
  go_ret
  exact ⟨rfl, rfl⟩
theorem cword_any (ho : c.Ok) : Calls Tryz.prog 119 #[.pointer (some ⟨m.c, 0, none⟩)] (mk w m c sl b) fun e W => e = .returned (.int .u16 c.word) ∧ Qt w m c sl b W := by
  obtain ⟨code0, code1⟩ := ho.code
  obtain ⟨ix0, ix1⟩ := ho.ix
  obtain ⟨lo0, lo1⟩ := ho.lo
  obtain ⟨hi0, hi1⟩ := ho.hi
  have hg := ho.g
  go_enter Tryz.func119, Tryz.ntmps119
  go_wp2
  go_quiet ((first | (go_at_call 72; exact quiet_p (of_any _ _ _ (by first | assumption | omega) (by first | assumption | omega) (by first | assumption | omega) (by first | assumption | omega)))))
  go_wp2
  go_ret
  exact ⟨rfl, Qt.region _⟩
theorem plain_any (ho : c.Ok) : Calls Tryz.prog 173 #[.pointer (some ⟨m.c, 0, none⟩)] (mk w m c sl b) fun e W => e = .returned (.int .i64 c.plain) ∧ mk w m c sl b = W := by
  obtain ⟨code0, code1⟩ := ho.code
  obtain ⟨ix0, ix1⟩ := ho.ix
  obtain ⟨lo0, lo1⟩ := ho.lo
  obtain ⟨hi0, hi1⟩ := ho.hi
  have hg := ho.g
  obtain ⟨v, hv⟩ : ∃ v, opMem c.code = v := ⟨_, rfl⟩
  have HV := Lib.hid hv
  cases v
  all_goals
    go_enter Tryz.func173, Tryz.ntmps173
    go_wp2_with (go_at_call 206; (try simp only [mk_drew, mk_drewN]); refine Calls.mono (memory_any _ _ (by first | assumption | omega) (by first | assumption | omega)) ?_; rintro e W ⟨rfl, rfl⟩)
    go_ret
    exact ⟨ret_int (by simp [Cp.plain, HV.out]), rfl⟩
theorem pushed_any (ho : c.Ok) : Calls Tryz.prog 140 #[.pointer (some ⟨m.c, 0, none⟩)] (mk w m c sl b) fun e W => e = .returned (.int .u16 c.pushed) ∧ Qt w m c sl b W := by
  obtain ⟨code0, code1⟩ := ho.code
  obtain ⟨ix0, ix1⟩ := ho.ix
  obtain ⟨lo0, lo1⟩ := ho.lo
  obtain ⟨hi0, hi1⟩ := ho.hi
  have hg := ho.g
  obtain ⟨cp0, cp1⟩ := cp_bd c.code
  by_cases h3 : cp c.code = 3
  · have H3 := Lib.hid h3
    go_enter Tryz.func140, Tryz.ntmps140
    go_wp2_with (first | (go_at_call 118; (try simp only [mk_drew, mk_drewN]); refine Calls.mono (p_any _ _ (by first | assumption | omega) (by first | assumption | omega)) ?_; rintro e W ⟨rfl, rfl⟩) | (go_at_call 196; (try simp only [mk_drew, mk_drewN]); refine Calls.mono (af_any (by first | assumption | exact Base.drew (by assumption) | exact Base.drewN (by assumption) _ | exact Base.alloc (by assumption) _) _ _ _ (by assumption)) ?_; rintro e W ⟨rfl, n1, rfl⟩))
    go_ret
    exact ⟨ret_int (by rw [Cp.pushed, if_pos H3.out]), Qt.mk' _⟩
  · have h3' : (cp c.code == 3) = false := by simp; omega
    have H3 := Lib.hid h3
    go_enter Tryz.func140, Tryz.ntmps140
    go_wp2_with (go_at_call 118; (try simp only [mk_drew, mk_drewN]); refine Calls.mono (p_any _ _ (by first | assumption | omega) (by first | assumption | omega)) ?_; rintro e W ⟨rfl, rfl⟩)
    go_quiet ((first | (go_at_call 118; exact quiet_p (p_any _ _ (by first | assumption | omega) (by first | assumption | omega))) | (go_at_call 82; exact quiet_q (pair_any (by first | assumption | exact Base.drew (by assumption) | exact Base.drewN (by assumption) _ | exact Base.alloc (by assumption) _) _ _ _ (by assumption) _ _ (by first | assumption | omega) (by first | assumption | omega) (by first | assumption | omega) (by first | assumption | omega)))))
    go_wp2
    go_ret
    exact ⟨ret_int (by rw [Cp.pushed, if_neg (by have := H3.out; simpa using this)]), Qt.region _⟩
theorem loaded_any (ho : c.Ok) : Calls Tryz.prog 135 #[.pointer (some ⟨m.c, 0, none⟩)] (mk w m c sl b) fun e W => e = .returned (.int .u8 c.loaded) ∧ Qt w m c sl b W := by
  obtain ⟨code0, code1⟩ := ho.code
  obtain ⟨ix0, ix1⟩ := ho.ix
  obtain ⟨lo0, lo1⟩ := ho.lo
  obtain ⟨hi0, hi1⟩ := ho.hi
  have hg := ho.g
  obtain ⟨ra0, ra1⟩ := ho.g.a
  obtain ⟨rf0, rf1⟩ := ho.g.f
  go_enter Tryz.func135, Tryz.ntmps135
  go_wp2
  go_quiet ((first | (go_at_call 183; exact quiet_p (fof_any _ _ (by first | assumption | omega) (by first | assumption | omega))) | (go_at_call 182; exact quiet_p (with_any _ _ _ _ (bits_bd _ _ _).1 (bits_bd _ _ _).2 (by first | assumption | omega) (by first | assumption | omega)))))
  go_wp2
  go_ret
  exact ⟨rfl, Qt.region _⟩
theorem along_any (ho : c.Ok) : Calls Tryz.prog 189 #[.pointer (some ⟨m.c, 0, none⟩)] (mk w m c sl b) fun e W => e = .returned (.int .u16 c.along) ∧ mk w m c sl b = W := by
  obtain ⟨code0, code1⟩ := ho.code
  obtain ⟨ix0, ix1⟩ := ho.ix
  obtain ⟨lo0, lo1⟩ := ho.lo
  obtain ⟨hi0, hi1⟩ := ho.hi
  have hg := ho.g
  obtain ⟨cy0, cy1⟩ := cy_bd c.code
  have HB := Lib.hid (and1_i64 (cy c.code) cy0 cy1)
  go_enter Tryz.func189, Tryz.ntmps189
  go_wp2_with (go_at_call 87; (try simp only [mk_drew, mk_drewN]); refine Calls.mono (y_any _ _ (by first | assumption | omega) (by first | assumption | omega)) ?_; rintro e W ⟨rfl, rfl⟩)
  · have h : (bits BinOp.and IntKind.i64 (cy c.code) 1 == 1) = true := by assumption
    rw [HB.out] at h
    go_ret
    exact ⟨ret_int (by rw [Cp.along, if_pos (by simpa using h)]), rfl⟩
  · have h : (bits BinOp.and IntKind.i64 (cy c.code) 1 == 1) = false := by assumption
    rw [HB.out] at h
    go_ret
    exact ⟨ret_int (by rw [Cp.along, if_neg (by simpa using h)]), rfl⟩
theorem cagain_any (ho : c.Ok) : Calls Tryz.prog 193 #[.pointer (some ⟨m.c, 0, none⟩)] (mk w m c sl b) fun e W => e = .returned (.tuple #[]) ∧ mk w m c.again sl b = W := by
  obtain ⟨rpc0, rpc1⟩ := ho.g.pc
  go_enter Tryz.func193, Tryz.ntmps193
  go_wp2
  go_end0
  exact ⟨rfl, rfl⟩
set_option maxHeartbeats 4000000 in
theorem popped_any (ho : c.Ok) : Calls Tryz.prog 123 #[.pointer (some ⟨m.c, 0, none⟩)] (mk w m c sl b) fun e W => e = .returned (.tuple #[]) ∧ Lft w m c.popped sl b W := by
  have hf := ho
  obtain ⟨code0, code1⟩ := ho.code
  obtain ⟨ix0, ix1⟩ := ho.ix
  obtain ⟨lo0, lo1⟩ := ho.lo
  obtain ⟨hi0, hi1⟩ := ho.hi
  have hg := ho.g
  obtain ⟨cp0, cp1⟩ := cp_bd c.code
  obtain ⟨wd0, wd1⟩ := ho.word
  by_cases h3 : cp c.code = 3
  · have H3 := Lib.hid h3
    go_enter Tryz.func123, Tryz.ntmps123
    go_wp2_with (go_at_call 118; (try simp only [mk_drew, mk_drewN]); refine Calls.mono (p_any _ _ (by first | assumption | omega) (by first | assumption | omega)) ?_; rintro e W ⟨rfl, rfl⟩)
    go_region_with (first | (go_at_call 119; (try simp only [mk_drew, mk_drewN]); refine Calls.mono (cword_any (by first | assumption | exact Base.drew (by assumption) | exact Base.drewN (by assumption) _ | exact Base.alloc (by assumption) _) _ _ _ (by assumption)) ?_; rintro e W ⟨rfl, n1, rfl⟩) | (go_at_call 170; (try simp only [mk_drew, mk_drewN]); refine Calls.mono (putAf_any (by first | assumption | exact Base.drew (by assumption) | exact Base.drewN (by assumption) _ | exact Base.alloc (by assumption) _) _ _ _ _ (by first | assumption | omega) (by first | assumption | omega)) ?_; rintro e W ⟨rfl, rfl⟩))
    all_goals
      go_wp2
      (first | go_end0 | refine bodyPost_ret (results_none rfl _ _ _) rfl ?_)
      rw [Cp.popped, if_pos H3.out]
      exact ⟨rfl, Lft.mk' (by first | assumption | exact Base.drew (by assumption) | exact Base.drewN (by assumption) _ | exact Base.alloc (by assumption) _) (by repeat (first | exact Ext.refl _ | assumption | refine Ext.drew' ?_ | refine Ext.drewN' ?_ _ | refine Ext.alloc' ?_ _ | refine Ext.trans ?_ (by assumption)))⟩
  · have h3' : (cp c.code == 3) = false := by simp; omega
    have H3 := Lib.hid h3
    go_enter Tryz.func123, Tryz.ntmps123
    go_wp2_with (go_at_call 118; (try simp only [mk_drew, mk_drewN]); refine Calls.mono (p_any _ _ (by first | assumption | omega) (by first | assumption | omega)) ?_; rintro e W ⟨rfl, rfl⟩)
    go_region_held3 (fun w' => w'.cell? ⟨m.c, 32, none⟩ = some (.int .u8 c.code) ∧ w'.cell? ⟨m.c, 33, none⟩ = some (.int .i64 c.ix)) (first | exact ⟨cell_32 (by first | assumption | exact Base.drew (by assumption) | exact Base.drewN (by assumption) _ | exact Base.alloc (by assumption) _), cell_33 (by first | assumption | exact Base.drew (by assumption) | exact Base.drewN (by assumption) _ | exact Base.alloc (by assumption) _)⟩ | exact ⟨(by rw [World.cell?_drew]; exact cell_32 (by first | assumption | exact Base.drew (by assumption) | exact Base.drewN (by assumption) _ | exact Base.alloc (by assumption) _)), (by rw [World.cell?_drew]; exact cell_33 (by first | assumption | exact Base.drew (by assumption) | exact Base.drewN (by assumption) _ | exact Base.alloc (by assumption) _))⟩) (first | (go_at_call 118; (try simp only [mk_drew, mk_drewN]); refine Calls.mono (p_any _ _ (by first | assumption | omega) (by first | assumption | omega)) ?_; rintro e W ⟨rfl, rfl⟩) | (go_at_call 119; (try simp only [mk_drew, mk_drewN]); refine Calls.mono (cword_any (by first | assumption | exact Base.drew (by assumption) | exact Base.drewN (by assumption) _ | exact Base.alloc (by assumption) _) _ _ _ (by assumption)) ?_; rintro e W ⟨rfl, n1, rfl⟩) | (go_at_call 117; (try simp only [mk_drew, mk_drewN]); refine Calls.mono (putPair_any (by first | assumption | exact Base.drew (by assumption) | exact Base.drewN (by assumption) _ | exact Base.alloc (by assumption) _) _ _ _ _ _ _ (by first | assumption | omega) (by first | assumption | omega) (by first | assumption | omega) (by first | assumption | omega) (by first | assumption | omega) (by first | assumption | omega)) ?_; rintro e W ⟨rfl, rfl⟩))
    all_goals
      go_wp2
      (first | go_end0 | refine bodyPost_ret (results_none rfl _ _ _) rfl ?_)
      rw [Cp.popped, if_neg (by have := H3.out; simpa using this)]
      exact ⟨rfl, Lft.mk' (by first | assumption | exact Base.drew (by assumption) | exact Base.drewN (by assumption) _ | exact Base.alloc (by assumption) _) (by repeat (first | exact Ext.refl _ | assumption | refine Ext.drew' ?_ | refine Ext.drewN' ?_ _ | refine Ext.alloc' ?_ _ | refine Ext.trans ?_ (by assumption)))⟩
set_option maxHeartbeats 4000000 in
theorem byteOf_any (ho : c.Ok) (x : Int) (hx : 0 ≤ x ∧ x < 14) : Calls Tryz.prog 91 #[.pointer (some ⟨m.c, 0, none⟩), .int .i64 x] (mk w m c sl b) fun e W => e = .returned (.int .u8 (c.byteOf x)) ∧ Qt w m c sl b W := by
  obtain ⟨code0, code1⟩ := ho.code
  obtain ⟨ix0, ix1⟩ := ho.ix
  obtain ⟨lo0, lo1⟩ := ho.lo
  obtain ⟨hi0, hi1⟩ := ho.hi
  have hg := ho.g
  obtain ⟨rpc0, rpc1⟩ := ho.g.pc
  obtain ⟨cy0, cy1⟩ := cy_bd c.code
  obtain ⟨cz0, cz1⟩ := cz_bd c.code
  obtain ⟨cp0, cp1⟩ := cp_bd c.code
  obtain ⟨p20, p21⟩ := hg.pair 2 c.ix
  obtain ⟨pp0, pp1⟩ := hg.pair (cp c.code) 0
  obtain ⟨pu0, pu1⟩ := ho.pushed
  rcases (by omega : x = 0 ∨ x = 1 ∨ x = 2 ∨ x = 3 ∨ x = 4 ∨ x = 5 ∨ x = 6 ∨ x = 7 ∨ x = 8 ∨ x = 9 ∨ x = 10 ∨ x = 11 ∨ x = 12 ∨ x = 13) with rfl | rfl | rfl | rfl | rfl | rfl | rfl | rfl | rfl | rfl | rfl | rfl | rfl | rfl
  all_goals
    clear hx
    go_enter Tryz.func91, Tryz.ntmps91
    go_wp2_with (first | (go_at_call 82; (try simp only [mk_drew, mk_drewN]); refine Calls.mono (pair_any (by first | assumption | exact Base.drew (by assumption) | exact Base.drewN (by assumption) _ | exact Base.alloc (by assumption) _) _ _ _ (by assumption) _ _ (by first | assumption | omega) (by first | assumption | omega) (by first | assumption | omega) (by first | assumption | omega)) ?_; rintro e W ⟨rfl, n1, rfl⟩) | (go_at_call 129; (try simp only [mk_drew, mk_drewN]); refine Calls.mono (byte_any (by first | assumption | exact Base.drew (by assumption) | exact Base.drewN (by assumption) _ | exact Base.alloc (by assumption) _) _ _ _ (by assumption) _ _ (by first | assumption | omega) (by first | assumption | omega) (by first | assumption | omega) (by first | assumption | omega)) ?_; rintro e W ⟨rfl, rfl⟩) | (go_at_call 140; (try simp only [mk_drew, mk_drewN]); refine Calls.mono (pushed_any (by first | assumption | exact Base.drew (by assumption) | exact Base.drewN (by assumption) _ | exact Base.alloc (by assumption) _) _ _ _ (by assumption)) ?_; rintro e W ⟨rfl, n1, rfl⟩) | (go_at_call 128; (try simp only [mk_drew, mk_drewN]); refine Calls.mono (hi_any _ _ (by first | assumption | omega) (by first | assumption | omega)) ?_; rintro e W ⟨rfl, rfl⟩) | (go_at_call 122; (try simp only [mk_drew, mk_drewN]); refine Calls.mono (lo_any _ _ (by first | assumption | omega) (by first | assumption | omega)) ?_; rintro e W ⟨rfl, rfl⟩) | (go_at_call 87; (try simp only [mk_drew, mk_drewN]); refine Calls.mono (y_any _ _ (by first | assumption | omega) (by first | assumption | omega)) ?_; rintro e W ⟨rfl, rfl⟩) | (go_at_call 88; (try simp only [mk_drew, mk_drewN]); refine Calls.mono (z_any _ _ (by first | assumption | omega) (by first | assumption | omega)) ?_; rintro e W ⟨rfl, rfl⟩) | (go_at_call 118; (try simp only [mk_drew, mk_drewN]); refine Calls.mono (p_any _ _ (by first | assumption | omega) (by first | assumption | omega)) ?_; rintro e W ⟨rfl, rfl⟩))
    go_ret
    exact ⟨ret_int (by simp [Cp.byteOf]), by first | exact Qt.mk' _ | exact Qt.zero⟩
set_option maxHeartbeats 4000000 in
theorem met_any (ho : c.Ok) (x : Int) (hx : 0 ≤ x ∧ x < 4) : Calls Tryz.prog 75 #[.pointer (some ⟨m.c, 0, none⟩), .int .i64 x] (mk w m c sl b) fun e W => e = .returned (.bool (c.met x)) ∧ Qt w m c sl b W := by
  obtain ⟨code0, code1⟩ := ho.code
  obtain ⟨ix0, ix1⟩ := ho.ix
  obtain ⟨lo0, lo1⟩ := ho.lo
  obtain ⟨hi0, hi1⟩ := ho.hi
  have hg := ho.g
  obtain ⟨rf0, rf1⟩ := ho.g.f
  obtain ⟨cy0, cy1⟩ := cy_bd c.code
  obtain ⟨cz0, cz1⟩ := cz_bd c.code
  rcases (by omega : (x = 0 ∨ x = 1) ∨ x = 2 ∨ (x = 3 ∧ cz c.code = 0) ∨ (x = 3 ∧ cz c.code = 1) ∨ (x = 3 ∧ ¬ cz c.code = 0 ∧ ¬ cz c.code = 1)) with (rfl | rfl) | rfl | ⟨rfl, h⟩ | ⟨rfl, h⟩ | ⟨rfl, h, h'⟩
  iterate 2
    · go_enter Tryz.func75, Tryz.ntmps75
      go_wp2
      go_quiet ((first | (go_at_call 87; exact quiet_p (y_any _ _ (by first | assumption | omega) (by first | assumption | omega))) | (go_at_call 86; exact quiet_p (cond_any _ _ _ (by first | assumption | omega) (by first | assumption | omega) (by first | assumption | omega) (by first | assumption | omega)))))
      go_wp2
      go_ret
      exact ⟨ret_bool (by simp [Cp.met]), Qt.region _⟩
  all_goals
    go_enter Tryz.func75, Tryz.ntmps75
    go_wp2_with (first | (go_at_call 82; (try simp only [mk_drew, mk_drewN]); refine Calls.mono (pair_any (by first | assumption | exact Base.drew (by assumption) | exact Base.drewN (by assumption) _ | exact Base.alloc (by assumption) _) _ _ _ (by assumption) _ _ (by first | assumption | omega) (by first | assumption | omega) (by first | assumption | omega) (by first | assumption | omega)) ?_; rintro e W ⟨rfl, n1, rfl⟩) | (go_at_call 86; (try simp only [mk_drew, mk_drewN]); refine Calls.mono (cond_any _ _ _ (by first | assumption | omega) (by first | assumption | omega) (by first | assumption | omega) (by first | assumption | omega)) ?_; rintro e W ⟨rfl, rfl⟩) | (go_at_call 89; (try simp only [mk_drew, mk_drewN]); refine Calls.mono (has_any _ _ _ (by first | assumption | omega) (by first | assumption | omega) (by first | assumption | omega) (by first | assumption | omega)) ?_; rintro e W ⟨rfl, rfl⟩) | (go_at_call 87; (try simp only [mk_drew, mk_drewN]); refine Calls.mono (y_any _ _ (by first | assumption | omega) (by first | assumption | omega)) ?_; rintro e W ⟨rfl, rfl⟩) | (go_at_call 88; (try simp only [mk_drew, mk_drewN]); refine Calls.mono (z_any _ _ (by first | assumption | omega) (by first | assumption | omega)) ?_; rintro e W ⟨rfl, rfl⟩))
    all_goals
      go_ret
      exact ⟨ret_bool (by simp_all [Cp.met]), by first | exact Qt.mk' _ | exact Qt.zero⟩
set_option maxHeartbeats 4000000 in
theorem cacc_any (ho : c.Ok) : Calls Tryz.prog 174 #[.pointer (some ⟨m.c, 0, none⟩)] (mk w m c sl b) fun e W => e = .returned (.tuple #[.int .u8 c.acc.1, .int .u8 c.acc.2]) ∧ Lft w m c sl b W := by
  obtain ⟨code0, code1⟩ := ho.code
  obtain ⟨ix0, ix1⟩ := ho.ix
  obtain ⟨lo0, lo1⟩ := ho.lo
  obtain ⟨hi0, hi1⟩ := ho.hi
  have hg := ho.g
  obtain ⟨ra0, ra1⟩ := ho.g.a
  obtain ⟨rf0, rf1⟩ := ho.g.f
  obtain ⟨rq0, rq1⟩ := ho.g.q
  obtain ⟨cy0, cy1⟩ := cy_bd c.code
  rcases (by omega : cy c.code = 4 ∨ cy c.code = 5 ∨ cy c.code = 6 ∨ cy c.code = 7 ∨ cy c.code < 4) with h | h | h | h | h
  iterate 4
    · have H := Lib.hid h
      go_enter Tryz.func174, Tryz.ntmps174
      go_wp2_with (go_at_call 87; (try simp only [mk_drew, mk_drewN]); refine Calls.mono (y_any _ _ (by first | assumption | omega) (by first | assumption | omega)) ?_; rintro e W ⟨rfl, rfl⟩)
      go_region_held3 (fun w' => w'.cell? ⟨m.c, 0, none⟩ = some (.int .u8 c.g.a) ∧ w'.cell? ⟨m.c, 1, none⟩ = some (.int .u8 c.g.f) ∧ w'.cell? ⟨m.c, 18, none⟩ = some (.int .u8 c.g.q)) (first | exact ⟨cell_0 (by first | assumption | exact Base.drew (by assumption) | exact Base.drewN (by assumption) _ | exact Base.alloc (by assumption) _), cell_1 (by first | assumption | exact Base.drew (by assumption) | exact Base.drewN (by assumption) _ | exact Base.alloc (by assumption) _), cell_18 (by first | assumption | exact Base.drew (by assumption) | exact Base.drewN (by assumption) _ | exact Base.alloc (by assumption) _)⟩ | exact ⟨(by rw [World.cell?_drew]; exact cell_0 (by first | assumption | exact Base.drew (by assumption) | exact Base.drewN (by assumption) _ | exact Base.alloc (by assumption) _)), (by rw [World.cell?_drew]; exact cell_1 (by first | assumption | exact Base.drew (by assumption) | exact Base.drewN (by assumption) _ | exact Base.alloc (by assumption) _)), (by rw [World.cell?_drew]; exact cell_18 (by first | assumption | exact Base.drew (by assumption) | exact Base.drewN (by assumption) _ | exact Base.alloc (by assumption) _))⟩) (first | (go_at_call 207; (try simp only [mk_drew, mk_drewN]); refine Calls.mono (daa_any _ _ _ (by first | assumption | omega) (by first | assumption | omega) (by first | assumption | omega) (by first | assumption | omega)) ?_; rintro e W ⟨rfl, hx⟩; obtain ⟨w1, hx1, hb1, rfl⟩ := lift (by first | assumption | exact Base.drew (by assumption) | exact Base.drewN (by assumption) _ | exact Base.alloc (by assumption) _) hx; clear hx) | (go_at_call 208; (try simp only [mk_drew, mk_drewN]); refine Calls.mono (cpl_any _ _ _ (by first | assumption | omega) (by first | assumption | omega)) ?_; rintro e W ⟨rfl, rfl⟩) | (go_at_call 209; (try simp only [mk_drew, mk_drewN]); refine Calls.mono (scf_any _ _ _ _) ?_; rintro e W ⟨rfl, rfl⟩) | (go_at_call 210; (try simp only [mk_drew, mk_drewN]); refine Calls.mono (ccf_any _ _ _ _ (by first | assumption | omega) (by first | assumption | omega)) ?_; rintro e W ⟨rfl, hx⟩; obtain ⟨w1, hx1, hb1, rfl⟩ := lift (by first | assumption | exact Base.drew (by assumption) | exact Base.drewN (by assumption) _ | exact Base.alloc (by assumption) _) hx; clear hx))
      go_wp2
      go_ret2
      exact ⟨ret_ii (by simp [Cp.acc, H.out]) (by simp [Cp.acc, H.out]), Lft.mk' (by first | assumption | exact Base.drew (by assumption) | exact Base.drewN (by assumption) _ | exact Base.alloc (by assumption) _) (by repeat (first | exact Ext.refl _ | assumption | refine Ext.drew' ?_ | refine Ext.drewN' ?_ _ | refine Ext.alloc' ?_ _ | refine Ext.trans ?_ (by assumption)))⟩
  · have h4 : (cy c.code == 4) = false := by simp; omega
    have h5 : (cy c.code == 5) = false := by simp; omega
    have h6 : (cy c.code == 6) = false := by simp; omega
    have h7 : (cy c.code == 7) = false := by simp; omega
    have e : c.acc = tAcc (cy c.code) c.g.a c.g.f := by
      unfold Cp.acc
      rw [if_neg (by omega), if_neg (by omega), if_neg (by omega), if_neg (by omega)]
    have H := Lib.hid e
    clear e
    go_enter Tryz.func174, Tryz.ntmps174
    go_wp2_with (go_at_call 87; (try simp only [mk_drew, mk_drewN]); refine Calls.mono (y_any _ _ (by first | assumption | omega) (by first | assumption | omega)) ?_; rintro e W ⟨rfl, rfl⟩)
    go_region_held3 (fun w' => w'.cell? ⟨m.c, 0, none⟩ = some (.int .u8 c.g.a) ∧ w'.cell? ⟨m.c, 1, none⟩ = some (.int .u8 c.g.f) ∧ w'.cell? ⟨m.c, 32, none⟩ = some (.int .u8 c.code)) (first | exact ⟨cell_0 (by first | assumption | exact Base.drew (by assumption) | exact Base.drewN (by assumption) _ | exact Base.alloc (by assumption) _), cell_1 (by first | assumption | exact Base.drew (by assumption) | exact Base.drewN (by assumption) _ | exact Base.alloc (by assumption) _), cell_32 (by first | assumption | exact Base.drew (by assumption) | exact Base.drewN (by assumption) _ | exact Base.alloc (by assumption) _)⟩ | exact ⟨(by rw [World.cell?_drew]; exact cell_0 (by first | assumption | exact Base.drew (by assumption) | exact Base.drewN (by assumption) _ | exact Base.alloc (by assumption) _)), (by rw [World.cell?_drew]; exact cell_1 (by first | assumption | exact Base.drew (by assumption) | exact Base.drewN (by assumption) _ | exact Base.alloc (by assumption) _)), (by rw [World.cell?_drew]; exact cell_32 (by first | assumption | exact Base.drew (by assumption) | exact Base.drewN (by assumption) _ | exact Base.alloc (by assumption) _))⟩) (first | (go_at_call 87; (try simp only [mk_drew, mk_drewN]); refine Calls.mono (y_any _ _ (by first | assumption | omega) (by first | assumption | omega)) ?_; rintro e W ⟨rfl, rfl⟩) | (go_at_call 211; (try simp only [mk_drew, mk_drewN]); refine Calls.mono (tacc_any _ _ _ _ (by first | assumption | omega) (by first | assumption | omega) (by first | assumption | omega) (by first | assumption | omega) (by first | assumption | omega)) ?_; rintro e W ⟨rfl, rfl⟩))
    go_wp2
    go_ret2
    rw [H.out]
    exact ⟨rfl, Lft.mk' (by first | assumption | exact Base.drew (by assumption) | exact Base.drewN (by assumption) _ | exact Base.alloc (by assumption) _) (by repeat (first | exact Ext.refl _ | assumption | refine Ext.drew' ?_ | refine Ext.drewN' ?_ _ | refine Ext.alloc' ?_ _ | refine Ext.trans ?_ (by assumption)))⟩
set_option maxHeartbeats 4000000 in
theorem cbits_any (ho : c.Ok) (v fr : Int) (hv : 0 ≤ v) (hv1 : v < 256) (hf : 0 ≤ fr) (hf1 : fr < 256) : Calls Tryz.prog 127 #[.pointer (some ⟨m.c, 0, none⟩), .int .u8 v, .int .u8 fr] (mk w m c sl b) fun e W => e = .returned (.int .u8 (c.bitsV v)) ∧ Lft w m (c.bitsC v fr) sl b W := by
  obtain ⟨code0, code1⟩ := ho.code
  obtain ⟨ix0, ix1⟩ := ho.ix
  obtain ⟨lo0, lo1⟩ := ho.lo
  obtain ⟨hi0, hi1⟩ := ho.hi
  have hg := ho.g
  obtain ⟨rf0, rf1⟩ := ho.g.f
  obtain ⟨cy0, cy1⟩ := cy_bd c.code
  obtain ⟨cx0, cx1⟩ := cx_bd ho.code
  rcases (by omega : (cx c.code = 2 ∨ cx c.code = 3) ∨ cx c.code = 0 ∨ cx c.code = 1) with (h | h) | h | h
  iterate 2
    · have H := Lib.hid h
      go_enter Tryz.func127, Tryz.ntmps127
      go_wp2_with (first | (go_at_call 176; (try simp only [mk_drew, mk_drewN]); refine Calls.mono (x_any _ _ (by first | assumption | omega) (by first | assumption | omega)) ?_; rintro e W ⟨rfl, rfl⟩) | (go_at_call 87; (try simp only [mk_drew, mk_drewN]); refine Calls.mono (y_any _ _ (by first | assumption | omega) (by first | assumption | omega)) ?_; rintro e W ⟨rfl, rfl⟩) | (go_at_call 179; (try simp only [mk_drew, mk_drewN]); refine Calls.mono (tres_any _ _ _ (by first | assumption | omega) (by first | assumption | omega) (by first | assumption | omega)) ?_; rintro e W ⟨rfl, rfl⟩) | (go_at_call 180; (try simp only [mk_drew, mk_drewN]); refine Calls.mono (tset_any _ _ _ (by first | assumption | omega) (by first | assumption | omega) (by first | assumption | omega)) ?_; rintro e W ⟨rfl, rfl⟩))
      go_ret
      exact ⟨ret_int (by simp [Cp.bitsV, H.out]), by simp [Cp.bitsC, H.out]; exact Lft.mk' (by first | assumption | exact Base.drew (by assumption) | exact Base.drewN (by assumption) _ | exact Base.alloc (by assumption) _) (by repeat (first | exact Ext.refl _ | assumption | refine Ext.drew' ?_ | refine Ext.drewN' ?_ _ | refine Ext.alloc' ?_ _ | refine Ext.trans ?_ (by assumption)))⟩
  · have H := Lib.hid h
    go_enter Tryz.func127, Tryz.ntmps127
    go_wp2_with (go_at_call 176; (try simp only [mk_drew, mk_drewN]); refine Calls.mono (x_any _ _ (by first | assumption | omega) (by first | assumption | omega)) ?_; rintro e W ⟨rfl, rfl⟩)
    go_region_held3 (fun w' => w'.cell? ⟨m.c, 32, none⟩ = some (.int .u8 c.code) ∧ w'.cell? ⟨m.c, 1, none⟩ = some (.int .u8 c.g.f)) (first | exact ⟨cell_32 (by first | assumption | exact Base.drew (by assumption) | exact Base.drewN (by assumption) _ | exact Base.alloc (by assumption) _), cell_1 (by first | assumption | exact Base.drew (by assumption) | exact Base.drewN (by assumption) _ | exact Base.alloc (by assumption) _)⟩ | exact ⟨(by rw [World.cell?_drew]; exact cell_32 (by first | assumption | exact Base.drew (by assumption) | exact Base.drewN (by assumption) _ | exact Base.alloc (by assumption) _)), (by rw [World.cell?_drew]; exact cell_1 (by first | assumption | exact Base.drew (by assumption) | exact Base.drewN (by assumption) _ | exact Base.alloc (by assumption) _))⟩) (first | (go_at_call 87; (try simp only [mk_drew, mk_drewN]); refine Calls.mono (y_any _ _ (by first | assumption | omega) (by first | assumption | omega)) ?_; rintro e W ⟨rfl, rfl⟩) | (go_at_call 177; (try simp only [mk_drew, mk_drewN]); refine Calls.mono (tdo_any _ _ _ _ (by first | assumption | omega) (by first | assumption | omega) (by first | assumption | omega) (by first | assumption | omega) (by first | assumption | omega)) ?_; rintro e W ⟨rfl, rfl⟩))
    go_wp2_with (first | (go_at_call 176; (try simp only [mk_drew, mk_drewN]); refine Calls.mono (x_any _ _ (by first | assumption | omega) (by first | assumption | omega)) ?_; rintro e W ⟨rfl, rfl⟩) | (go_at_call 121; (try simp only [mk_drew, mk_drewN]); refine Calls.mono (cset_any (by first | assumption | exact Base.drew (by assumption) | exact Base.drewN (by assumption) _ | exact Base.alloc (by assumption) _) _ _ _ _) ?_; rintro e W ⟨rfl, rfl⟩))
    go_ret
    exact ⟨ret_int (by simp [Cp.bitsV, H.out]), by simp [Cp.bitsC, H.out]; exact Lft.mk' (by first | assumption | exact Base.drew (by assumption) | exact Base.drewN (by assumption) _ | exact Base.alloc (by assumption) _) (by repeat (first | exact Ext.refl _ | assumption | refine Ext.drew' ?_ | refine Ext.drewN' ?_ _ | refine Ext.alloc' ?_ _ | refine Ext.trans ?_ (by assumption)))⟩
  · have H := Lib.hid h
    go_enter Tryz.func127, Tryz.ntmps127
    go_wp2_with (go_at_call 176; (try simp only [mk_drew, mk_drewN]); refine Calls.mono (x_any _ _ (by first | assumption | omega) (by first | assumption | omega)) ?_; rintro e W ⟨rfl, rfl⟩)
    go_region_with (first | (go_at_call 87; (try simp only [mk_drew, mk_drewN]); refine Calls.mono (y_any _ _ (by first | assumption | omega) (by first | assumption | omega)) ?_; rintro e W ⟨rfl, rfl⟩) | (go_at_call 178; (try simp only [mk_drew, mk_drewN]); refine Calls.mono (tbit_any _ _ _ _ _ (by first | assumption | omega) (by first | assumption | omega) (by first | assumption | omega)) ?_; rintro e W ⟨rfl, rfl⟩) | (go_at_call 121; (try simp only [mk_drew, mk_drewN]); refine Calls.mono (cset_any (by first | assumption | exact Base.drew (by assumption) | exact Base.drewN (by assumption) _ | exact Base.alloc (by assumption) _) _ _ _ _) ?_; rintro e W ⟨rfl, rfl⟩))
    all_goals
     go_wp2_with (go_at_call 176; (try simp only [mk_drew, mk_drewN]); refine Calls.mono (x_any _ _ (by first | assumption | omega) (by first | assumption | omega)) ?_; rintro e W ⟨rfl, rfl⟩)
     go_ret
     exact ⟨ret_int (by simp [Cp.bitsV, H.out]), by simp [Cp.bitsC, H.out]; exact Lft.mk' (by first | assumption | exact Base.drew (by assumption) | exact Base.drewN (by assumption) _ | exact Base.alloc (by assumption) _) (by repeat (first | exact Ext.refl _ | assumption | refine Ext.drew' ?_ | refine Ext.drewN' ?_ _ | refine Ext.alloc' ?_ _ | refine Ext.trans ?_ (by assumption)))⟩
end
end Go.Proofs.YtneganpbamemmaaGreat
