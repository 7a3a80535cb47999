/- The works of plain codes: arithmetic on the accumulator. -/
import Derived.Test.YtneganpbamemmaaGreatWorkB
import Derived.Test.YtneganpbamemmaaGreatLate
set_option linter.unusedVariables false
set_option linter.unusedSimpArgs false
set_option linter.unusedSectionVars false
namespace Go.Proofs.YtneganpbamemmaaGreat
open Go Go.RowKit Sq
theorem copied_eq (c : Cp) : c.copied = ((c.g.putPair 0 0 (IntKind.u16.wrap (c.g.pair 0 0 - 1))).putPair 1 0 (IntKind.u16.wrap ((c.g.putPair 0 0 (IntKind.u16.wrap (c.g.pair 0 0 - 1))).pair 1 0 + c.along))).putPair 2 0
    (IntKind.u16.wrap (((c.g.putPair 0 0 (IntKind.u16.wrap (c.g.pair 0 0 - 1))).putPair 1 0 (IntKind.u16.wrap ((c.g.putPair 0 0 (IntKind.u16.wrap (c.g.pair 0 0 - 1))).pair 1 0 + c.along))).pair 2 0 + c.along)) := by
  have h : ∀ x : Int, IntKind.u16.wrap x = x % 65536 := fun _ => rfl
  have e1 : ∀ (g : Rg) (x : Int), (g.putPair 0 0 x).pair 1 0 = g.pair 1 0 := fun g x => by simp [Rg.putPair, Rg.pair]
  have e2 : ∀ (g : Rg) (x y : Int), ((g.putPair 0 0 x).putPair 1 0 y).pair 2 0 = g.pair 2 0 := fun g x y => by simp [Rg.putPair, Rg.pair]
  rw [e1, e2, h, h, h]
  rfl
section
variable {m : Mac} {w : World} (hb : Base m w) (c : Cp) (sl : Nat → Int) (b : Bd)
include hb
set_option maxRecDepth 8000 in
set_option maxHeartbeats 4000000 in
theorem counts_22 (ho : c.Ok) : Calls Tryz.prog 125 #[.pointer (some ⟨m.c, 0, none⟩), .int .i64 22] (mk w m c sl b) fun e W => e = .returned (.tuple #[]) ∧ Lft w m (c.counts 22) sl b W := by
  obtain ⟨code0, code1⟩ := ho.code
  obtain ⟨ix0, ix1⟩ := ho.ix
  obtain ⟨lo0, lo1⟩ := ho.lo
  obtain ⟨hi0, hi1⟩ := ho.hi
  have hg := ho.g
  obtain ⟨cy0, cy1⟩ := cy_bd c.code
  obtain ⟨ra0, ra1⟩ := ho.g.a
  obtain ⟨rf0, rf1⟩ := ho.g.f
  have HP := Lib.hid (show c.counts 22 = _ by simp [Cp.counts]; rfl)
  go_enter Tryz.func125, Tryz.ntmps125
  go_wp2
  refine wp_region_late 24 (fun w' => w'.cell? ⟨m.c, 0, none⟩ = some (.int .u8 c.g.a) ∧ w'.cell? ⟨m.c, 32, none⟩ = some (.int .u8 c.code) ∧ w'.cell? ⟨m.c, 36, none⟩ = some (.int .u8 c.lo) ∧ w'.cell? ⟨m.c, 1, none⟩ = some (.int .u8 c.g.f)) (by kernel_rfl) ⟨(by rw [World.cell?_drew]; exact cell_0 (by first | assumption | exact Base.drew (by assumption) | exact Base.drewN (by assumption) _ | exact Base.alloc (by assumption) _)), (by rw [World.cell?_drew]; exact cell_32 (by first | assumption | exact Base.drew (by assumption) | exact Base.drewN (by assumption) _ | exact Base.alloc (by assumption) _)), (by rw [World.cell?_drew]; exact cell_36 (by first | assumption | exact Base.drew (by assumption) | exact Base.drewN (by assumption) _ | exact Base.alloc (by assumption) _)), (by rw [World.cell?_drew]; exact cell_1 (by first | assumption | exact Base.drew (by assumption) | exact Base.drewN (by assumption) _ | exact Base.alloc (by assumption) _))⟩ (fun hHeld => ?_)
  refine wpAnyT_pure (i := 0) (oi := { dst := some 173, op := Go.Op.move (Go.Operand.tmp 4), type := 138, pos := "work.go:213", after := #[], guard := none }) (v := ?Lv0) rfl (by kernel_rfl) (by kernel_rfl) (by kernel_rfl) (fun _ _ _ h => h) (Or.inl ⟨by rfl, ?Ly0⟩) ?Lr0
  case Ly0 => (intro w; go_simp; try with_reducible rfl)
  try simp only [Act.put, List.setIfInBounds_toArray, List.set_cons_zero, List.set_cons_succ]
  refine wpAnyT_pure (i := 1) (oi := { dst := some 174, op := Go.Op.move (Go.Operand.tmp 0), type := 60, pos := "work.go:213", after := #[], guard := none }) (v := ?Lv1) rfl (by kernel_rfl) (by kernel_rfl) (by kernel_rfl) (fun _ _ _ h => h) (Or.inl ⟨by rfl, ?Ly1⟩) ?Lr1
  case Ly1 => (intro w; go_simp; try with_reducible rfl)
  try simp only [Act.put, List.setIfInBounds_toArray, List.set_cons_zero, List.set_cons_succ]
  refine wpAnyT_pure (i := 2) (oi := { dst := some 175, op := Go.Op.nilCheck (Go.Operand.tmp 174), type := 0, pos := "work.go:213", after := #[{ on := 1, ground := Go.Ground.data }], guard := none }) (v := ?Lv2) rfl (by kernel_rfl) (by kernel_rfl) (by kernel_rfl) (fun _ _ _ h => h) (Or.inl ⟨by rfl, ?Ly2⟩) ?Lr2
  case Ly2 => (intro w; go_simp; try with_reducible rfl)
  try simp only [Act.put, List.setIfInBounds_toArray, List.set_cons_zero, List.set_cons_succ]
  refine wpAnyT_pure (i := 3) (oi := { dst := some 176, op := Go.Op.fieldAddr 79 (Go.Operand.tmp 175) 3, type := 0, pos := "work.go:213", after := #[{ on := 2, ground := Go.Ground.data }], guard := none }) (v := ?Lv3) rfl (by kernel_rfl) (by kernel_rfl) (by kernel_rfl) (fun _ _ _ h => h) (Or.inl ⟨by rfl, ?Ly3⟩) ?Lr3
  case Ly3 => (intro w; go_simp; try with_reducible rfl)
  try simp only [Act.put, List.setIfInBounds_toArray, List.set_cons_zero, List.set_cons_succ]
  refine wpAnyT_take (i := 4) (oi := { dst := some 177, op := Go.Op.load 5 (Go.Operand.tmp 176), type := 5, pos := "work.go:213", after := #[{ on := 3, ground := Go.Ground.data }], guard := none }) (v := ?Lv4) [24] rfl (by decide) (by kernel_rfl) (by kernel_rfl) (by kernel_rfl) (by kernel_rfl) (fun _ _ _ h => h) (Or.inl ⟨by rfl, ?Ly4⟩) hHeld ?Lr4
  case Ly4 => (intro w hSw; (try dsimp only at hSw); go_simp; try with_reducible rfl)
  try simp only [Act.put, List.setIfInBounds_toArray, List.set_cons_zero, List.set_cons_succ]
  refine wpAnyT_pure (i := 6) (oi := { dst := some 179, op := Go.Op.move (Go.Operand.tmp 4), type := 138, pos := "work.go:213", after := #[], guard := none }) (v := ?Lv6) rfl (by kernel_rfl) (by kernel_rfl) (by kernel_rfl) (fun _ _ _ h => h) (Or.inl ⟨by rfl, ?Ly6⟩) ?Lr6
  case Ly6 => (intro w; go_simp; try with_reducible rfl)
  try simp only [Act.put, List.setIfInBounds_toArray, List.set_cons_zero, List.set_cons_succ]
  refine wpAnyT_pure (i := 7) (oi := { dst := some 180, op := Go.Op.nilCheck (Go.Operand.tmp 179), type := 0, pos := "work.go:213", after := #[{ on := 6, ground := Go.Ground.data }], guard := none }) (v := ?Lv7) rfl (by kernel_rfl) (by kernel_rfl) (by kernel_rfl) (fun _ _ _ h => h) (Or.inl ⟨by rfl, ?Ly7⟩) ?Lr7
  case Ly7 => (intro w; go_simp; try with_reducible rfl)
  try simp only [Act.put, List.setIfInBounds_toArray, List.set_cons_zero, List.set_cons_succ]
  refine wpAnyT_pure (i := 8) (oi := { dst := some 181, op := Go.Op.fieldAddr 31 (Go.Operand.tmp 180) 0, type := 0, pos := "work.go:213", after := #[{ on := 7, ground := Go.Ground.data }], guard := none }) (v := ?Lv8) rfl (by kernel_rfl) (by kernel_rfl) (by kernel_rfl) (fun _ _ _ h => h) (Or.inl ⟨by rfl, ?Ly8⟩) ?Lr8
  case Ly8 => (intro w; go_simp; try with_reducible rfl)
  try simp only [Act.put, List.setIfInBounds_toArray, List.set_cons_zero, List.set_cons_succ]
  refine wpAnyT_take (i := 9) (oi := { dst := some 182, op := Go.Op.load 5 (Go.Operand.tmp 181), type := 5, pos := "work.go:213", after := #[{ on := 8, ground := Go.Ground.data }], guard := none }) (v := ?Lv9) [24] rfl (by decide) (by kernel_rfl) (by kernel_rfl) (by kernel_rfl) (by kernel_rfl) (fun _ _ _ h => h) (Or.inl ⟨by rfl, ?Ly9⟩) hHeld ?Lr9
  case Ly9 => (intro w hSw; (try dsimp only at hSw); go_simp; try with_reducible rfl)
  try simp only [Act.put, List.setIfInBounds_toArray, List.set_cons_zero, List.set_cons_succ]
  refine wpAnyT_pure (i := 10) (oi := { dst := some 183, op := Go.Op.move (Go.Operand.tmp 0), type := 60, pos := "work.go:213", after := #[], guard := none }) (v := ?Lv10) rfl (by kernel_rfl) (by kernel_rfl) (by kernel_rfl) (fun _ _ _ h => h) (Or.inl ⟨by rfl, ?Ly10⟩) ?Lr10
  case Ly10 => (intro w; go_simp; try with_reducible rfl)
  try simp only [Act.put, List.setIfInBounds_toArray, List.set_cons_zero, List.set_cons_succ]
  refine wpAnyT_pure (i := 11) (oi := { dst := some 184, op := Go.Op.nilCheck (Go.Operand.tmp 183), type := 0, pos := "work.go:213", after := #[{ on := 10, ground := Go.Ground.data }], guard := none }) (v := ?Lv11) rfl (by kernel_rfl) (by kernel_rfl) (by kernel_rfl) (fun _ _ _ h => h) (Or.inl ⟨by rfl, ?Ly11⟩) ?Lr11
  case Ly11 => (intro w; go_simp; try with_reducible rfl)
  try simp only [Act.put, List.setIfInBounds_toArray, List.set_cons_zero, List.set_cons_succ]
  refine wpAnyT_pure (i := 12) (oi := { dst := some 185, op := Go.Op.fieldAddr 79 (Go.Operand.tmp 184) 7, type := 0, pos := "work.go:213", after := #[{ on := 11, ground := Go.Ground.data }], guard := none }) (v := ?Lv12) rfl (by kernel_rfl) (by kernel_rfl) (by kernel_rfl) (fun _ _ _ h => h) (Or.inl ⟨by rfl, ?Ly12⟩) ?Lr12
  case Ly12 => (intro w; go_simp; try with_reducible rfl)
  try simp only [Act.put, List.setIfInBounds_toArray, List.set_cons_zero, List.set_cons_succ]
  refine wpAnyT_take (i := 13) (oi := { dst := some 186, op := Go.Op.load 5 (Go.Operand.tmp 185), type := 5, pos := "work.go:213", after := #[{ on := 12, ground := Go.Ground.data }], guard := none }) (v := ?Lv13) [24] rfl (by decide) (by kernel_rfl) (by kernel_rfl) (by kernel_rfl) (by kernel_rfl) (fun _ _ _ h => h) (Or.inl ⟨by rfl, ?Ly13⟩) hHeld ?Lr13
  case Ly13 => (intro w hSw; (try dsimp only at hSw); go_simp; try with_reducible rfl)
  try simp only [Act.put, List.setIfInBounds_toArray, List.set_cons_zero, List.set_cons_succ]
  refine wpAnyT_pure (i := 14) (oi := { dst := some 187, op := Go.Op.move (Go.Operand.tmp 4), type := 138, pos := "work.go:213", after := #[], guard := none }) (v := ?Lv14) rfl (by kernel_rfl) (by kernel_rfl) (by kernel_rfl) (fun _ _ _ h => h) (Or.inl ⟨by rfl, ?Ly14⟩) ?Lr14
  case Ly14 => (intro w; go_simp; try with_reducible rfl)
  try simp only [Act.put, List.setIfInBounds_toArray, List.set_cons_zero, List.set_cons_succ]
  refine wpAnyT_pure (i := 15) (oi := { dst := some 188, op := Go.Op.nilCheck (Go.Operand.tmp 187), type := 0, pos := "work.go:213", after := #[{ on := 14, ground := Go.Ground.data }], guard := none }) (v := ?Lv15) rfl (by kernel_rfl) (by kernel_rfl) (by kernel_rfl) (fun _ _ _ h => h) (Or.inl ⟨by rfl, ?Ly15⟩) ?Lr15
  case Ly15 => (intro w; go_simp; try with_reducible rfl)
  try simp only [Act.put, List.setIfInBounds_toArray, List.set_cons_zero, List.set_cons_succ]
  refine wpAnyT_pure (i := 16) (oi := { dst := some 189, op := Go.Op.fieldAddr 31 (Go.Operand.tmp 188) 1, type := 0, pos := "work.go:213", after := #[{ on := 15, ground := Go.Ground.data }], guard := none }) (v := ?Lv16) rfl (by kernel_rfl) (by kernel_rfl) (by kernel_rfl) (fun _ _ _ h => h) (Or.inl ⟨by rfl, ?Ly16⟩) ?Lr16
  case Ly16 => (intro w; go_simp; try with_reducible rfl)
  try simp only [Act.put, List.setIfInBounds_toArray, List.set_cons_zero, List.set_cons_succ]
  refine wpAnyT_take (i := 17) (oi := { dst := some 190, op := Go.Op.load 5 (Go.Operand.tmp 189), type := 5, pos := "work.go:213", after := #[{ on := 16, ground := Go.Ground.data }], guard := none }) (v := ?Lv17) [24] rfl (by decide) (by kernel_rfl) (by kernel_rfl) (by kernel_rfl) (by kernel_rfl) (fun _ _ _ h => h) (Or.inl ⟨by rfl, ?Ly17⟩) hHeld ?Lr17
  case Ly17 => (intro w hSw; (try dsimp only at hSw); go_simp; try with_reducible rfl)
  try simp only [Act.put, List.setIfInBounds_toArray, List.set_cons_zero, List.set_cons_succ]
  refine wpAnyT_one (i := 5) (o := { dst := some 178, op := Go.Op.call { callee := Go.Callee.value (Go.Operand.func 87), args := #[Go.Operand.tmp 177], argTypes := #[5] }, type := 3, pos := "work.go:213", after := #[{ on := 4, ground := Go.Ground.data }], guard := none }) (by kernel_rfl) rfl (by decide) (fun K hK => ?_)
  go_simp
  (first | (go_at_call 87; (try simp only [mk_drew, mk_drewN]); refine Calls.mono (y_any _ _ (by first | assumption | omega) (by first | assumption | omega)) ?_; rintro e W ⟨rfl, rfl⟩) | (go_at_call 175; (try simp only [mk_drew, mk_drewN]); refine Calls.mono (do_any _ _ _ _ _ (by first | assumption | omega) (by first | assumption | omega) (by first | assumption | omega) (by first | assumption | omega) (by first | assumption | omega) (by first | assumption | omega) (by first | assumption | omega)) ?_; rintro e W ⟨rfl, hx⟩; obtain ⟨w1, hx1, hb1, rfl⟩ := lift (by first | assumption | exact Base.drew (by assumption) | exact Base.drewN (by assumption) _ | exact Base.alloc (by assumption) _) hx; clear hx))
  try go_wp2_with fail
  refine hK.out _ _ ?_ (fun hHeld => ?_)
  · (first | exact ⟨cell_0 (by first | assumption | exact Base.drew (by assumption) | exact Base.drewN (by assumption) _ | exact Base.alloc (by assumption) _), cell_32 (by first | assumption | exact Base.drew (by assumption) | exact Base.drewN (by assumption) _ | exact Base.alloc (by assumption) _), cell_36 (by first | assumption | exact Base.drew (by assumption) | exact Base.drewN (by assumption) _ | exact Base.alloc (by assumption) _), cell_1 (by first | assumption | exact Base.drew (by assumption) | exact Base.drewN (by assumption) _ | exact Base.alloc (by assumption) _)⟩ | exact ⟨(by rw [World.cell?_drew]; exact cell_0 (by first | assumption | exact Base.drew (by assumption) | exact Base.drewN (by assumption) _ | exact Base.alloc (by assumption) _)), (by rw [World.cell?_drew]; exact cell_32 (by first | assumption | exact Base.drew (by assumption) | exact Base.drewN (by assumption) _ | exact Base.alloc (by assumption) _)), (by rw [World.cell?_drew]; exact cell_36 (by first | assumption | exact Base.drew (by assumption) | exact Base.drewN (by assumption) _ | exact Base.alloc (by assumption) _)), (by rw [World.cell?_drew]; exact cell_1 (by first | assumption | exact Base.drew (by assumption) | exact Base.drewN (by assumption) _ | exact Base.alloc (by assumption) _))⟩)
  clear hK K
  try simp only [Act.put, List.setIfInBounds_toArray, List.set_cons_zero, List.set_cons_succ]
  refine wpAnyT_one (i := 18) (o := { dst := some 191, op := Go.Op.call { callee := Go.Callee.value (Go.Operand.func 175), args := #[Go.Operand.tmp 178, Go.Operand.tmp 182, Go.Operand.tmp 186, Go.Operand.tmp 190], argTypes := #[3, 5, 5, 5] }, type := 186, pos := "work.go:213", after := #[{ on := 5, ground := Go.Ground.data }, { on := 9, ground := Go.Ground.data }, { on := 13, ground := Go.Ground.data }, { on := 17, ground := Go.Ground.data }, { on := 5, ground := Go.Ground.chain }], guard := none }) (by kernel_rfl) rfl (by decide) (fun K hK => ?_)
  go_simp
  (first | (go_at_call 87; (try simp only [mk_drew, mk_drewN]); refine Calls.mono (y_any _ _ (by first | assumption | omega) (by first | assumption | omega)) ?_; rintro e W ⟨rfl, rfl⟩) | (go_at_call 175; (try simp only [mk_drew, mk_drewN]); refine Calls.mono (do_any _ _ _ _ _ (by first | assumption | omega) (by first | assumption | omega) (by first | assumption | omega) (by first | assumption | omega) (by first | assumption | omega) (by first | assumption | omega) (by first | assumption | omega)) ?_; rintro e W ⟨rfl, hx⟩; obtain ⟨w1, hx1, hb1, rfl⟩ := lift (by first | assumption | exact Base.drew (by assumption) | exact Base.drewN (by assumption) _ | exact Base.alloc (by assumption) _) hx; clear hx))
  try go_wp2_with fail
  refine hK.out _ _ ?_ (fun hHeld => ?_)
  · (first | exact ⟨cell_0 (by first | assumption | exact Base.drew (by assumption) | exact Base.drewN (by assumption) _ | exact Base.alloc (by assumption) _), cell_32 (by first | assumption | exact Base.drew (by assumption) | exact Base.drewN (by assumption) _ | exact Base.alloc (by assumption) _), cell_36 (by first | assumption | exact Base.drew (by assumption) | exact Base.drewN (by assumption) _ | exact Base.alloc (by assumption) _), cell_1 (by first | assumption | exact Base.drew (by assumption) | exact Base.drewN (by assumption) _ | exact Base.alloc (by assumption) _)⟩ | exact ⟨(by rw [World.cell?_drew]; exact cell_0 (by first | assumption | exact Base.drew (by assumption) | exact Base.drewN (by assumption) _ | exact Base.alloc (by assumption) _)), (by rw [World.cell?_drew]; exact cell_32 (by first | assumption | exact Base.drew (by assumption) | exact Base.drewN (by assumption) _ | exact Base.alloc (by assumption) _)), (by rw [World.cell?_drew]; exact cell_36 (by first | assumption | exact Base.drew (by assumption) | exact Base.drewN (by assumption) _ | exact Base.alloc (by assumption) _)), (by rw [World.cell?_drew]; exact cell_1 (by first | assumption | exact Base.drew (by assumption) | exact Base.drewN (by assumption) _ | exact Base.alloc (by assumption) _))⟩)
  clear hK K
  try simp only [Act.put, List.setIfInBounds_toArray, List.set_cons_zero, List.set_cons_succ]
  refine wpAnyT_pure (i := 19) (oi := { dst := some 172, op := Go.Op.move (Go.Operand.tmp 191), type := 186, pos := "work.go:213", after := #[{ on := 18, ground := Go.Ground.data }], guard := none }) (v := ?Lv19) rfl (by kernel_rfl) (by kernel_rfl) (by kernel_rfl) (fun _ _ _ h => h) (Or.inl ⟨by rfl, ?Ly19⟩) ?Lr19
  case Ly19 => (intro w; go_simp; try with_reducible rfl)
  try simp only [Act.put, List.setIfInBounds_toArray, List.set_cons_zero, List.set_cons_succ]
  refine wpAnyT_pure (i := 20) (oi := { dst := some 192, op := Go.Op.extract (Go.Operand.tmp 172) 0, type := 5, pos := "work.go:213", after := #[{ on := 19, ground := Go.Ground.data }], guard := none }) (v := ?Lv20) rfl (by kernel_rfl) (by kernel_rfl) (by kernel_rfl) (fun _ _ _ h => h) (Or.inl ⟨by rfl, ?Ly20⟩) ?Lr20
  case Ly20 => (intro w; go_simp; try with_reducible rfl)
  try simp only [Act.put, List.setIfInBounds_toArray, List.set_cons_zero, List.set_cons_succ]
  refine wpAnyT_pure (i := 21) (oi := { dst := some 193, op := Go.Op.extract (Go.Operand.tmp 172) 1, type := 5, pos := "work.go:213", after := #[{ on := 19, ground := Go.Ground.data }, { on := 24, ground := Go.Ground.gcOnly Go.Departure.lateStores }], guard := none }) (v := ?Lv21) rfl (by kernel_rfl) (by kernel_rfl) (by kernel_rfl) (fun _ _ _ h => h) (Or.inl ⟨by rfl, ?Ly21⟩) ?Lr21
  case Ly21 => (intro w; go_simp; try with_reducible rfl)
  try simp only [Act.put, List.setIfInBounds_toArray, List.set_cons_zero, List.set_cons_succ]
  refine wpAnyT_pure (i := 22) (oi := { dst := some 194, op := Go.Op.nilCheck (Go.Operand.tmp 173), type := 0, pos := "work.go:213", after := #[{ on := 0, ground := Go.Ground.data }, { on := 0, ground := Go.Ground.phase }, { on := 1, ground := Go.Ground.phase }, { on := 2, ground := Go.Ground.phase }, { on := 3, ground := Go.Ground.phase }, { on := 4, ground := Go.Ground.phase }, { on := 5, ground := Go.Ground.phase }, { on := 6, ground := Go.Ground.phase }, { on := 7, ground := Go.Ground.phase }, { on := 8, ground := Go.Ground.phase }, { on := 9, ground := Go.Ground.phase }, { on := 10, ground := Go.Ground.phase }, { on := 11, ground := Go.Ground.phase }, { on := 12, ground := Go.Ground.phase }, { on := 13, ground := Go.Ground.phase }, { on := 14, ground := Go.Ground.phase }, { on := 15, ground := Go.Ground.phase }, { on := 16, ground := Go.Ground.phase }, { on := 17, ground := Go.Ground.phase }, { on := 18, ground := Go.Ground.phase }, { on := 19, ground := Go.Ground.phase }, { on := 20, ground := Go.Ground.phase }, { on := 21, ground := Go.Ground.textOnly Go.Departure.lateStores }], guard := none }) (v := ?Lv22) rfl (by kernel_rfl) (by kernel_rfl) (by kernel_rfl) (fun _ _ _ h => h) (Or.inl ⟨by rfl, ?Ly22⟩) ?Lr22
  case Ly22 => (intro w; go_simp; try with_reducible rfl)
  try simp only [Act.put, List.setIfInBounds_toArray, List.set_cons_zero, List.set_cons_succ]
  refine wpAnyT_pure (i := 23) (oi := { dst := some 195, op := Go.Op.fieldAddr 31 (Go.Operand.tmp 194) 0, type := 0, pos := "work.go:213", after := #[{ on := 22, ground := Go.Ground.data }, { on := 0, ground := Go.Ground.phase }, { on := 1, ground := Go.Ground.phase }, { on := 2, ground := Go.Ground.phase }, { on := 3, ground := Go.Ground.phase }, { on := 4, ground := Go.Ground.phase }, { on := 5, ground := Go.Ground.phase }, { on := 6, ground := Go.Ground.phase }, { on := 7, ground := Go.Ground.phase }, { on := 8, ground := Go.Ground.phase }, { on := 9, ground := Go.Ground.phase }, { on := 10, ground := Go.Ground.phase }, { on := 11, ground := Go.Ground.phase }, { on := 12, ground := Go.Ground.phase }, { on := 13, ground := Go.Ground.phase }, { on := 14, ground := Go.Ground.phase }, { on := 15, ground := Go.Ground.phase }, { on := 16, ground := Go.Ground.phase }, { on := 17, ground := Go.Ground.phase }, { on := 18, ground := Go.Ground.phase }, { on := 19, ground := Go.Ground.phase }, { on := 20, ground := Go.Ground.phase }, { on := 21, ground := Go.Ground.textOnly Go.Departure.lateStores }], guard := none }) (v := ?Lv23) rfl (by kernel_rfl) (by kernel_rfl) (by kernel_rfl) (fun _ _ _ h => h) (Or.inl ⟨by rfl, ?Ly23⟩) ?Lr23
  case Ly23 => (intro w; go_simp; try with_reducible rfl)
  try simp only [Act.put, List.setIfInBounds_toArray, List.set_cons_zero, List.set_cons_succ]
  refine wpAnyT_late (o := { dst := none, op := Go.Op.store 5 (Go.Operand.tmp 195) (Go.Operand.tmp 192), type := 0, pos := "work.go:213", after := #[{ on := 23, ground := Go.Ground.data }, { on := 20, ground := Go.Ground.data }, { on := 18, ground := Go.Ground.chain }, { on := 0, ground := Go.Ground.phase }, { on := 1, ground := Go.Ground.phase }, { on := 2, ground := Go.Ground.phase }, { on := 3, ground := Go.Ground.phase }, { on := 4, ground := Go.Ground.phase }, { on := 5, ground := Go.Ground.phase }, { on := 6, ground := Go.Ground.phase }, { on := 7, ground := Go.Ground.phase }, { on := 8, ground := Go.Ground.phase }, { on := 9, ground := Go.Ground.phase }, { on := 10, ground := Go.Ground.phase }, { on := 11, ground := Go.Ground.phase }, { on := 12, ground := Go.Ground.phase }, { on := 13, ground := Go.Ground.phase }, { on := 14, ground := Go.Ground.phase }, { on := 15, ground := Go.Ground.phase }, { on := 16, ground := Go.Ground.phase }, { on := 17, ground := Go.Ground.phase }, { on := 18, ground := Go.Ground.phase }, { on := 19, ground := Go.Ground.phase }, { on := 20, ground := Go.Ground.phase }, { on := 21, ground := Go.Ground.textOnly Go.Departure.lateStores }], guard := none }) (by kernel_rfl) rfl (fun K hK => ?_)
  go_simp
  refine hK.out _ _ ?_
  clear hK K
  try simp only [Act.put, List.setIfInBounds_toArray, List.set_cons_zero, List.set_cons_succ]
  refine wpAnyT_pure (i := 25) (oi := { dst := some 5, op := Go.Op.assign (Go.Operand.tmp 193), type := 5, pos := "work.go:213", after := #[{ on := 21, ground := Go.Ground.data }, { on := 24, ground := Go.Ground.chain }, { on := 0, ground := Go.Ground.phase }, { on := 1, ground := Go.Ground.phase }, { on := 2, ground := Go.Ground.phase }, { on := 3, ground := Go.Ground.phase }, { on := 4, ground := Go.Ground.phase }, { on := 5, ground := Go.Ground.phase }, { on := 6, ground := Go.Ground.phase }, { on := 7, ground := Go.Ground.phase }, { on := 8, ground := Go.Ground.phase }, { on := 9, ground := Go.Ground.phase }, { on := 10, ground := Go.Ground.phase }, { on := 11, ground := Go.Ground.phase }, { on := 12, ground := Go.Ground.phase }, { on := 13, ground := Go.Ground.phase }, { on := 14, ground := Go.Ground.phase }, { on := 15, ground := Go.Ground.phase }, { on := 16, ground := Go.Ground.phase }, { on := 17, ground := Go.Ground.phase }, { on := 18, ground := Go.Ground.phase }, { on := 19, ground := Go.Ground.phase }, { on := 20, ground := Go.Ground.phase }, { on := 21, ground := Go.Ground.phase }, { on := 22, ground := Go.Ground.phase }, { on := 23, ground := Go.Ground.phase }, { on := 24, ground := Go.Ground.phase }], guard := none }) (v := ?Lv25) rfl (by kernel_rfl) (by kernel_rfl) (by kernel_rfl) (fun _ _ _ h => h) (Or.inl ⟨by rfl, ?Ly25⟩) ?Lr25
  case Ly25 => (intro w; go_simp; try with_reducible rfl)
  try simp only [Act.put, List.setIfInBounds_toArray, List.set_cons_zero, List.set_cons_succ]
  refine wpAnyT_done (by kernel_rfl) ?_ _
  go_wp2_with (go_at_call 121; (try simp only [mk_drew, mk_drewN]); refine Calls.mono (cset_any (by first | assumption | exact Base.drew (by assumption) | exact Base.drewN (by assumption) _ | exact Base.alloc (by assumption) _) _ _ _ _) ?_; rintro e W ⟨rfl, rfl⟩)
  (first | go_end0 | refine bodyPost_ret (results_none rfl _ _ _) rfl ?_)
  refine ⟨rfl, ?_⟩
  rw [HP.out]
  exact Lft.mk' (by first | assumption | exact Base.drew (by assumption) | exact Base.drewN (by assumption) _ | exact Base.alloc (by assumption) _) (by repeat (first | exact Ext.refl _ | assumption | refine Ext.drew' ?_ | refine Ext.drewN' ?_ _ | refine Ext.alloc' ?_ _ | refine Ext.trans ?_ (by assumption)))
set_option maxRecDepth 8000 in
set_option maxHeartbeats 4000000 in
theorem counts_23 (ho : c.Ok) : Calls Tryz.prog 125 #[.pointer (some ⟨m.c, 0, none⟩), .int .i64 23] (mk w m c sl b) fun e W => e = .returned (.tuple #[]) ∧ Lft w m (c.counts 23) sl b W := by
  obtain ⟨code0, code1⟩ := ho.code
  obtain ⟨ix0, ix1⟩ := ho.ix
  obtain ⟨lo0, lo1⟩ := ho.lo
  obtain ⟨hi0, hi1⟩ := ho.hi
  have hg := ho.g
  obtain ⟨cy0, cy1⟩ := cy_bd c.code
  obtain ⟨cz0, cz1⟩ := cz_bd c.code
  obtain ⟨bz0, bz1⟩ := hg.byte (cz c.code) c.ix
  obtain ⟨ra0, ra1⟩ := ho.g.a
  obtain ⟨rf0, rf1⟩ := ho.g.f
  have HP := Lib.hid (show c.counts 23 = _ by simp [Cp.counts]; rfl)
  go_enter Tryz.func125, Tryz.ntmps125
  go_wp2
  refine wp_region_late 31 (fun w' => w'.cell? ⟨m.c, 0, none⟩ = some (.int .u8 c.g.a) ∧ w'.cell? ⟨m.c, 32, none⟩ = some (.int .u8 c.code) ∧ w'.cell? ⟨m.c, 33, none⟩ = some (.int .i64 c.ix) ∧ w'.cell? ⟨m.c, 1, none⟩ = some (.int .u8 c.g.f)) (by kernel_rfl) ⟨(by rw [World.cell?_drew]; exact cell_0 (by first | assumption | exact Base.drew (by assumption) | exact Base.drewN (by assumption) _ | exact Base.alloc (by assumption) _)), (by rw [World.cell?_drew]; exact cell_32 (by first | assumption | exact Base.drew (by assumption) | exact Base.drewN (by assumption) _ | exact Base.alloc (by assumption) _)), (by rw [World.cell?_drew]; exact cell_33 (by first | assumption | exact Base.drew (by assumption) | exact Base.drewN (by assumption) _ | exact Base.alloc (by assumption) _)), (by rw [World.cell?_drew]; exact cell_1 (by first | assumption | exact Base.drew (by assumption) | exact Base.drewN (by assumption) _ | exact Base.alloc (by assumption) _))⟩ (fun hHeld => ?_)
  refine wpAnyT_pure (i := 0) (oi := { dst := some 199, op := Go.Op.move (Go.Operand.tmp 4), type := 138, pos := "work.go:215", after := #[], guard := none }) (v := ?Lv0) rfl (by kernel_rfl) (by kernel_rfl) (by kernel_rfl) (fun _ _ _ h => h) (Or.inl ⟨by rfl, ?Ly0⟩) ?Lr0
  case Ly0 => (intro w; go_simp; try with_reducible rfl)
  try simp only [Act.put, List.setIfInBounds_toArray, List.set_cons_zero, List.set_cons_succ]
  refine wpAnyT_pure (i := 1) (oi := { dst := some 200, op := Go.Op.move (Go.Operand.tmp 0), type := 60, pos := "work.go:215", after := #[], guard := none }) (v := ?Lv1) rfl (by kernel_rfl) (by kernel_rfl) (by kernel_rfl) (fun _ _ _ h => h) (Or.inl ⟨by rfl, ?Ly1⟩) ?Lr1
  case Ly1 => (intro w; go_simp; try with_reducible rfl)
  try simp only [Act.put, List.setIfInBounds_toArray, List.set_cons_zero, List.set_cons_succ]
  refine wpAnyT_pure (i := 2) (oi := { dst := some 201, op := Go.Op.nilCheck (Go.Operand.tmp 200), type := 0, pos := "work.go:215", after := #[{ on := 1, ground := Go.Ground.data }], guard := none }) (v := ?Lv2) rfl (by kernel_rfl) (by kernel_rfl) (by kernel_rfl) (fun _ _ _ h => h) (Or.inl ⟨by rfl, ?Ly2⟩) ?Lr2
  case Ly2 => (intro w; go_simp; try with_reducible rfl)
  try simp only [Act.put, List.setIfInBounds_toArray, List.set_cons_zero, List.set_cons_succ]
  refine wpAnyT_pure (i := 3) (oi := { dst := some 202, op := Go.Op.fieldAddr 79 (Go.Operand.tmp 201) 3, type := 0, pos := "work.go:215", after := #[{ on := 2, ground := Go.Ground.data }], guard := none }) (v := ?Lv3) rfl (by kernel_rfl) (by kernel_rfl) (by kernel_rfl) (fun _ _ _ h => h) (Or.inl ⟨by rfl, ?Ly3⟩) ?Lr3
  case Ly3 => (intro w; go_simp; try with_reducible rfl)
  try simp only [Act.put, List.setIfInBounds_toArray, List.set_cons_zero, List.set_cons_succ]
  refine wpAnyT_take (i := 4) (oi := { dst := some 203, op := Go.Op.load 5 (Go.Operand.tmp 202), type := 5, pos := "work.go:215", after := #[{ on := 3, ground := Go.Ground.data }], guard := none }) (v := ?Lv4) [31] rfl (by decide) (by kernel_rfl) (by kernel_rfl) (by kernel_rfl) (by kernel_rfl) (fun _ _ _ h => h) (Or.inl ⟨by rfl, ?Ly4⟩) hHeld ?Lr4
  case Ly4 => (intro w hSw; (try dsimp only at hSw); go_simp; try with_reducible rfl)
  try simp only [Act.put, List.setIfInBounds_toArray, List.set_cons_zero, List.set_cons_succ]
  refine wpAnyT_pure (i := 6) (oi := { dst := some 205, op := Go.Op.move (Go.Operand.tmp 4), type := 138, pos := "work.go:215", after := #[], guard := none }) (v := ?Lv6) rfl (by kernel_rfl) (by kernel_rfl) (by kernel_rfl) (fun _ _ _ h => h) (Or.inl ⟨by rfl, ?Ly6⟩) ?Lr6
  case Ly6 => (intro w; go_simp; try with_reducible rfl)
  try simp only [Act.put, List.setIfInBounds_toArray, List.set_cons_zero, List.set_cons_succ]
  refine wpAnyT_pure (i := 7) (oi := { dst := some 206, op := Go.Op.nilCheck (Go.Operand.tmp 205), type := 0, pos := "work.go:215", after := #[{ on := 6, ground := Go.Ground.data }], guard := none }) (v := ?Lv7) rfl (by kernel_rfl) (by kernel_rfl) (by kernel_rfl) (fun _ _ _ h => h) (Or.inl ⟨by rfl, ?Ly7⟩) ?Lr7
  case Ly7 => (intro w; go_simp; try with_reducible rfl)
  try simp only [Act.put, List.setIfInBounds_toArray, List.set_cons_zero, List.set_cons_succ]
  refine wpAnyT_pure (i := 8) (oi := { dst := some 207, op := Go.Op.fieldAddr 31 (Go.Operand.tmp 206) 0, type := 0, pos := "work.go:215", after := #[{ on := 7, ground := Go.Ground.data }], guard := none }) (v := ?Lv8) rfl (by kernel_rfl) (by kernel_rfl) (by kernel_rfl) (fun _ _ _ h => h) (Or.inl ⟨by rfl, ?Ly8⟩) ?Lr8
  case Ly8 => (intro w; go_simp; try with_reducible rfl)
  try simp only [Act.put, List.setIfInBounds_toArray, List.set_cons_zero, List.set_cons_succ]
  refine wpAnyT_take (i := 9) (oi := { dst := some 208, op := Go.Op.load 5 (Go.Operand.tmp 207), type := 5, pos := "work.go:215", after := #[{ on := 8, ground := Go.Ground.data }], guard := none }) (v := ?Lv9) [31] rfl (by decide) (by kernel_rfl) (by kernel_rfl) (by kernel_rfl) (by kernel_rfl) (fun _ _ _ h => h) (Or.inl ⟨by rfl, ?Ly9⟩) hHeld ?Lr9
  case Ly9 => (intro w hSw; (try dsimp only at hSw); go_simp; try with_reducible rfl)
  try simp only [Act.put, List.setIfInBounds_toArray, List.set_cons_zero, List.set_cons_succ]
  refine wpAnyT_pure (i := 10) (oi := { dst := some 209, op := Go.Op.move (Go.Operand.tmp 4), type := 138, pos := "work.go:215", after := #[], guard := none }) (v := ?Lv10) rfl (by kernel_rfl) (by kernel_rfl) (by kernel_rfl) (fun _ _ _ h => h) (Or.inl ⟨by rfl, ?Ly10⟩) ?Lr10
  case Ly10 => (intro w; go_simp; try with_reducible rfl)
  try simp only [Act.put, List.setIfInBounds_toArray, List.set_cons_zero, List.set_cons_succ]
  refine wpAnyT_pure (i := 11) (oi := { dst := some 210, op := Go.Op.move (Go.Operand.tmp 0), type := 60, pos := "work.go:215", after := #[], guard := none }) (v := ?Lv11) rfl (by kernel_rfl) (by kernel_rfl) (by kernel_rfl) (fun _ _ _ h => h) (Or.inl ⟨by rfl, ?Ly11⟩) ?Lr11
  case Ly11 => (intro w; go_simp; try with_reducible rfl)
  try simp only [Act.put, List.setIfInBounds_toArray, List.set_cons_zero, List.set_cons_succ]
  refine wpAnyT_pure (i := 12) (oi := { dst := some 211, op := Go.Op.nilCheck (Go.Operand.tmp 210), type := 0, pos := "work.go:215", after := #[{ on := 11, ground := Go.Ground.data }], guard := none }) (v := ?Lv12) rfl (by kernel_rfl) (by kernel_rfl) (by kernel_rfl) (fun _ _ _ h => h) (Or.inl ⟨by rfl, ?Ly12⟩) ?Lr12
  case Ly12 => (intro w; go_simp; try with_reducible rfl)
  try simp only [Act.put, List.setIfInBounds_toArray, List.set_cons_zero, List.set_cons_succ]
  refine wpAnyT_pure (i := 13) (oi := { dst := some 212, op := Go.Op.fieldAddr 79 (Go.Operand.tmp 211) 3, type := 0, pos := "work.go:215", after := #[{ on := 12, ground := Go.Ground.data }], guard := none }) (v := ?Lv13) rfl (by kernel_rfl) (by kernel_rfl) (by kernel_rfl) (fun _ _ _ h => h) (Or.inl ⟨by rfl, ?Ly13⟩) ?Lr13
  case Ly13 => (intro w; go_simp; try with_reducible rfl)
  try simp only [Act.put, List.setIfInBounds_toArray, List.set_cons_zero, List.set_cons_succ]
  refine wpAnyT_take (i := 14) (oi := { dst := some 213, op := Go.Op.load 5 (Go.Operand.tmp 212), type := 5, pos := "work.go:215", after := #[{ on := 13, ground := Go.Ground.data }], guard := none }) (v := ?Lv14) [31] rfl (by decide) (by kernel_rfl) (by kernel_rfl) (by kernel_rfl) (by kernel_rfl) (fun _ _ _ h => h) (Or.inl ⟨by rfl, ?Ly14⟩) hHeld ?Lr14
  case Ly14 => (intro w hSw; (try dsimp only at hSw); go_simp; try with_reducible rfl)
  try simp only [Act.put, List.setIfInBounds_toArray, List.set_cons_zero, List.set_cons_succ]
  refine wpAnyT_pure (i := 16) (oi := { dst := some 215, op := Go.Op.move (Go.Operand.tmp 0), type := 60, pos := "work.go:215", after := #[], guard := none }) (v := ?Lv16) rfl (by kernel_rfl) (by kernel_rfl) (by kernel_rfl) (fun _ _ _ h => h) (Or.inl ⟨by rfl, ?Ly16⟩) ?Lr16
  case Ly16 => (intro w; go_simp; try with_reducible rfl)
  try simp only [Act.put, List.setIfInBounds_toArray, List.set_cons_zero, List.set_cons_succ]
  refine wpAnyT_pure (i := 17) (oi := { dst := some 216, op := Go.Op.nilCheck (Go.Operand.tmp 215), type := 0, pos := "work.go:215", after := #[{ on := 16, ground := Go.Ground.data }], guard := none }) (v := ?Lv17) rfl (by kernel_rfl) (by kernel_rfl) (by kernel_rfl) (fun _ _ _ h => h) (Or.inl ⟨by rfl, ?Ly17⟩) ?Lr17
  case Ly17 => (intro w; go_simp; try with_reducible rfl)
  try simp only [Act.put, List.setIfInBounds_toArray, List.set_cons_zero, List.set_cons_succ]
  refine wpAnyT_pure (i := 18) (oi := { dst := some 217, op := Go.Op.fieldAddr 79 (Go.Operand.tmp 216) 4, type := 0, pos := "work.go:215", after := #[{ on := 17, ground := Go.Ground.data }], guard := none }) (v := ?Lv18) rfl (by kernel_rfl) (by kernel_rfl) (by kernel_rfl) (fun _ _ _ h => h) (Or.inl ⟨by rfl, ?Ly18⟩) ?Lr18
  case Ly18 => (intro w; go_simp; try with_reducible rfl)
  try simp only [Act.put, List.setIfInBounds_toArray, List.set_cons_zero, List.set_cons_succ]
  refine wpAnyT_take (i := 19) (oi := { dst := some 218, op := Go.Op.load 3 (Go.Operand.tmp 217), type := 3, pos := "work.go:215", after := #[{ on := 18, ground := Go.Ground.data }], guard := none }) (v := ?Lv19) [31] rfl (by decide) (by kernel_rfl) (by kernel_rfl) (by kernel_rfl) (by kernel_rfl) (fun _ _ _ h => h) (Or.inl ⟨by rfl, ?Ly19⟩) hHeld ?Lr19
  case Ly19 => (intro w hSw; (try dsimp only at hSw); go_simp; try with_reducible rfl)
  try simp only [Act.put, List.setIfInBounds_toArray, List.set_cons_zero, List.set_cons_succ]
  refine wpAnyT_pure (i := 21) (oi := { dst := some 220, op := Go.Op.move (Go.Operand.tmp 4), type := 138, pos := "work.go:215", after := #[], guard := none }) (v := ?Lv21) rfl (by kernel_rfl) (by kernel_rfl) (by kernel_rfl) (fun _ _ _ h => h) (Or.inl ⟨by rfl, ?Ly21⟩) ?Lr21
  case Ly21 => (intro w; go_simp; try with_reducible rfl)
  try simp only [Act.put, List.setIfInBounds_toArray, List.set_cons_zero, List.set_cons_succ]
  refine wpAnyT_pure (i := 22) (oi := { dst := some 221, op := Go.Op.nilCheck (Go.Operand.tmp 220), type := 0, pos := "work.go:215", after := #[{ on := 21, ground := Go.Ground.data }], guard := none }) (v := ?Lv22) rfl (by kernel_rfl) (by kernel_rfl) (by kernel_rfl) (fun _ _ _ h => h) (Or.inl ⟨by rfl, ?Ly22⟩) ?Lr22
  case Ly22 => (intro w; go_simp; try with_reducible rfl)
  try simp only [Act.put, List.setIfInBounds_toArray, List.set_cons_zero, List.set_cons_succ]
  refine wpAnyT_pure (i := 23) (oi := { dst := some 222, op := Go.Op.fieldAddr 31 (Go.Operand.tmp 221) 1, type := 0, pos := "work.go:215", after := #[{ on := 22, ground := Go.Ground.data }], guard := none }) (v := ?Lv23) rfl (by kernel_rfl) (by kernel_rfl) (by kernel_rfl) (fun _ _ _ h => h) (Or.inl ⟨by rfl, ?Ly23⟩) ?Lr23
  case Ly23 => (intro w; go_simp; try with_reducible rfl)
  try simp only [Act.put, List.setIfInBounds_toArray, List.set_cons_zero, List.set_cons_succ]
  refine wpAnyT_take (i := 24) (oi := { dst := some 223, op := Go.Op.load 5 (Go.Operand.tmp 222), type := 5, pos := "work.go:215", after := #[{ on := 23, ground := Go.Ground.data }], guard := none }) (v := ?Lv24) [31] rfl (by decide) (by kernel_rfl) (by kernel_rfl) (by kernel_rfl) (by kernel_rfl) (fun _ _ _ h => h) (Or.inl ⟨by rfl, ?Ly24⟩) hHeld ?Lr24
  case Ly24 => (intro w hSw; (try dsimp only at hSw); go_simp; try with_reducible rfl)
  try simp only [Act.put, List.setIfInBounds_toArray, List.set_cons_zero, List.set_cons_succ]
  refine wpAnyT_one (i := 5) (o := { dst := some 204, op := Go.Op.call { callee := Go.Callee.value (Go.Operand.func 87), args := #[Go.Operand.tmp 203], argTypes := #[5] }, type := 3, pos := "work.go:215", after := #[{ on := 4, ground := Go.Ground.data }], guard := none }) (by kernel_rfl) rfl (by decide) (fun K hK => ?_)
  go_simp
  (first | (go_at_call 87; (try simp only [mk_drew, mk_drewN]); refine Calls.mono (y_any _ _ (by first | assumption | omega) (by first | assumption | omega)) ?_; rintro e W ⟨rfl, rfl⟩) | (go_at_call 88; (try simp only [mk_drew, mk_drewN]); refine Calls.mono (z_any _ _ (by first | assumption | omega) (by first | assumption | omega)) ?_; rintro e W ⟨rfl, rfl⟩) | (go_at_call 129; (try simp only [mk_drew, mk_drewN]); refine Calls.mono (byte_any (by first | assumption | exact Base.drew (by assumption) | exact Base.drewN (by assumption) _ | exact Base.alloc (by assumption) _) _ _ _ (by assumption) _ _ (by first | assumption | omega) (by first | assumption | omega) (by first | assumption | omega) (by first | assumption | omega)) ?_; rintro e W ⟨rfl, rfl⟩) | (go_at_call 175; (try simp only [mk_drew, mk_drewN]); refine Calls.mono (do_any _ _ _ _ _ (by first | assumption | omega) (by first | assumption | omega) (by first | assumption | omega) (by first | assumption | omega) (by first | assumption | omega) (by first | assumption | omega) (by first | assumption | omega)) ?_; rintro e W ⟨rfl, hx⟩; obtain ⟨w1, hx1, hb1, rfl⟩ := lift (by first | assumption | exact Base.drew (by assumption) | exact Base.drewN (by assumption) _ | exact Base.alloc (by assumption) _) hx; clear hx))
  try go_wp2_with fail
  refine hK.out _ _ ?_ (fun hHeld => ?_)
  · (first | exact ⟨cell_0 (by first | assumption | exact Base.drew (by assumption) | exact Base.drewN (by assumption) _ | exact Base.alloc (by assumption) _), cell_32 (by first | assumption | exact Base.drew (by assumption) | exact Base.drewN (by assumption) _ | exact Base.alloc (by assumption) _), cell_33 (by first | assumption | exact Base.drew (by assumption) | exact Base.drewN (by assumption) _ | exact Base.alloc (by assumption) _), cell_1 (by first | assumption | exact Base.drew (by assumption) | exact Base.drewN (by assumption) _ | exact Base.alloc (by assumption) _)⟩ | exact ⟨(by rw [World.cell?_drew]; exact cell_0 (by first | assumption | exact Base.drew (by assumption) | exact Base.drewN (by assumption) _ | exact Base.alloc (by assumption) _)), (by rw [World.cell?_drew]; exact cell_32 (by first | assumption | exact Base.drew (by assumption) | exact Base.drewN (by assumption) _ | exact Base.alloc (by assumption) _)), (by rw [World.cell?_drew]; exact cell_33 (by first | assumption | exact Base.drew (by assumption) | exact Base.drewN (by assumption) _ | exact Base.alloc (by assumption) _)), (by rw [World.cell?_drew]; exact cell_1 (by first | assumption | exact Base.drew (by assumption) | exact Base.drewN (by assumption) _ | exact Base.alloc (by assumption) _))⟩)
  clear hK K
  try simp only [Act.put, List.setIfInBounds_toArray, List.set_cons_zero, List.set_cons_succ]
  refine wpAnyT_one (i := 15) (o := { dst := some 214, op := Go.Op.call { callee := Go.Callee.value (Go.Operand.func 88), args := #[Go.Operand.tmp 213], argTypes := #[5] }, type := 3, pos := "work.go:215", after := #[{ on := 14, ground := Go.Ground.data }, { on := 5, ground := Go.Ground.chain }], guard := none }) (by kernel_rfl) rfl (by decide) (fun K hK => ?_)
  go_simp
  (first | (go_at_call 87; (try simp only [mk_drew, mk_drewN]); refine Calls.mono (y_any _ _ (by first | assumption | omega) (by first | assumption | omega)) ?_; rintro e W ⟨rfl, rfl⟩) | (go_at_call 88; (try simp only [mk_drew, mk_drewN]); refine Calls.mono (z_any _ _ (by first | assumption | omega) (by first | assumption | omega)) ?_; rintro e W ⟨rfl, rfl⟩) | (go_at_call 129; (try simp only [mk_drew, mk_drewN]); refine Calls.mono (byte_any (by first | assumption | exact Base.drew (by assumption) | exact Base.drewN (by assumption) _ | exact Base.alloc (by assumption) _) _ _ _ (by assumption) _ _ (by first | assumption | omega) (by first | assumption | omega) (by first | assumption | omega) (by first | assumption | omega)) ?_; rintro e W ⟨rfl, rfl⟩) | (go_at_call 175; (try simp only [mk_drew, mk_drewN]); refine Calls.mono (do_any _ _ _ _ _ (by first | assumption | omega) (by first | assumption | omega) (by first | assumption | omega) (by first | assumption | omega) (by first | assumption | omega) (by first | assumption | omega) (by first | assumption | omega)) ?_; rintro e W ⟨rfl, hx⟩; obtain ⟨w1, hx1, hb1, rfl⟩ := lift (by first | assumption | exact Base.drew (by assumption) | exact Base.drewN (by assumption) _ | exact Base.alloc (by assumption) _) hx; clear hx))
  try go_wp2_with fail
  refine hK.out _ _ ?_ (fun hHeld => ?_)
  · (first | exact ⟨cell_0 (by first | assumption | exact Base.drew (by assumption) | exact Base.drewN (by assumption) _ | exact Base.alloc (by assumption) _), cell_32 (by first | assumption | exact Base.drew (by assumption) | exact Base.drewN (by assumption) _ | exact Base.alloc (by assumption) _), cell_33 (by first | assumption | exact Base.drew (by assumption) | exact Base.drewN (by assumption) _ | exact Base.alloc (by assumption) _), cell_1 (by first | assumption | exact Base.drew (by assumption) | exact Base.drewN (by assumption) _ | exact Base.alloc (by assumption) _)⟩ | exact ⟨(by rw [World.cell?_drew]; exact cell_0 (by first | assumption | exact Base.drew (by assumption) | exact Base.drewN (by assumption) _ | exact Base.alloc (by assumption) _)), (by rw [World.cell?_drew]; exact cell_32 (by first | assumption | exact Base.drew (by assumption) | exact Base.drewN (by assumption) _ | exact Base.alloc (by assumption) _)), (by rw [World.cell?_drew]; exact cell_33 (by first | assumption | exact Base.drew (by assumption) | exact Base.drewN (by assumption) _ | exact Base.alloc (by assumption) _)), (by rw [World.cell?_drew]; exact cell_1 (by first | assumption | exact Base.drew (by assumption) | exact Base.drewN (by assumption) _ | exact Base.alloc (by assumption) _))⟩)
  clear hK K
  try simp only [Act.put, List.setIfInBounds_toArray, List.set_cons_zero, List.set_cons_succ]
  refine wpAnyT_one (i := 20) (o := { dst := some 219, op := Go.Op.call { callee := Go.Callee.value (Go.Operand.func 129), args := #[Go.Operand.tmp 209, Go.Operand.tmp 214, Go.Operand.tmp 218], argTypes := #[138, 3, 3] }, type := 5, pos := "work.go:215", after := #[{ on := 10, ground := Go.Ground.data }, { on := 15, ground := Go.Ground.data }, { on := 19, ground := Go.Ground.data }, { on := 15, ground := Go.Ground.chain }], guard := none }) (by kernel_rfl) rfl (by decide) (fun K hK => ?_)
  go_simp
  (first | (go_at_call 87; (try simp only [mk_drew, mk_drewN]); refine Calls.mono (y_any _ _ (by first | assumption | omega) (by first | assumption | omega)) ?_; rintro e W ⟨rfl, rfl⟩) | (go_at_call 88; (try simp only [mk_drew, mk_drewN]); refine Calls.mono (z_any _ _ (by first | assumption | omega) (by first | assumption | omega)) ?_; rintro e W ⟨rfl, rfl⟩) | (go_at_call 129; (try simp only [mk_drew, mk_drewN]); refine Calls.mono (byte_any (by first | assumption | exact Base.drew (by assumption) | exact Base.drewN (by assumption) _ | exact Base.alloc (by assumption) _) _ _ _ (by assumption) _ _ (by first | assumption | omega) (by first | assumption | omega) (by first | assumption | omega) (by first | assumption | omega)) ?_; rintro e W ⟨rfl, rfl⟩) | (go_at_call 175; (try simp only [mk_drew, mk_drewN]); refine Calls.mono (do_any _ _ _ _ _ (by first | assumption | omega) (by first | assumption | omega) (by first | assumption | omega) (by first | assumption | omega) (by first | assumption | omega) (by first | assumption | omega) (by first | assumption | omega)) ?_; rintro e W ⟨rfl, hx⟩; obtain ⟨w1, hx1, hb1, rfl⟩ := lift (by first | assumption | exact Base.drew (by assumption) | exact Base.drewN (by assumption) _ | exact Base.alloc (by assumption) _) hx; clear hx))
  try go_wp2_with fail
  refine hK.out _ _ ?_ (fun hHeld => ?_)
  · (first | exact ⟨cell_0 (by first | assumption | exact Base.drew (by assumption) | exact Base.drewN (by assumption) _ | exact Base.alloc (by assumption) _), cell_32 (by first | assumption | exact Base.drew (by assumption) | exact Base.drewN (by assumption) _ | exact Base.alloc (by assumption) _), cell_33 (by first | assumption | exact Base.drew (by assumption) | exact Base.drewN (by assumption) _ | exact Base.alloc (by assumption) _), cell_1 (by first | assumption | exact Base.drew (by assumption) | exact Base.drewN (by assumption) _ | exact Base.alloc (by assumption) _)⟩ | exact ⟨(by rw [World.cell?_drew]; exact cell_0 (by first | assumption | exact Base.drew (by assumption) | exact Base.drewN (by assumption) _ | exact Base.alloc (by assumption) _)), (by rw [World.cell?_drew]; exact cell_32 (by first | assumption | exact Base.drew (by assumption) | exact Base.drewN (by assumption) _ | exact Base.alloc (by assumption) _)), (by rw [World.cell?_drew]; exact cell_33 (by first | assumption | exact Base.drew (by assumption) | exact Base.drewN (by assumption) _ | exact Base.alloc (by assumption) _)), (by rw [World.cell?_drew]; exact cell_1 (by first | assumption | exact Base.drew (by assumption) | exact Base.drewN (by assumption) _ | exact Base.alloc (by assumption) _))⟩)
  clear hK K
  try simp only [Act.put, List.setIfInBounds_toArray, List.set_cons_zero, List.set_cons_succ]
  refine wpAnyT_one (i := 25) (o := { dst := some 224, op := Go.Op.call { callee := Go.Callee.value (Go.Operand.func 175), args := #[Go.Operand.tmp 204, Go.Operand.tmp 208, Go.Operand.tmp 219, Go.Operand.tmp 223], argTypes := #[3, 5, 5, 5] }, type := 186, pos := "work.go:215", after := #[{ on := 5, ground := Go.Ground.data }, { on := 9, ground := Go.Ground.data }, { on := 20, ground := Go.Ground.data }, { on := 24, ground := Go.Ground.data }, { on := 20, ground := Go.Ground.chain }], guard := none }) (by kernel_rfl) rfl (by decide) (fun K hK => ?_)
  go_simp
  (first | (go_at_call 87; (try simp only [mk_drew, mk_drewN]); refine Calls.mono (y_any _ _ (by first | assumption | omega) (by first | assumption | omega)) ?_; rintro e W ⟨rfl, rfl⟩) | (go_at_call 88; (try simp only [mk_drew, mk_drewN]); refine Calls.mono (z_any _ _ (by first | assumption | omega) (by first | assumption | omega)) ?_; rintro e W ⟨rfl, rfl⟩) | (go_at_call 129; (try simp only [mk_drew, mk_drewN]); refine Calls.mono (byte_any (by first | assumption | exact Base.drew (by assumption) | exact Base.drewN (by assumption) _ | exact Base.alloc (by assumption) _) _ _ _ (by assumption) _ _ (by first | assumption | omega) (by first | assumption | omega) (by first | assumption | omega) (by first | assumption | omega)) ?_; rintro e W ⟨rfl, rfl⟩) | (go_at_call 175; (try simp only [mk_drew, mk_drewN]); refine Calls.mono (do_any _ _ _ _ _ (by first | assumption | omega) (by first | assumption | omega) (by first | assumption | omega) (by first | assumption | omega) (by first | assumption | omega) (by first | assumption | omega) (by first | assumption | omega)) ?_; rintro e W ⟨rfl, hx⟩; obtain ⟨w1, hx1, hb1, rfl⟩ := lift (by first | assumption | exact Base.drew (by assumption) | exact Base.drewN (by assumption) _ | exact Base.alloc (by assumption) _) hx; clear hx))
  try go_wp2_with fail
  refine hK.out _ _ ?_ (fun hHeld => ?_)
  · (first | exact ⟨cell_0 (by first | assumption | exact Base.drew (by assumption) | exact Base.drewN (by assumption) _ | exact Base.alloc (by assumption) _), cell_32 (by first | assumption | exact Base.drew (by assumption) | exact Base.drewN (by assumption) _ | exact Base.alloc (by assumption) _), cell_33 (by first | assumption | exact Base.drew (by assumption) | exact Base.drewN (by assumption) _ | exact Base.alloc (by assumption) _), cell_1 (by first | assumption | exact Base.drew (by assumption) | exact Base.drewN (by assumption) _ | exact Base.alloc (by assumption) _)⟩ | exact ⟨(by rw [World.cell?_drew]; exact cell_0 (by first | assumption | exact Base.drew (by assumption) | exact Base.drewN (by assumption) _ | exact Base.alloc (by assumption) _)), (by rw [World.cell?_drew]; exact cell_32 (by first | assumption | exact Base.drew (by assumption) | exact Base.drewN (by assumption) _ | exact Base.alloc (by assumption) _)), (by rw [World.cell?_drew]; exact cell_33 (by first | assumption | exact Base.drew (by assumption) | exact Base.drewN (by assumption) _ | exact Base.alloc (by assumption) _)), (by rw [World.cell?_drew]; exact cell_1 (by first | assumption | exact Base.drew (by assumption) | exact Base.drewN (by assumption) _ | exact Base.alloc (by assumption) _))⟩)
  clear hK K
  try simp only [Act.put, List.setIfInBounds_toArray, List.set_cons_zero, List.set_cons_succ]
  refine wpAnyT_pure (i := 26) (oi := { dst := some 198, op := Go.Op.move (Go.Operand.tmp 224), type := 186, pos := "work.go:215", after := #[{ on := 25, ground := Go.Ground.data }], guard := none }) (v := ?Lv26) rfl (by kernel_rfl) (by kernel_rfl) (by kernel_rfl) (fun _ _ _ h => h) (Or.inl ⟨by rfl, ?Ly26⟩) ?Lr26
  case Ly26 => (intro w; go_simp; try with_reducible rfl)
  try simp only [Act.put, List.setIfInBounds_toArray, List.set_cons_zero, List.set_cons_succ]
  refine wpAnyT_pure (i := 27) (oi := { dst := some 225, op := Go.Op.extract (Go.Operand.tmp 198) 0, type := 5, pos := "work.go:215", after := #[{ on := 26, ground := Go.Ground.data }], guard := none }) (v := ?Lv27) rfl (by kernel_rfl) (by kernel_rfl) (by kernel_rfl) (fun _ _ _ h => h) (Or.inl ⟨by rfl, ?Ly27⟩) ?Lr27
  case Ly27 => (intro w; go_simp; try with_reducible rfl)
  try simp only [Act.put, List.setIfInBounds_toArray, List.set_cons_zero, List.set_cons_succ]
  refine wpAnyT_pure (i := 28) (oi := { dst := some 226, op := Go.Op.extract (Go.Operand.tmp 198) 1, type := 5, pos := "work.go:215", after := #[{ on := 26, ground := Go.Ground.data }, { on := 31, ground := Go.Ground.gcOnly Go.Departure.lateStores }], guard := none }) (v := ?Lv28) rfl (by kernel_rfl) (by kernel_rfl) (by kernel_rfl) (fun _ _ _ h => h) (Or.inl ⟨by rfl, ?Ly28⟩) ?Lr28
  case Ly28 => (intro w; go_simp; try with_reducible rfl)
  try simp only [Act.put, List.setIfInBounds_toArray, List.set_cons_zero, List.set_cons_succ]
  refine wpAnyT_pure (i := 29) (oi := { dst := some 227, op := Go.Op.nilCheck (Go.Operand.tmp 199), type := 0, pos := "work.go:215", after := #[{ on := 0, ground := Go.Ground.data }, { on := 0, ground := Go.Ground.phase }, { on := 1, ground := Go.Ground.phase }, { on := 2, ground := Go.Ground.phase }, { on := 3, ground := Go.Ground.phase }, { on := 4, ground := Go.Ground.phase }, { on := 5, ground := Go.Ground.phase }, { on := 6, ground := Go.Ground.phase }, { on := 7, ground := Go.Ground.phase }, { on := 8, ground := Go.Ground.phase }, { on := 9, ground := Go.Ground.phase }, { on := 10, ground := Go.Ground.phase }, { on := 11, ground := Go.Ground.phase }, { on := 12, ground := Go.Ground.phase }, { on := 13, ground := Go.Ground.phase }, { on := 14, ground := Go.Ground.phase }, { on := 15, ground := Go.Ground.phase }, { on := 16, ground := Go.Ground.phase }, { on := 17, ground := Go.Ground.phase }, { on := 18, ground := Go.Ground.phase }, { on := 19, ground := Go.Ground.phase }, { on := 20, ground := Go.Ground.phase }, { on := 21, ground := Go.Ground.phase }, { on := 22, ground := Go.Ground.phase }, { on := 23, ground := Go.Ground.phase }, { on := 24, ground := Go.Ground.phase }, { on := 25, ground := Go.Ground.phase }, { on := 26, ground := Go.Ground.phase }, { on := 27, ground := Go.Ground.phase }, { on := 28, ground := Go.Ground.textOnly Go.Departure.lateStores }], guard := none }) (v := ?Lv29) rfl (by kernel_rfl) (by kernel_rfl) (by kernel_rfl) (fun _ _ _ h => h) (Or.inl ⟨by rfl, ?Ly29⟩) ?Lr29
  case Ly29 => (intro w; go_simp; try with_reducible rfl)
  try simp only [Act.put, List.setIfInBounds_toArray, List.set_cons_zero, List.set_cons_succ]
  refine wpAnyT_pure (i := 30) (oi := { dst := some 228, op := Go.Op.fieldAddr 31 (Go.Operand.tmp 227) 0, type := 0, pos := "work.go:215", after := #[{ on := 29, ground := Go.Ground.data }, { on := 0, ground := Go.Ground.phase }, { on := 1, ground := Go.Ground.phase }, { on := 2, ground := Go.Ground.phase }, { on := 3, ground := Go.Ground.phase }, { on := 4, ground := Go.Ground.phase }, { on := 5, ground := Go.Ground.phase }, { on := 6, ground := Go.Ground.phase }, { on := 7, ground := Go.Ground.phase }, { on := 8, ground := Go.Ground.phase }, { on := 9, ground := Go.Ground.phase }, { on := 10, ground := Go.Ground.phase }, { on := 11, ground := Go.Ground.phase }, { on := 12, ground := Go.Ground.phase }, { on := 13, ground := Go.Ground.phase }, { on := 14, ground := Go.Ground.phase }, { on := 15, ground := Go.Ground.phase }, { on := 16, ground := Go.Ground.phase }, { on := 17, ground := Go.Ground.phase }, { on := 18, ground := Go.Ground.phase }, { on := 19, ground := Go.Ground.phase }, { on := 20, ground := Go.Ground.phase }, { on := 21, ground := Go.Ground.phase }, { on := 22, ground := Go.Ground.phase }, { on := 23, ground := Go.Ground.phase }, { on := 24, ground := Go.Ground.phase }, { on := 25, ground := Go.Ground.phase }, { on := 26, ground := Go.Ground.phase }, { on := 27, ground := Go.Ground.phase }, { on := 28, ground := Go.Ground.textOnly Go.Departure.lateStores }], guard := none }) (v := ?Lv30) rfl (by kernel_rfl) (by kernel_rfl) (by kernel_rfl) (fun _ _ _ h => h) (Or.inl ⟨by rfl, ?Ly30⟩) ?Lr30
  case Ly30 => (intro w; go_simp; try with_reducible rfl)
  try simp only [Act.put, List.setIfInBounds_toArray, List.set_cons_zero, List.set_cons_succ]
  refine wpAnyT_late (o := { dst := none, op := Go.Op.store 5 (Go.Operand.tmp 228) (Go.Operand.tmp 225), type := 0, pos := "work.go:215", after := #[{ on := 30, ground := Go.Ground.data }, { on := 27, ground := Go.Ground.data }, { on := 25, ground := Go.Ground.chain }, { on := 0, ground := Go.Ground.phase }, { on := 1, ground := Go.Ground.phase }, { on := 2, ground := Go.Ground.phase }, { on := 3, ground := Go.Ground.phase }, { on := 4, ground := Go.Ground.phase }, { on := 5, ground := Go.Ground.phase }, { on := 6, ground := Go.Ground.phase }, { on := 7, ground := Go.Ground.phase }, { on := 8, ground := Go.Ground.phase }, { on := 9, ground := Go.Ground.phase }, { on := 10, ground := Go.Ground.phase }, { on := 11, ground := Go.Ground.phase }, { on := 12, ground := Go.Ground.phase }, { on := 13, ground := Go.Ground.phase }, { on := 14, ground := Go.Ground.phase }, { on := 15, ground := Go.Ground.phase }, { on := 16, ground := Go.Ground.phase }, { on := 17, ground := Go.Ground.phase }, { on := 18, ground := Go.Ground.phase }, { on := 19, ground := Go.Ground.phase }, { on := 20, ground := Go.Ground.phase }, { on := 21, ground := Go.Ground.phase }, { on := 22, ground := Go.Ground.phase }, { on := 23, ground := Go.Ground.phase }, { on := 24, ground := Go.Ground.phase }, { on := 25, ground := Go.Ground.phase }, { on := 26, ground := Go.Ground.phase }, { on := 27, ground := Go.Ground.phase }, { on := 28, ground := Go.Ground.textOnly Go.Departure.lateStores }], guard := none }) (by kernel_rfl) rfl (fun K hK => ?_)
  go_simp
  refine hK.out _ _ ?_
  clear hK K
  try simp only [Act.put, List.setIfInBounds_toArray, List.set_cons_zero, List.set_cons_succ]
  refine wpAnyT_pure (i := 32) (oi := { dst := some 5, op := Go.Op.assign (Go.Operand.tmp 226), type := 5, pos := "work.go:215", after := #[{ on := 28, ground := Go.Ground.data }, { on := 31, ground := Go.Ground.chain }, { on := 0, ground := Go.Ground.phase }, { on := 1, ground := Go.Ground.phase }, { on := 2, ground := Go.Ground.phase }, { on := 3, ground := Go.Ground.phase }, { on := 4, ground := Go.Ground.phase }, { on := 5, ground := Go.Ground.phase }, { on := 6, ground := Go.Ground.phase }, { on := 7, ground := Go.Ground.phase }, { on := 8, ground := Go.Ground.phase }, { on := 9, ground := Go.Ground.phase }, { on := 10, ground := Go.Ground.phase }, { on := 11, ground := Go.Ground.phase }, { on := 12, ground := Go.Ground.phase }, { on := 13, ground := Go.Ground.phase }, { on := 14, ground := Go.Ground.phase }, { on := 15, ground := Go.Ground.phase }, { on := 16, ground := Go.Ground.phase }, { on := 17, ground := Go.Ground.phase }, { on := 18, ground := Go.Ground.phase }, { on := 19, ground := Go.Ground.phase }, { on := 20, ground := Go.Ground.phase }, { on := 21, ground := Go.Ground.phase }, { on := 22, ground := Go.Ground.phase }, { on := 23, ground := Go.Ground.phase }, { on := 24, ground := Go.Ground.phase }, { on := 25, ground := Go.Ground.phase }, { on := 26, ground := Go.Ground.phase }, { on := 27, ground := Go.Ground.phase }, { on := 28, ground := Go.Ground.phase }, { on := 29, ground := Go.Ground.phase }, { on := 30, ground := Go.Ground.phase }, { on := 31, ground := Go.Ground.phase }], guard := none }) (v := ?Lv32) rfl (by kernel_rfl) (by kernel_rfl) (by kernel_rfl) (fun _ _ _ h => h) (Or.inl ⟨by rfl, ?Ly32⟩) ?Lr32
  case Ly32 => (intro w; go_simp; try with_reducible rfl)
  try simp only [Act.put, List.setIfInBounds_toArray, List.set_cons_zero, List.set_cons_succ]
  refine wpAnyT_done (by kernel_rfl) ?_ _
  go_wp2_with (go_at_call 121; (try simp only [mk_drew, mk_drewN]); refine Calls.mono (cset_any (by first | assumption | exact Base.drew (by assumption) | exact Base.drewN (by assumption) _ | exact Base.alloc (by assumption) _) _ _ _ _) ?_; rintro e W ⟨rfl, rfl⟩)
  (first | go_end0 | refine bodyPost_ret (results_none rfl _ _ _) rfl ?_)
  refine ⟨rfl, ?_⟩
  rw [HP.out]
  exact Lft.mk' (by first | assumption | exact Base.drew (by assumption) | exact Base.drewN (by assumption) _ | exact Base.alloc (by assumption) _) (by repeat (first | exact Ext.refl _ | assumption | refine Ext.drew' ?_ | refine Ext.drewN' ?_ _ | refine Ext.alloc' ?_ _ | refine Ext.trans ?_ (by assumption)))
set_option maxRecDepth 8000 in
set_option maxHeartbeats 4000000 in
theorem blocks_52 (ho : c.Ok) : Calls Tryz.prog 138 #[.pointer (some ⟨m.c, 0, none⟩), .int .i64 52] (mk w m c sl b) fun e W => e = .returned (.tuple #[]) ∧ Lft w m (c.blocks 52) sl b W := by
  obtain ⟨code0, code1⟩ := ho.code
  obtain ⟨ix0, ix1⟩ := ho.ix
  obtain ⟨lo0, lo1⟩ := ho.lo
  obtain ⟨hi0, hi1⟩ := ho.hi
  have hg := ho.g
  obtain ⟨ra0, ra1⟩ := ho.g.a
  obtain ⟨rf0, rf1⟩ := ho.g.f
  obtain ⟨hp0, hp1⟩ := hg.pair 0 0
  obtain ⟨hq0, hq1⟩ := hg.pair 1 0
  obtain ⟨hr0, hr1⟩ := hg.pair 2 0
  have hal : 0 ≤ c.along ∧ c.along ≤ 65535 := by unfold Cp.along; split <;> omega
  obtain ⟨hal0, hal1⟩ := hal
  obtain ⟨w10, w11⟩ := wrap16_bd (c.g.pair 0 0 - 1)
  obtain ⟨w20, w21⟩ := wrap16_bd (c.g.pair 1 0 + c.along)
  obtain ⟨w30, w31⟩ := wrap16_bd (c.g.pair 2 0 + c.along)
  have hk1 := hg.putPair 0 0 _ ⟨w10, w11⟩
  have hk2 := hk1.putPair 1 0 _ ⟨w20, w21⟩
  have HP := Lib.hid (show c.blocks 52 = _ by simp [Cp.blocks]; rfl)
  go_enter Tryz.func138, Tryz.ntmps138
  go_wp2_with (first | (go_at_call 189; (try simp only [mk_drew, mk_drewN]); refine Calls.mono (along_any (by first | assumption | exact Base.drew (by assumption) | exact Base.drewN (by assumption) _ | exact Base.alloc (by assumption) _) _ _ _ (by assumption)) ?_; rintro e W ⟨rfl, rfl⟩) | (go_at_call 82; (try simp only [mk_drew, mk_drewN]); refine Calls.mono (pair_any (by first | assumption | exact Base.drew (by assumption) | exact Base.drewN (by assumption) _ | exact Base.alloc (by assumption) _) _ _ _ (by assumption) _ _ (by first | assumption | omega) (by first | assumption | omega) (by first | assumption | omega) (by first | assumption | omega)) ?_; rintro e W ⟨rfl, n1, rfl⟩) | (go_at_call 117; (try simp only [mk_drew, mk_drewN]); refine Calls.mono (putPair_any (by first | assumption | exact Base.drew (by assumption) | exact Base.drewN (by assumption) _ | exact Base.alloc (by assumption) _) _ _ _ _ _ _ (by first | assumption | omega) (by first | assumption | omega) (by first | assumption | omega) (by first | assumption | omega) (by first | assumption | omega) (by first | assumption | omega)) ?_; rintro e W ⟨rfl, rfl⟩))
  refine wp_region_late 16 (fun w' => w'.cell? ⟨m.c, 0, none⟩ = some (.int .u8 c.g.a) ∧ w'.cell? ⟨m.c, 36, none⟩ = some (.int .u8 c.lo) ∧ w'.cell? ⟨m.c, 1, none⟩ = some (.int .u8 c.g.f)) (by kernel_rfl) ⟨(by rw [World.cell?_drew]; exact cell_0 (by first | assumption | exact Base.drew (by assumption) | exact Base.drewN (by assumption) _ | exact Base.alloc (by assumption) _)), (by rw [World.cell?_drew]; exact cell_36 (by first | assumption | exact Base.drew (by assumption) | exact Base.drewN (by assumption) _ | exact Base.alloc (by assumption) _)), (by rw [World.cell?_drew]; exact cell_1 (by first | assumption | exact Base.drew (by assumption) | exact Base.drewN (by assumption) _ | exact Base.alloc (by assumption) _))⟩ (fun hHeld => ?_)
  refine wpAnyT_pure (i := 0) (oi := { dst := some 80, op := Go.Op.move (Go.Operand.tmp 0), type := 60, pos := "work.go:346", after := #[], guard := none }) (v := ?Lv0) rfl (by kernel_rfl) (by kernel_rfl) (by kernel_rfl) (fun _ _ _ h => h) (Or.inl ⟨by rfl, ?Ly0⟩) ?Lr0
  case Ly0 => (intro w; go_simp; try with_reducible rfl)
  try simp only [Act.put, List.setIfInBounds_toArray, List.set_cons_zero, List.set_cons_succ]
  refine wpAnyT_pure (i := 1) (oi := { dst := some 81, op := Go.Op.move (Go.Operand.tmp 4), type := 138, pos := "work.go:346", after := #[], guard := none }) (v := ?Lv1) rfl (by kernel_rfl) (by kernel_rfl) (by kernel_rfl) (fun _ _ _ h => h) (Or.inl ⟨by rfl, ?Ly1⟩) ?Lr1
  case Ly1 => (intro w; go_simp; try with_reducible rfl)
  try simp only [Act.put, List.setIfInBounds_toArray, List.set_cons_zero, List.set_cons_succ]
  refine wpAnyT_pure (i := 2) (oi := { dst := some 82, op := Go.Op.nilCheck (Go.Operand.tmp 81), type := 0, pos := "work.go:346", after := #[{ on := 1, ground := Go.Ground.data }], guard := none }) (v := ?Lv2) rfl (by kernel_rfl) (by kernel_rfl) (by kernel_rfl) (fun _ _ _ h => h) (Or.inl ⟨by rfl, ?Ly2⟩) ?Lr2
  case Ly2 => (intro w; go_simp; try with_reducible rfl)
  try simp only [Act.put, List.setIfInBounds_toArray, List.set_cons_zero, List.set_cons_succ]
  refine wpAnyT_pure (i := 3) (oi := { dst := some 83, op := Go.Op.fieldAddr 31 (Go.Operand.tmp 82) 0, type := 0, pos := "work.go:346", after := #[{ on := 2, ground := Go.Ground.data }], guard := none }) (v := ?Lv3) rfl (by kernel_rfl) (by kernel_rfl) (by kernel_rfl) (fun _ _ _ h => h) (Or.inl ⟨by rfl, ?Ly3⟩) ?Lr3
  case Ly3 => (intro w; go_simp; try with_reducible rfl)
  try simp only [Act.put, List.setIfInBounds_toArray, List.set_cons_zero, List.set_cons_succ]
  refine wpAnyT_take (i := 4) (oi := { dst := some 84, op := Go.Op.load 5 (Go.Operand.tmp 83), type := 5, pos := "work.go:346", after := #[{ on := 3, ground := Go.Ground.data }], guard := none }) (v := ?Lv4) [15, 16] rfl (by decide) (by kernel_rfl) (by kernel_rfl) (by kernel_rfl) (by kernel_rfl) (fun _ _ _ h => h) (Or.inl ⟨by rfl, ?Ly4⟩) hHeld ?Lr4
  case Ly4 => (intro w hSw; (try dsimp only at hSw); go_simp; try with_reducible rfl)
  try simp only [Act.put, List.setIfInBounds_toArray, List.set_cons_zero, List.set_cons_succ]
  refine wpAnyT_pure (i := 5) (oi := { dst := some 85, op := Go.Op.move (Go.Operand.tmp 0), type := 60, pos := "work.go:346", after := #[], guard := none }) (v := ?Lv5) rfl (by kernel_rfl) (by kernel_rfl) (by kernel_rfl) (fun _ _ _ h => h) (Or.inl ⟨by rfl, ?Ly5⟩) ?Lr5
  case Ly5 => (intro w; go_simp; try with_reducible rfl)
  try simp only [Act.put, List.setIfInBounds_toArray, List.set_cons_zero, List.set_cons_succ]
  refine wpAnyT_pure (i := 6) (oi := { dst := some 86, op := Go.Op.nilCheck (Go.Operand.tmp 85), type := 0, pos := "work.go:346", after := #[{ on := 5, ground := Go.Ground.data }], guard := none }) (v := ?Lv6) rfl (by kernel_rfl) (by kernel_rfl) (by kernel_rfl) (fun _ _ _ h => h) (Or.inl ⟨by rfl, ?Ly6⟩) ?Lr6
  case Ly6 => (intro w; go_simp; try with_reducible rfl)
  try simp only [Act.put, List.setIfInBounds_toArray, List.set_cons_zero, List.set_cons_succ]
  refine wpAnyT_pure (i := 7) (oi := { dst := some 87, op := Go.Op.fieldAddr 79 (Go.Operand.tmp 86) 7, type := 0, pos := "work.go:346", after := #[{ on := 6, ground := Go.Ground.data }], guard := none }) (v := ?Lv7) rfl (by kernel_rfl) (by kernel_rfl) (by kernel_rfl) (fun _ _ _ h => h) (Or.inl ⟨by rfl, ?Ly7⟩) ?Lr7
  case Ly7 => (intro w; go_simp; try with_reducible rfl)
  try simp only [Act.put, List.setIfInBounds_toArray, List.set_cons_zero, List.set_cons_succ]
  refine wpAnyT_take (i := 8) (oi := { dst := some 88, op := Go.Op.load 5 (Go.Operand.tmp 87), type := 5, pos := "work.go:346", after := #[{ on := 7, ground := Go.Ground.data }], guard := none }) (v := ?Lv8) [15, 16] rfl (by decide) (by kernel_rfl) (by kernel_rfl) (by kernel_rfl) (by kernel_rfl) (fun _ _ _ h => h) (Or.inl ⟨by rfl, ?Ly8⟩) hHeld ?Lr8
  case Ly8 => (intro w hSw; (try dsimp only at hSw); go_simp; try with_reducible rfl)
  try simp only [Act.put, List.setIfInBounds_toArray, List.set_cons_zero, List.set_cons_succ]
  refine wpAnyT_pure (i := 9) (oi := { dst := some 89, op := Go.Op.move (Go.Operand.tmp 6), type := 24, pos := "work.go:346", after := #[], guard := none }) (v := ?Lv9) rfl (by kernel_rfl) (by kernel_rfl) (by kernel_rfl) (fun _ _ _ h => h) (Or.inl ⟨by rfl, ?Ly9⟩) ?Lr9
  case Ly9 => (intro w; go_simp; try with_reducible rfl)
  try simp only [Act.put, List.setIfInBounds_toArray, List.set_cons_zero, List.set_cons_succ]
  refine wpAnyT_pure (i := 10) (oi := { dst := some 90, op := Go.Op.binOp Go.BinOp.sub 24 (Go.Operand.tmp 89) (Go.Operand.const (Go.Value.int Go.IntKind.u16 1)) 24, type := 24, pos := "work.go:346", after := #[{ on := 9, ground := Go.Ground.data }], guard := none }) (v := ?Lv10) rfl (by kernel_rfl) (by kernel_rfl) (by kernel_rfl) (fun _ _ _ h => h) (Or.inl ⟨by rfl, ?Ly10⟩) ?Lr10
  case Ly10 => (intro w; go_simp; try with_reducible rfl)
  try simp only [Act.put, List.setIfInBounds_toArray, List.set_cons_zero, List.set_cons_succ]
  refine wpAnyT_pure (i := 11) (oi := { dst := some 91, op := Go.Op.move (Go.Operand.tmp 4), type := 138, pos := "work.go:346", after := #[], guard := none }) (v := ?Lv11) rfl (by kernel_rfl) (by kernel_rfl) (by kernel_rfl) (fun _ _ _ h => h) (Or.inl ⟨by rfl, ?Ly11⟩) ?Lr11
  case Ly11 => (intro w; go_simp; try with_reducible rfl)
  try simp only [Act.put, List.setIfInBounds_toArray, List.set_cons_zero, List.set_cons_succ]
  refine wpAnyT_pure (i := 12) (oi := { dst := some 92, op := Go.Op.nilCheck (Go.Operand.tmp 91), type := 0, pos := "work.go:346", after := #[{ on := 11, ground := Go.Ground.data }], guard := none }) (v := ?Lv12) rfl (by kernel_rfl) (by kernel_rfl) (by kernel_rfl) (fun _ _ _ h => h) (Or.inl ⟨by rfl, ?Ly12⟩) ?Lr12
  case Ly12 => (intro w; go_simp; try with_reducible rfl)
  try simp only [Act.put, List.setIfInBounds_toArray, List.set_cons_zero, List.set_cons_succ]
  refine wpAnyT_pure (i := 13) (oi := { dst := some 93, op := Go.Op.fieldAddr 31 (Go.Operand.tmp 92) 1, type := 0, pos := "work.go:346", after := #[{ on := 12, ground := Go.Ground.data }], guard := none }) (v := ?Lv13) rfl (by kernel_rfl) (by kernel_rfl) (by kernel_rfl) (fun _ _ _ h => h) (Or.inl ⟨by rfl, ?Ly13⟩) ?Lr13
  case Ly13 => (intro w; go_simp; try with_reducible rfl)
  try simp only [Act.put, List.setIfInBounds_toArray, List.set_cons_zero, List.set_cons_succ]
  refine wpAnyT_take (i := 14) (oi := { dst := some 94, op := Go.Op.load 5 (Go.Operand.tmp 93), type := 5, pos := "work.go:346", after := #[{ on := 13, ground := Go.Ground.data }], guard := none }) (v := ?Lv14) [15, 16] rfl (by decide) (by kernel_rfl) (by kernel_rfl) (by kernel_rfl) (by kernel_rfl) (fun _ _ _ h => h) (Or.inl ⟨by rfl, ?Ly14⟩) hHeld ?Lr14
  case Ly14 => (intro w hSw; (try dsimp only at hSw); go_simp; try with_reducible rfl)
  try simp only [Act.put, List.setIfInBounds_toArray, List.set_cons_zero, List.set_cons_succ]
  refine wpAnyT_one (i := 15) (o := { dst := some 95, op := Go.Op.call { callee := Go.Callee.value (Go.Operand.func 190), args := #[Go.Operand.tmp 84, Go.Operand.tmp 88, Go.Operand.tmp 90, Go.Operand.tmp 94], argTypes := #[5, 5, 24, 5] }, type := 5, pos := "work.go:346", after := #[{ on := 4, ground := Go.Ground.data }, { on := 8, ground := Go.Ground.data }, { on := 10, ground := Go.Ground.data }, { on := 14, ground := Go.Ground.data }], guard := none }) (by kernel_rfl) rfl (by decide) (fun K hK => ?_)
  go_simp
  (first | (go_at_call 190; (try simp only [mk_drew, mk_drewN]); refine Calls.mono (copy_any _ _ _ _ _ (by first | assumption | omega) (by first | assumption | omega) (by first | assumption | omega) (by first | assumption | omega)) ?_; rintro e W ⟨rfl, rfl⟩) | (go_at_call 121; (try simp only [mk_drew, mk_drewN]); refine Calls.mono (cset_any (by first | assumption | exact Base.drew (by assumption) | exact Base.drewN (by assumption) _ | exact Base.alloc (by assumption) _) _ _ _ _) ?_; rintro e W ⟨rfl, rfl⟩))
  try go_wp2_with fail
  refine hK.out _ _ ?_ (fun hHeld => ?_)
  · (first | exact ⟨cell_0 (by first | assumption | exact Base.drew (by assumption) | exact Base.drewN (by assumption) _ | exact Base.alloc (by assumption) _), cell_36 (by first | assumption | exact Base.drew (by assumption) | exact Base.drewN (by assumption) _ | exact Base.alloc (by assumption) _), cell_1 (by first | assumption | exact Base.drew (by assumption) | exact Base.drewN (by assumption) _ | exact Base.alloc (by assumption) _)⟩ | exact ⟨(by rw [World.cell?_drew]; exact cell_0 (by first | assumption | exact Base.drew (by assumption) | exact Base.drewN (by assumption) _ | exact Base.alloc (by assumption) _)), (by rw [World.cell?_drew]; exact cell_36 (by first | assumption | exact Base.drew (by assumption) | exact Base.drewN (by assumption) _ | exact Base.alloc (by assumption) _)), (by rw [World.cell?_drew]; exact cell_1 (by first | assumption | exact Base.drew (by assumption) | exact Base.drewN (by assumption) _ | exact Base.alloc (by assumption) _))⟩)
  clear hK K
  try simp only [Act.put, List.setIfInBounds_toArray, List.set_cons_zero, List.set_cons_succ]
  refine wpAnyT_late (o := { dst := some 96, op := Go.Op.call { callee := Go.Callee.value (Go.Operand.func 121), args := #[Go.Operand.tmp 80, Go.Operand.tmp 95], argTypes := #[60, 5] }, type := 0, pos := "work.go:346", after := #[{ on := 0, ground := Go.Ground.data }, { on := 15, ground := Go.Ground.data }, { on := 15, ground := Go.Ground.chain }], guard := none }) (by kernel_rfl) rfl (fun K hK => ?_)
  go_simp
  (first | (go_at_call 190; (try simp only [mk_drew, mk_drewN]); refine Calls.mono (copy_any _ _ _ _ _ (by first | assumption | omega) (by first | assumption | omega) (by first | assumption | omega) (by first | assumption | omega)) ?_; rintro e W ⟨rfl, rfl⟩) | (go_at_call 121; (try simp only [mk_drew, mk_drewN]); refine Calls.mono (cset_any (by first | assumption | exact Base.drew (by assumption) | exact Base.drewN (by assumption) _ | exact Base.alloc (by assumption) _) _ _ _ _) ?_; rintro e W ⟨rfl, rfl⟩))
  try go_wp2_with fail
  refine hK.out _ _ ?_
  clear hK K
  try simp only [Act.put, List.setIfInBounds_toArray, List.set_cons_zero, List.set_cons_succ]
  refine wpAnyT_done (by kernel_rfl) ?_ _
  go_wp2
  (first | go_end0 | refine bodyPost_ret (results_none rfl _ _ _) rfl ?_)
  refine ⟨rfl, ?_⟩
  rw [HP.out, copied_eq]
  exact Lft.mk' (by first | assumption | exact Base.drew (by assumption) | exact Base.drewN (by assumption) _ | exact Base.alloc (by assumption) _) (by repeat (first | exact Ext.refl _ | assumption | refine Ext.drew' ?_ | refine Ext.drewN' ?_ _ | refine Ext.alloc' ?_ _ | refine Ext.trans ?_ (by assumption)))
set_option maxRecDepth 8000 in
set_option maxHeartbeats 4000000 in
theorem blocks_57 (ho : c.Ok) : Calls Tryz.prog 138 #[.pointer (some ⟨m.c, 0, none⟩), .int .i64 57] (mk w m c sl b) fun e W => e = .returned (.tuple #[]) ∧ Lft w m (c.blocks 57) sl b W := by
  obtain ⟨code0, code1⟩ := ho.code
  obtain ⟨ix0, ix1⟩ := ho.ix
  obtain ⟨lo0, lo1⟩ := ho.lo
  obtain ⟨hi0, hi1⟩ := ho.hi
  have hg := ho.g
  obtain ⟨rf0, rf1⟩ := ho.g.f
  obtain ⟨rpc0, rpc1⟩ := ho.g.pc
  obtain ⟨hp0, hp1⟩ := hg.pair 0 0
  obtain ⟨ag0, ag1⟩ := wrap16_bd (c.g.pc - 2)
  have HP := Lib.hid (show c.blocks 57 = _ by simp [Cp.blocks]; rfl)
  go_enter Tryz.func138, Tryz.ntmps138
  go_wp2_with (first | (go_at_call 189; (try simp only [mk_drew, mk_drewN]); refine Calls.mono (along_any (by first | assumption | exact Base.drew (by assumption) | exact Base.drewN (by assumption) _ | exact Base.alloc (by assumption) _) _ _ _ (by assumption)) ?_; rintro e W ⟨rfl, rfl⟩) | (go_at_call 82; (try simp only [mk_drew, mk_drewN]); refine Calls.mono (pair_any (by first | assumption | exact Base.drew (by assumption) | exact Base.drewN (by assumption) _ | exact Base.alloc (by assumption) _) _ _ _ (by assumption) _ _ (by first | assumption | omega) (by first | assumption | omega) (by first | assumption | omega) (by first | assumption | omega)) ?_; rintro e W ⟨rfl, n1, rfl⟩) | (go_at_call 193; (try simp only [mk_drew, mk_drewN]); refine Calls.mono (cagain_any (by first | assumption | exact Base.drew (by assumption) | exact Base.drewN (by assumption) _ | exact Base.alloc (by assumption) _) _ _ _ (by assumption)) ?_; rintro e W ⟨rfl, w1, hx1, hb1, rfl⟩))
  refine wp_region_late 10 (fun w' => w'.cell? ⟨m.c, 1, none⟩ = some (.int .u8 c.again.g.f) ∧ w'.cell? ⟨m.c, 22, none⟩ = some (.int .u16 c.again.g.pc)) (by kernel_rfl) ⟨(by rw [World.cell?_drew]; exact cell_1 (by first | assumption | exact Base.drew (by assumption) | exact Base.drewN (by assumption) _ | exact Base.alloc (by assumption) _)), (by rw [World.cell?_drew]; exact cell_22 (by first | assumption | exact Base.drew (by assumption) | exact Base.drewN (by assumption) _ | exact Base.alloc (by assumption) _))⟩ (fun hHeld => ?_)
  refine wpAnyT_pure (i := 0) (oi := { dst := some 215, op := Go.Op.move (Go.Operand.tmp 0), type := 60, pos := "work.go:365", after := #[], guard := none }) (v := ?Lv0) rfl (by kernel_rfl) (by kernel_rfl) (by kernel_rfl) (fun _ _ _ h => h) (Or.inl ⟨by rfl, ?Ly0⟩) ?Lr0
  case Ly0 => (intro w; go_simp; try with_reducible rfl)
  try simp only [Act.put, List.setIfInBounds_toArray, List.set_cons_zero, List.set_cons_succ]
  refine wpAnyT_pure (i := 1) (oi := { dst := some 216, op := Go.Op.move (Go.Operand.tmp 4), type := 138, pos := "work.go:365", after := #[], guard := none }) (v := ?Lv1) rfl (by kernel_rfl) (by kernel_rfl) (by kernel_rfl) (fun _ _ _ h => h) (Or.inl ⟨by rfl, ?Ly1⟩) ?Lr1
  case Ly1 => (intro w; go_simp; try with_reducible rfl)
  try simp only [Act.put, List.setIfInBounds_toArray, List.set_cons_zero, List.set_cons_succ]
  refine wpAnyT_pure (i := 2) (oi := { dst := some 217, op := Go.Op.nilCheck (Go.Operand.tmp 216), type := 0, pos := "work.go:365", after := #[{ on := 1, ground := Go.Ground.data }], guard := none }) (v := ?Lv2) rfl (by kernel_rfl) (by kernel_rfl) (by kernel_rfl) (fun _ _ _ h => h) (Or.inl ⟨by rfl, ?Ly2⟩) ?Lr2
  case Ly2 => (intro w; go_simp; try with_reducible rfl)
  try simp only [Act.put, List.setIfInBounds_toArray, List.set_cons_zero, List.set_cons_succ]
  refine wpAnyT_pure (i := 3) (oi := { dst := some 218, op := Go.Op.fieldAddr 31 (Go.Operand.tmp 217) 1, type := 0, pos := "work.go:365", after := #[{ on := 2, ground := Go.Ground.data }], guard := none }) (v := ?Lv3) rfl (by kernel_rfl) (by kernel_rfl) (by kernel_rfl) (fun _ _ _ h => h) (Or.inl ⟨by rfl, ?Ly3⟩) ?Lr3
  case Ly3 => (intro w; go_simp; try with_reducible rfl)
  try simp only [Act.put, List.setIfInBounds_toArray, List.set_cons_zero, List.set_cons_succ]
  refine wpAnyT_take (i := 4) (oi := { dst := some 219, op := Go.Op.load 5 (Go.Operand.tmp 218), type := 5, pos := "work.go:365", after := #[{ on := 3, ground := Go.Ground.data }], guard := none }) (v := ?Lv4) [9, 10] rfl (by decide) (by kernel_rfl) (by kernel_rfl) (by kernel_rfl) (by kernel_rfl) (fun _ _ _ h => h) (Or.inl ⟨by rfl, ?Ly4⟩) hHeld ?Lr4
  case Ly4 => (intro w hSw; (try dsimp only at hSw); go_simp; try with_reducible rfl)
  try simp only [Act.put, List.setIfInBounds_toArray, List.set_cons_zero, List.set_cons_succ]
  refine wpAnyT_pure (i := 5) (oi := { dst := some 220, op := Go.Op.move (Go.Operand.tmp 4), type := 138, pos := "work.go:365", after := #[], guard := none }) (v := ?Lv5) rfl (by kernel_rfl) (by kernel_rfl) (by kernel_rfl) (fun _ _ _ h => h) (Or.inl ⟨by rfl, ?Ly5⟩) ?Lr5
  case Ly5 => (intro w; go_simp; try with_reducible rfl)
  try simp only [Act.put, List.setIfInBounds_toArray, List.set_cons_zero, List.set_cons_succ]
  refine wpAnyT_pure (i := 6) (oi := { dst := some 221, op := Go.Op.nilCheck (Go.Operand.tmp 220), type := 0, pos := "work.go:365", after := #[{ on := 5, ground := Go.Ground.data }], guard := none }) (v := ?Lv6) rfl (by kernel_rfl) (by kernel_rfl) (by kernel_rfl) (fun _ _ _ h => h) (Or.inl ⟨by rfl, ?Ly6⟩) ?Lr6
  case Ly6 => (intro w; go_simp; try with_reducible rfl)
  try simp only [Act.put, List.setIfInBounds_toArray, List.set_cons_zero, List.set_cons_succ]
  refine wpAnyT_pure (i := 7) (oi := { dst := some 222, op := Go.Op.fieldAddr 31 (Go.Operand.tmp 221) 22, type := 0, pos := "work.go:365", after := #[{ on := 6, ground := Go.Ground.data }], guard := none }) (v := ?Lv7) rfl (by kernel_rfl) (by kernel_rfl) (by kernel_rfl) (fun _ _ _ h => h) (Or.inl ⟨by rfl, ?Ly7⟩) ?Lr7
  case Ly7 => (intro w; go_simp; try with_reducible rfl)
  try simp only [Act.put, List.setIfInBounds_toArray, List.set_cons_zero, List.set_cons_succ]
  refine wpAnyT_take (i := 8) (oi := { dst := some 223, op := Go.Op.load 24 (Go.Operand.tmp 222), type := 24, pos := "work.go:365", after := #[{ on := 7, ground := Go.Ground.data }], guard := none }) (v := ?Lv8) [9, 10] rfl (by decide) (by kernel_rfl) (by kernel_rfl) (by kernel_rfl) (by kernel_rfl) (fun _ _ _ h => h) (Or.inl ⟨by rfl, ?Ly8⟩) hHeld ?Lr8
  case Ly8 => (intro w hSw; (try dsimp only at hSw); go_simp; try with_reducible rfl)
  try simp only [Act.put, List.setIfInBounds_toArray, List.set_cons_zero, List.set_cons_succ]
  refine wpAnyT_one (i := 9) (o := { dst := some 224, op := Go.Op.call { callee := Go.Callee.value (Go.Operand.func 194), args := #[Go.Operand.tmp 219, Go.Operand.tmp 223], argTypes := #[5, 24] }, type := 5, pos := "work.go:365", after := #[{ on := 4, ground := Go.Ground.data }, { on := 8, ground := Go.Ground.data }], guard := none }) (by kernel_rfl) rfl (by decide) (fun K hK => ?_)
  go_simp
  (first | (go_at_call 194; (try simp only [mk_drew, mk_drewN]); refine Calls.mono (again_any _ _ _ (by first | assumption | omega) (by first | assumption | omega)) ?_; rintro e W ⟨rfl, rfl⟩) | (go_at_call 121; (try simp only [mk_drew, mk_drewN]); refine Calls.mono (cset_any (by first | assumption | exact Base.drew (by assumption) | exact Base.drewN (by assumption) _ | exact Base.alloc (by assumption) _) _ _ _ _) ?_; rintro e W ⟨rfl, rfl⟩))
  try go_wp2_with fail
  refine hK.out _ _ ?_ (fun hHeld => ?_)
  · (first | exact ⟨cell_1 (by first | assumption | exact Base.drew (by assumption) | exact Base.drewN (by assumption) _ | exact Base.alloc (by assumption) _), cell_22 (by first | assumption | exact Base.drew (by assumption) | exact Base.drewN (by assumption) _ | exact Base.alloc (by assumption) _)⟩ | exact ⟨(by rw [World.cell?_drew]; exact cell_1 (by first | assumption | exact Base.drew (by assumption) | exact Base.drewN (by assumption) _ | exact Base.alloc (by assumption) _)), (by rw [World.cell?_drew]; exact cell_22 (by first | assumption | exact Base.drew (by assumption) | exact Base.drewN (by assumption) _ | exact Base.alloc (by assumption) _))⟩)
  clear hK K
  try simp only [Act.put, List.setIfInBounds_toArray, List.set_cons_zero, List.set_cons_succ]
  refine wpAnyT_late (o := { dst := some 225, op := Go.Op.call { callee := Go.Callee.value (Go.Operand.func 121), args := #[Go.Operand.tmp 215, Go.Operand.tmp 224], argTypes := #[60, 5] }, type := 0, pos := "work.go:365", after := #[{ on := 0, ground := Go.Ground.data }, { on := 9, ground := Go.Ground.data }, { on := 9, ground := Go.Ground.chain }], guard := none }) (by kernel_rfl) rfl (fun K hK => ?_)
  go_simp
  (first | (go_at_call 194; (try simp only [mk_drew, mk_drewN]); refine Calls.mono (again_any _ _ _ (by first | assumption | omega) (by first | assumption | omega)) ?_; rintro e W ⟨rfl, rfl⟩) | (go_at_call 121; (try simp only [mk_drew, mk_drewN]); refine Calls.mono (cset_any (by first | assumption | exact Base.drew (by assumption) | exact Base.drewN (by assumption) _ | exact Base.alloc (by assumption) _) _ _ _ _) ?_; rintro e W ⟨rfl, rfl⟩))
  try go_wp2_with fail
  refine hK.out _ _ ?_
  clear hK K
  try simp only [Act.put, List.setIfInBounds_toArray, List.set_cons_zero, List.set_cons_succ]
  refine wpAnyT_done (by kernel_rfl) ?_ _
  go_wp2
  (first | go_end0 | refine bodyPost_ret (results_none rfl _ _ _) rfl ?_)
  refine ⟨rfl, ?_⟩
  rw [HP.out]
  exact Lft.mk' (by first | assumption | exact Base.drew (by assumption) | exact Base.drewN (by assumption) _ | exact Base.alloc (by assumption) _) (by repeat (first | exact Ext.refl _ | assumption | refine Ext.drew' ?_ | refine Ext.drewN' ?_ _ | refine Ext.alloc' ?_ _ | refine Ext.trans ?_ (by assumption)))
end
end Go.Proofs.YtneganpbamemmaaGreat
