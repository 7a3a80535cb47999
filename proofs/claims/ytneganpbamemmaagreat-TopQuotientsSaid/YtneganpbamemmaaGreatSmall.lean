/- The laws' small words. -/
import Derived.Test.YtneganpbamemmaaGreatMachs
import Derived.Lib.EndianBits
set_option linter.unusedVariables false
set_option linter.unusedSimpArgs false
set_option linter.unusedSectionVars false
namespace Sq
open Go
/-- A machine on which a program is put. -/
structure Spot where
  slow : Bool
  held : Bool
  phase : Int
def Spot.cells (x : Spot) : Array Value := #[.bool x.slow, .bool x.held, .int .i64 x.phase]
def Spot.org (x : Spot) : Nat := if x.held then 24576 else 32768
theorem Spot.org_cases (x : Spot) : x.org = 24576 ∨ x.org = 32768 := by unfold Spot.org; cases x.held <;> simp
end Sq
namespace Go.Proofs.YtneganpbamemmaaGreat
open Go Go.RowKit Sq
theorem low_any_ (v : Int) (w : World) : Calls Tryz.prog 13 #[.int .u16 v] w fun e w' => e = .returned (.int .u8 (v % 256)) ∧ w = w' := by
  go_enter Tryz.func13, Tryz.ntmps13
  go_wp2
  go_ret
  exact ⟨rfl, rfl⟩
theorem high_any_ (v : Int) (h0 : 0 ≤ v) (h1 : v < 65536) (w : World) : Calls Tryz.prog 12 #[.int .u16 v] w fun e w' => e = .returned (.int .u8 (v / 256)) ∧ w = w' := by
  go_enter Tryz.func12, Tryz.ntmps12
  go_wp2
  go_ret
  exact ⟨rfl, rfl⟩
theorem pair_any_ (h l : Int) (h0 : 0 ≤ h) (h1 : h < 256) (l0 : 0 ≤ l) (l1 : l < 256) (w : World) : Calls Tryz.prog 16 #[.int .u8 h, .int .u8 l] w fun e w' => e = .returned (.int .u16 (h * 256 + l)) ∧ w = w' := by
  go_enter Tryz.func16, Tryz.ntmps16
  go_wp2
  go_ret
  have e : bits BinOp.or IntKind.u16 (h * 256) l = h * 256 + l := bits_join .u16 16 (by decide) wraps_u16 8 _ _ (by omega) (by show h * 256 % 256 = 0; omega) (by show h * 256 < 65536; omega) l0 l1 (by show l < 65536; omega)
  rw [e]
  exact ⟨rfl, rfl⟩
theorem org_any_ (x : Spot) (w : World) : Calls Tryz.prog 17 #[.agg x.cells] w fun e w' => e = .returned (.int .u16 x.org) ∧ w.alloc (.cells x.cells 23) = w' := by
  obtain ⟨s, h, p⟩ := x
  cases h
  all_goals
    unfold Spot.cells
    go_enter Tryz.func17, Tryz.ntmps17
    go_wp2
    go_ret
    exact ⟨rfl, rfl⟩
end Go.Proofs.YtneganpbamemmaaGreat
