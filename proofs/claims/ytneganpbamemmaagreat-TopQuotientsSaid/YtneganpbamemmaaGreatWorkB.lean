/- Bounds that the works' walks ask. -/
import Derived.Test.YtneganpbamemmaaGreatPlainA
import Derived.Test.YtneganpbamemmaaGreatCpu1
set_option linter.unusedVariables false
set_option linter.unusedSimpArgs false
set_option linter.unusedSectionVars false
namespace Go.Proofs.YtneganpbamemmaaGreat
open Go Go.RowKit Sq
theorem wAdd_bd (a b f : Int) : (0 ≤ (wAdd a b f).1 ∧ (wAdd a b f).1 < 65536) := by unfold wAdd; dsimp only; omega
theorem wrap16_bd (x : Int) : 0 ≤ IntKind.u16.wrap x ∧ IntKind.u16.wrap x < 65536 := by
  have h : IntKind.u16.wrap x = x % 65536 := rfl
  omega
theorem wrap16_id {x : Int} (h : 0 ≤ x ∧ x < 256) : IntKind.u16.wrap x = x := by
  have h : IntKind.u16.wrap x = x % 65536 := rfl
  omega
theorem wAdc_bd (a b f : Int) : (0 ≤ (wAdc a b f).1 ∧ (wAdc a b f).1 < 65536) := by unfold wAdc; dsimp only; omega
theorem wSbc_bd (a b f : Int) : (0 ≤ (wSbc a b f).1 ∧ (wSbc a b f).1 < 65536) := by unfold wSbc; dsimp only; omega
theorem aInc_bd (a f : Int) : (0 ≤ (aInc a f).1 ∧ (aInc a f).1 < 256) := aAddR_bd _ _ _
theorem aDec_bd (a f : Int) : (0 ≤ (aDec a f).1 ∧ (aDec a f).1 < 256) := aSubR_bd _ _ _
theorem bitsV_bd {c : Cp} (ho : c.Ok) {v : Int} (h : 0 ≤ v ∧ v < 256) : 0 ≤ c.bitsV v ∧ c.bitsV v < 256 := by
  unfold Cp.bitsV
  repeat' split
  · exact (turned_bd _ _ _ h.1 h.2 ho.g.f.1 ho.g.f.2).1
  · exact h
  · exact bits_bd _ _ _
  · exact bits_bd _ _ _
theorem tDo2_bd (k v f : Int) : 0 ≤ (tDo k v f).2 ∧ (tDo k v f).2 < 256 := by
  unfold tDo
  dsimp only
  exact bits_bd _ _ _
theorem tBit_bd (n v fr f : Int) : 0 ≤ tBit n v fr f ∧ tBit n v fr f < 256 := by
  unfold tBit
  split
  · exact fWith_bd _ _ _
  · exact bits_bd _ _ _
theorem bitsC_ok {c : Cp} (ho : c.Ok) (v fr : Int) : (c.bitsC v fr).g.Ok := by
  unfold Cp.bitsC
  repeat' split
  · exact { ho.g with f := tDo2_bd _ _ _ }
  · exact { ho.g with f := tBit_bd _ _ _ _ }
  · exact ho.g
end Go.Proofs.YtneganpbamemmaaGreat
