/-
  No cell of these rows narrows 'for every input' (looked for: loops, veiled, ifaces, maps, wideKeys, modest, calm, conditions, laid).
  DERIVED. THE GIVEN ROWS OF THIS SEAT. 7 by the template 'for every input the law returns true; each argument reads behind the call as it read before'; 0 by the template 'total and deterministic' (their statements: YtneganpbamemmaaGreatTotals.lean).
  GIVEN WITH THE SEED: the statements are not yours to turn. If you find one false, say at which input.
  Laid BY PROGRAM, IN A SANDBOX (cutbox-rows.mjs): the forced cells as the released guide's own fill.sh prints them over the translation 7ca363209f5dd1b8… (all of the seat's roots in one cut). By AI agents, Wed Nov 11 2026. No macro, syntax, notation, axiom, sorry.
-/
import Derived.Test.YtneganpbamemmaaGreatChecked
import GoSem.Claim
import GoSem.ClaimJoined
import GoSem.ClaimMapViews
import Derived.JoinedTies
import Derived.KernelRfl
namespace Go.Proofs.YtneganpbamemmaaGreat
/- THE CELL 'sum', in the pinned program and in every row, IS THE sha256 OF THE DUMP (.gsa) THAT YtneganpbamemmaaGreatProg.lean LOADS. Nothing in Lean hashes anything: it is a label: what it is worth is what the hold of that sum in a sandbox is worth. -/
noncomputable def Tryz.pinned : Pinned := { name := "ytneganpbamemmaagreat", sum := "7ca363209f5dd1b829afc5cad5407a3d68f1723dd856809c94a44a15035f941a", checked := Tryz.checked }
namespace Rows
def none {H : Type} : Left H := { results := [], args := [] }

/-- 'squealtop.TopQuotients': WHATEVER THE INPUT: true; the input reads as it did. -/
def topQuotientsSpec : ChangeSpec := { name := "topQuotients", fn := fun _ => fun
  | [d1, d2, d3] => { results := [.lit (.bool true)], args := [d1, d2, d3] }
  | _ => none }
def topQuotientsRow : OpenClaim := { program := "ytneganpbamemmaagreat", sum := "7ca363209f5dd1b829afc5cad5407a3d68f1723dd856809c94a44a15035f941a", func := "squeal/squealtop.TopQuotients", spec := "topQuotients", unfollowed := true, recurses := true, apart := false }
def TopQuotientsSaid : Prop := topQuotientsRow.holds Tryz.pinned (OpenSpec.ofChange topQuotientsSpec)

/-- ITS FALSE NEIGHBOUR: 'it returns false'. Refute it at one input. -/
def topQuotientsWrong : ChangeSpec := { name := "topQuotients", fn := fun _ => fun
  | [d1, d2, d3] => { results := [.lit (.bool false)], args := [d1, d2, d3] }
  | _ => none }
def TopQuotientsWrongFalsely : Prop := topQuotientsRow.holds Tryz.pinned (OpenSpec.ofChange topQuotientsWrong)

/-- 'squealtop.TopProducts': WHATEVER THE INPUT: true; the input reads as it did. -/
def topProductsSpec : ChangeSpec := { name := "topProducts", fn := fun _ => fun
  | [d1, d2, d3] => { results := [.lit (.bool true)], args := [d1, d2, d3] }
  | _ => none }
def topProductsRow : OpenClaim := { program := "ytneganpbamemmaagreat", sum := "7ca363209f5dd1b829afc5cad5407a3d68f1723dd856809c94a44a15035f941a", func := "squeal/squealtop.TopProducts", spec := "topProducts", unfollowed := true, recurses := true, apart := false }
def TopProductsSaid : Prop := topProductsRow.holds Tryz.pinned (OpenSpec.ofChange topProductsSpec)

/-- ITS FALSE NEIGHBOUR: 'it returns false'. Refute it at one input. -/
def topProductsWrong : ChangeSpec := { name := "topProducts", fn := fun _ => fun
  | [d1, d2, d3] => { results := [.lit (.bool false)], args := [d1, d2, d3] }
  | _ => none }
def TopProductsWrongFalsely : Prop := topProductsRow.holds Tryz.pinned (OpenSpec.ofChange topProductsWrong)

/-- 'squealtop.TopDecimals': WHATEVER THE INPUT: true; the input reads as it did. -/
def topDecimalsSpec : ChangeSpec := { name := "topDecimals", fn := fun _ => fun
  | [d1, d2, d3, d4] => { results := [.lit (.bool true)], args := [d1, d2, d3, d4] }
  | _ => none }
def topDecimalsRow : OpenClaim := { program := "ytneganpbamemmaagreat", sum := "7ca363209f5dd1b829afc5cad5407a3d68f1723dd856809c94a44a15035f941a", func := "squeal/squealtop.TopDecimals", spec := "topDecimals", unfollowed := true, recurses := true, apart := false }
def TopDecimalsSaid : Prop := topDecimalsRow.holds Tryz.pinned (OpenSpec.ofChange topDecimalsSpec)

/-- ITS FALSE NEIGHBOUR: 'it returns false'. Refute it at one input. -/
def topDecimalsWrong : ChangeSpec := { name := "topDecimals", fn := fun _ => fun
  | [d1, d2, d3, d4] => { results := [.lit (.bool false)], args := [d1, d2, d3, d4] }
  | _ => none }
def TopDecimalsWrongFalsely : Prop := topDecimalsRow.holds Tryz.pinned (OpenSpec.ofChange topDecimalsWrong)

/-- 'squealtop.TopCopies': WHATEVER THE INPUT: true; the input reads as it did. -/
def topCopiesSpec : ChangeSpec := { name := "topCopies", fn := fun _ => fun
  | [d1, d2, d3, d4, d5, d6] => { results := [.lit (.bool true)], args := [d1, d2, d3, d4, d5, d6] }
  | _ => none }
def topCopiesRow : OpenClaim := { program := "ytneganpbamemmaagreat", sum := "7ca363209f5dd1b829afc5cad5407a3d68f1723dd856809c94a44a15035f941a", func := "squeal/squealtop.TopCopies", spec := "topCopies", unfollowed := true, recurses := true, apart := false }
def TopCopiesSaid : Prop := topCopiesRow.holds Tryz.pinned (OpenSpec.ofChange topCopiesSpec)

/-- ITS FALSE NEIGHBOUR: 'it returns false'. Refute it at one input. -/
def topCopiesWrong : ChangeSpec := { name := "topCopies", fn := fun _ => fun
  | [d1, d2, d3, d4, d5, d6] => { results := [.lit (.bool false)], args := [d1, d2, d3, d4, d5, d6] }
  | _ => none }
def TopCopiesWrongFalsely : Prop := topCopiesRow.holds Tryz.pinned (OpenSpec.ofChange topCopiesWrong)

/-- 'squealtop.TopTowers': WHATEVER THE INPUT: true; the input reads as it did. -/
def topTowersSpec : ChangeSpec := { name := "topTowers", fn := fun _ => fun
  | [d1, d2] => { results := [.lit (.bool true)], args := [d1, d2] }
  | _ => none }
def topTowersRow : OpenClaim := { program := "ytneganpbamemmaagreat", sum := "7ca363209f5dd1b829afc5cad5407a3d68f1723dd856809c94a44a15035f941a", func := "squeal/squealtop.TopTowers", spec := "topTowers", unfollowed := true, recurses := true, apart := false }
def TopTowersSaid : Prop := topTowersRow.holds Tryz.pinned (OpenSpec.ofChange topTowersSpec)

/-- ITS FALSE NEIGHBOUR: 'it returns false'. Refute it at one input. -/
def topTowersWrong : ChangeSpec := { name := "topTowers", fn := fun _ => fun
  | [d1, d2] => { results := [.lit (.bool false)], args := [d1, d2] }
  | _ => none }
def TopTowersWrongFalsely : Prop := topTowersRow.holds Tryz.pinned (OpenSpec.ofChange topTowersWrong)

/-- 'squealtop.TopFrames': WHATEVER THE INPUT: true; the input reads as it did. -/
def topFramesSpec : ChangeSpec := { name := "topFrames", fn := fun _ => fun
  | [d1, d2, d3, d4, d5] => { results := [.lit (.bool true)], args := [d1, d2, d3, d4, d5] }
  | _ => none }
def topFramesRow : OpenClaim := { program := "ytneganpbamemmaagreat", sum := "7ca363209f5dd1b829afc5cad5407a3d68f1723dd856809c94a44a15035f941a", func := "squeal/squealtop.TopFrames", spec := "topFrames", unfollowed := true, recurses := true, apart := false }
def TopFramesSaid : Prop := topFramesRow.holds Tryz.pinned (OpenSpec.ofChange topFramesSpec)

/-- ITS FALSE NEIGHBOUR: 'it returns false'. Refute it at one input. -/
def topFramesWrong : ChangeSpec := { name := "topFrames", fn := fun _ => fun
  | [d1, d2, d3, d4, d5] => { results := [.lit (.bool false)], args := [d1, d2, d3, d4, d5] }
  | _ => none }
def TopFramesWrongFalsely : Prop := topFramesRow.holds Tryz.pinned (OpenSpec.ofChange topFramesWrong)

/-- 'squealtop.TopSums': WHATEVER THE INPUT: true; the input reads as it did. -/
def topSumsSpec : ChangeSpec := { name := "topSums", fn := fun _ => fun
  | [d1, d2, d3] => { results := [.lit (.bool true)], args := [d1, d2, d3] }
  | _ => none }
def topSumsRow : OpenClaim := { program := "ytneganpbamemmaagreat", sum := "7ca363209f5dd1b829afc5cad5407a3d68f1723dd856809c94a44a15035f941a", func := "squeal/squealtop.TopSums", spec := "topSums", unfollowed := true, recurses := true, apart := false }
def TopSumsSaid : Prop := topSumsRow.holds Tryz.pinned (OpenSpec.ofChange topSumsSpec)

/-- ITS FALSE NEIGHBOUR: 'it returns false'. Refute it at one input. -/
def topSumsWrong : ChangeSpec := { name := "topSums", fn := fun _ => fun
  | [d1, d2, d3] => { results := [.lit (.bool false)], args := [d1, d2, d3] }
  | _ => none }
def TopSumsWrongFalsely : Prop := topSumsRow.holds Tryz.pinned (OpenSpec.ofChange topSumsWrong)

/- THE SECOND FORM. 'bulk': how many values and letters a reading holds, each counted each time it is reached (what is shared counts as often as it is met; a slice's spare places count too). A statement '..UptoSaid' is the law's where the arguments, and the package variables that the reading takes, are together of bulk at most 1048576: NARROWER than '..Said'. Prove '..Said' where nothing that the law and all that it calls make is longer than what came in: it says more and counts as full. Else prove '..UptoSaid'. A law counts once. -/
mutual
def uptoBulk {H : Type} : DataW H → Nat
  | .lit (.string bytes) => bytes.length + 1
  | .lit _ => 1
  | .nil => 1
  | .ptr d => uptoBulk d + 1
  | .slice elems spare => uptoBulkAll elems + uptoBulkAll spare + 1
  | .agg parts => uptoBulkAll parts + 1
  | .iface _ d => uptoBulk d + 1
  | .map entries => uptoBulkEntries entries + 1
  | .held _ => 1
def uptoBulkAll {H : Type} : List (DataW H) → Nat
  | [] => 0
  | d :: r => uptoBulk d + uptoBulkAll r
def uptoBulkEntries {H : Type} : List (Lit × DataW H) → Nat
  | [] => 0
  | x :: r => uptoBulkEntry x + uptoBulkEntries r
def uptoBulkEntry {H : Type} : Lit × DataW H → Nat
  | (.string bytes, d) => bytes.length + uptoBulk d + 1
  | (_, d) => uptoBulk d + 1
 end
def uptoSmall : (H : Type) → List (DataW H) → Bool := fun _ ds => decide (uptoBulkAll ds ≤ 1048576)
def OpenSpec.upto (s : _root_.Go.ChangeSpec) : _root_.Go.OpenSpec := { _root_.Go.OpenSpec.ofChange s with cond := some uptoSmall }

/-- 'squealtop.TopQuotients', WHERE WHAT IT READS IS OF BULK AT MOST 1048576: true; the input reads as it did. -/
def topQuotientsUptoRow : OpenClaim := { program := "ytneganpbamemmaagreat", sum := "7ca363209f5dd1b829afc5cad5407a3d68f1723dd856809c94a44a15035f941a", func := "squeal/squealtop.TopQuotients", spec := "topQuotients", unfollowed := true, recurses := true, apart := false, narrowed := true }
def TopQuotientsUptoSaid : Prop := topQuotientsUptoRow.holds Tryz.pinned (OpenSpec.upto topQuotientsSpec)

/-- 'squealtop.TopProducts', WHERE WHAT IT READS IS OF BULK AT MOST 1048576: true; the input reads as it did. -/
def topProductsUptoRow : OpenClaim := { program := "ytneganpbamemmaagreat", sum := "7ca363209f5dd1b829afc5cad5407a3d68f1723dd856809c94a44a15035f941a", func := "squeal/squealtop.TopProducts", spec := "topProducts", unfollowed := true, recurses := true, apart := false, narrowed := true }
def TopProductsUptoSaid : Prop := topProductsUptoRow.holds Tryz.pinned (OpenSpec.upto topProductsSpec)

/-- 'squealtop.TopDecimals', WHERE WHAT IT READS IS OF BULK AT MOST 1048576: true; the input reads as it did. -/
def topDecimalsUptoRow : OpenClaim := { program := "ytneganpbamemmaagreat", sum := "7ca363209f5dd1b829afc5cad5407a3d68f1723dd856809c94a44a15035f941a", func := "squeal/squealtop.TopDecimals", spec := "topDecimals", unfollowed := true, recurses := true, apart := false, narrowed := true }
def TopDecimalsUptoSaid : Prop := topDecimalsUptoRow.holds Tryz.pinned (OpenSpec.upto topDecimalsSpec)

/-- 'squealtop.TopCopies', WHERE WHAT IT READS IS OF BULK AT MOST 1048576: true; the input reads as it did. -/
def topCopiesUptoRow : OpenClaim := { program := "ytneganpbamemmaagreat", sum := "7ca363209f5dd1b829afc5cad5407a3d68f1723dd856809c94a44a15035f941a", func := "squeal/squealtop.TopCopies", spec := "topCopies", unfollowed := true, recurses := true, apart := false, narrowed := true }
def TopCopiesUptoSaid : Prop := topCopiesUptoRow.holds Tryz.pinned (OpenSpec.upto topCopiesSpec)

/-- 'squealtop.TopTowers', WHERE WHAT IT READS IS OF BULK AT MOST 1048576: true; the input reads as it did. -/
def topTowersUptoRow : OpenClaim := { program := "ytneganpbamemmaagreat", sum := "7ca363209f5dd1b829afc5cad5407a3d68f1723dd856809c94a44a15035f941a", func := "squeal/squealtop.TopTowers", spec := "topTowers", unfollowed := true, recurses := true, apart := false, narrowed := true }
def TopTowersUptoSaid : Prop := topTowersUptoRow.holds Tryz.pinned (OpenSpec.upto topTowersSpec)

/-- 'squealtop.TopFrames', WHERE WHAT IT READS IS OF BULK AT MOST 1048576: true; the input reads as it did. -/
def topFramesUptoRow : OpenClaim := { program := "ytneganpbamemmaagreat", sum := "7ca363209f5dd1b829afc5cad5407a3d68f1723dd856809c94a44a15035f941a", func := "squeal/squealtop.TopFrames", spec := "topFrames", unfollowed := true, recurses := true, apart := false, narrowed := true }
def TopFramesUptoSaid : Prop := topFramesUptoRow.holds Tryz.pinned (OpenSpec.upto topFramesSpec)

/-- 'squealtop.TopSums', WHERE WHAT IT READS IS OF BULK AT MOST 1048576: true; the input reads as it did. -/
def topSumsUptoRow : OpenClaim := { program := "ytneganpbamemmaagreat", sum := "7ca363209f5dd1b829afc5cad5407a3d68f1723dd856809c94a44a15035f941a", func := "squeal/squealtop.TopSums", spec := "topSums", unfollowed := true, recurses := true, apart := false, narrowed := true }
def TopSumsUptoSaid : Prop := topSumsUptoRow.holds Tryz.pinned (OpenSpec.upto topSumsSpec)

end Rows
end Go.Proofs.YtneganpbamemmaaGreat
