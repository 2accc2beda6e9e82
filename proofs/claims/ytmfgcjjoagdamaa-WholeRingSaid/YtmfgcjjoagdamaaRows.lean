/-
  No cell of these rows narrows 'for every input' (looked for: loops, veiled, ifaces, maps, wideKeys, modest, calm, conditions, laid).
  DERIVED. THE GIVEN ROWS OF THIS SEAT. 10 by the template 'for every input the law returns true; each argument reads behind the call as it read before'; 0 by the template 'total and deterministic' (their statements: YtmfgcjjoagdamaaTotals.lean).
  GIVEN WITH THE SEED: the statements are not yours to turn. If you find one false, say at which input.
  Laid BY PROGRAM, IN A SANDBOX (cutbox-rows.mjs): the forced cells as the released guide's own fill.sh prints them over the translation f49a4de0cbd2e385… (all of the seat's roots in one cut). By AI agents, Wed Nov 11 2026. No macro, syntax, notation, axiom, sorry.
-/
import Derived.Test.YtmfgcjjoagdamaaChecked
import GoSem.Claim
import GoSem.ClaimJoined
import GoSem.ClaimMapViews
import Derived.JoinedTies
import Derived.KernelRfl
namespace Go.Proofs.Ytmfgcjjoagdamaa
/- THE CELL 'sum', in the pinned program and in every row, IS THE sha256 OF THE DUMP (.gsa) THAT YtmfgcjjoagdamaaProg.lean LOADS. Nothing in Lean hashes anything: it is a label: what it is worth is what the hold of that sum in a sandbox is worth. -/
noncomputable def Try.pinned : Pinned := { name := "ytmfgcjjoagdamaa", sum := "f49a4de0cbd2e385ac90f3bde4a3703909097e4c469e1a35011f7a9462795d9b", checked := Try.checked }
namespace Rows
def none {H : Type} : Left H := { results := [], args := [] }

/-- 'porismlaw05.DigitsText': WHATEVER THE INPUT: true; the input reads as it did. -/
def digitsTextSpec : ChangeSpec := { name := "digitsText", fn := fun _ => fun
  | [d] => { results := [.lit (.bool true)], args := [d] }
  | _ => none }
def digitsTextRow : OpenClaim := { program := "ytmfgcjjoagdamaa", sum := "f49a4de0cbd2e385ac90f3bde4a3703909097e4c469e1a35011f7a9462795d9b", func := "porism/porismlaw05.DigitsText", spec := "digitsText", unfollowed := true, recurses := true, apart := false }
def DigitsTextSaid : Prop := digitsTextRow.holds Try.pinned (OpenSpec.ofChange digitsTextSpec)

/-- ITS FALSE NEIGHBOUR: 'it returns false'. Refute it at one input. -/
def digitsTextWrong : ChangeSpec := { name := "digitsText", fn := fun _ => fun
  | [d] => { results := [.lit (.bool false)], args := [d] }
  | _ => none }
def DigitsTextWrongFalsely : Prop := digitsTextRow.holds Try.pinned (OpenSpec.ofChange digitsTextWrong)

/-- 'porismlaw05.DigitsParse': WHATEVER THE INPUT: true; the input reads as it did. -/
def digitsParseSpec : ChangeSpec := { name := "digitsParse", fn := fun _ => fun
  | [d] => { results := [.lit (.bool true)], args := [d] }
  | _ => none }
def digitsParseRow : OpenClaim := { program := "ytmfgcjjoagdamaa", sum := "f49a4de0cbd2e385ac90f3bde4a3703909097e4c469e1a35011f7a9462795d9b", func := "porism/porismlaw05.DigitsParse", spec := "digitsParse", unfollowed := true, recurses := true, apart := false }
def DigitsParseSaid : Prop := digitsParseRow.holds Try.pinned (OpenSpec.ofChange digitsParseSpec)

/-- ITS FALSE NEIGHBOUR: 'it returns false'. Refute it at one input. -/
def digitsParseWrong : ChangeSpec := { name := "digitsParse", fn := fun _ => fun
  | [d] => { results := [.lit (.bool false)], args := [d] }
  | _ => none }
def DigitsParseWrongFalsely : Prop := digitsParseRow.holds Try.pinned (OpenSpec.ofChange digitsParseWrong)

/-- 'porismlaw05.DigitsOnly': WHATEVER THE INPUT: true; the input reads as it did. -/
def digitsOnlySpec : ChangeSpec := { name := "digitsOnly", fn := fun _ => fun
  | [d] => { results := [.lit (.bool true)], args := [d] }
  | _ => none }
def digitsOnlyRow : OpenClaim := { program := "ytmfgcjjoagdamaa", sum := "f49a4de0cbd2e385ac90f3bde4a3703909097e4c469e1a35011f7a9462795d9b", func := "porism/porismlaw05.DigitsOnly", spec := "digitsOnly", unfollowed := true, recurses := true, apart := false }
def DigitsOnlySaid : Prop := digitsOnlyRow.holds Try.pinned (OpenSpec.ofChange digitsOnlySpec)

/-- ITS FALSE NEIGHBOUR: 'it returns false'. Refute it at one input. -/
def digitsOnlyWrong : ChangeSpec := { name := "digitsOnly", fn := fun _ => fun
  | [d] => { results := [.lit (.bool false)], args := [d] }
  | _ => none }
def DigitsOnlyWrongFalsely : Prop := digitsOnlyRow.holds Try.pinned (OpenSpec.ofChange digitsOnlyWrong)

/-- 'porismlaw05.DigitsShifts': WHATEVER THE INPUT: true; the input reads as it did. -/
def digitsShiftsSpec : ChangeSpec := { name := "digitsShifts", fn := fun _ => fun
  | [d1, d2, d3] => { results := [.lit (.bool true)], args := [d1, d2, d3] }
  | _ => none }
def digitsShiftsRow : OpenClaim := { program := "ytmfgcjjoagdamaa", sum := "f49a4de0cbd2e385ac90f3bde4a3703909097e4c469e1a35011f7a9462795d9b", func := "porism/porismlaw05.DigitsShifts", spec := "digitsShifts", inPlace := ["internal/abi.NoEscape", "internal/bytealg.MakeNoZero"], unfollowed := true, recurses := true, apart := false }
def DigitsShiftsSaid : Prop := digitsShiftsRow.holds Try.pinned (OpenSpec.ofChange digitsShiftsSpec)

/-- ITS FALSE NEIGHBOUR: 'it returns false'. Refute it at one input. -/
def digitsShiftsWrong : ChangeSpec := { name := "digitsShifts", fn := fun _ => fun
  | [d1, d2, d3] => { results := [.lit (.bool false)], args := [d1, d2, d3] }
  | _ => none }
def DigitsShiftsWrongFalsely : Prop := digitsShiftsRow.holds Try.pinned (OpenSpec.ofChange digitsShiftsWrong)

/-- 'porismlaw04.WholePowers': WHATEVER THE INPUT: true; the input reads as it did. -/
def wholePowersSpec : ChangeSpec := { name := "wholePowers", fn := fun _ => fun
  | [d1, d2, d3, d4] => { results := [.lit (.bool true)], args := [d1, d2, d3, d4] }
  | _ => none }
def wholePowersRow : OpenClaim := { program := "ytmfgcjjoagdamaa", sum := "f49a4de0cbd2e385ac90f3bde4a3703909097e4c469e1a35011f7a9462795d9b", func := "porism/porismlaw04.WholePowers", spec := "wholePowers", unfollowed := true, recurses := true, apart := false }
def WholePowersSaid : Prop := wholePowersRow.holds Try.pinned (OpenSpec.ofChange wholePowersSpec)

/-- ITS FALSE NEIGHBOUR: 'it returns false'. Refute it at one input. -/
def wholePowersWrong : ChangeSpec := { name := "wholePowers", fn := fun _ => fun
  | [d1, d2, d3, d4] => { results := [.lit (.bool false)], args := [d1, d2, d3, d4] }
  | _ => none }
def WholePowersWrongFalsely : Prop := wholePowersRow.holds Try.pinned (OpenSpec.ofChange wholePowersWrong)

/-- 'porismlaw04.WholeDivides': WHATEVER THE INPUT: true; the input reads as it did. -/
def wholeDividesSpec : ChangeSpec := { name := "wholeDivides", fn := fun _ => fun
  | [d1, d2, d3] => { results := [.lit (.bool true)], args := [d1, d2, d3] }
  | _ => none }
def wholeDividesRow : OpenClaim := { program := "ytmfgcjjoagdamaa", sum := "f49a4de0cbd2e385ac90f3bde4a3703909097e4c469e1a35011f7a9462795d9b", func := "porism/porismlaw04.WholeDivides", spec := "wholeDivides", unfollowed := true, recurses := true, apart := false }
def WholeDividesSaid : Prop := wholeDividesRow.holds Try.pinned (OpenSpec.ofChange wholeDividesSpec)

/-- ITS FALSE NEIGHBOUR: 'it returns false'. Refute it at one input. -/
def wholeDividesWrong : ChangeSpec := { name := "wholeDivides", fn := fun _ => fun
  | [d1, d2, d3] => { results := [.lit (.bool false)], args := [d1, d2, d3] }
  | _ => none }
def WholeDividesWrongFalsely : Prop := wholeDividesRow.holds Try.pinned (OpenSpec.ofChange wholeDividesWrong)

/-- 'porismlaw04.WholeLaws': WHATEVER THE INPUT: true; the input reads as it did. -/
def wholeLawsSpec : ChangeSpec := { name := "wholeLaws", fn := fun _ => fun
  | [d1, d2, d3] => { results := [.lit (.bool true)], args := [d1, d2, d3] }
  | _ => none }
def wholeLawsRow : OpenClaim := { program := "ytmfgcjjoagdamaa", sum := "f49a4de0cbd2e385ac90f3bde4a3703909097e4c469e1a35011f7a9462795d9b", func := "porism/porismlaw04.WholeLaws", spec := "wholeLaws", unfollowed := true, recurses := true, apart := false }
def WholeLawsSaid : Prop := wholeLawsRow.holds Try.pinned (OpenSpec.ofChange wholeLawsSpec)

/-- ITS FALSE NEIGHBOUR: 'it returns false'. Refute it at one input. -/
def wholeLawsWrong : ChangeSpec := { name := "wholeLaws", fn := fun _ => fun
  | [d1, d2, d3] => { results := [.lit (.bool false)], args := [d1, d2, d3] }
  | _ => none }
def WholeLawsWrongFalsely : Prop := wholeLawsRow.holds Try.pinned (OpenSpec.ofChange wholeLawsWrong)

/-- 'porismlaw04.WholeCommon': WHATEVER THE INPUT: true; the input reads as it did. -/
def wholeCommonSpec : ChangeSpec := { name := "wholeCommon", fn := fun _ => fun
  | [d1, d2, d3] => { results := [.lit (.bool true)], args := [d1, d2, d3] }
  | _ => none }
def wholeCommonRow : OpenClaim := { program := "ytmfgcjjoagdamaa", sum := "f49a4de0cbd2e385ac90f3bde4a3703909097e4c469e1a35011f7a9462795d9b", func := "porism/porismlaw04.WholeCommon", spec := "wholeCommon", unfollowed := true, recurses := true, apart := false }
def WholeCommonSaid : Prop := wholeCommonRow.holds Try.pinned (OpenSpec.ofChange wholeCommonSpec)

/-- ITS FALSE NEIGHBOUR: 'it returns false'. Refute it at one input. -/
def wholeCommonWrong : ChangeSpec := { name := "wholeCommon", fn := fun _ => fun
  | [d1, d2, d3] => { results := [.lit (.bool false)], args := [d1, d2, d3] }
  | _ => none }
def WholeCommonWrongFalsely : Prop := wholeCommonRow.holds Try.pinned (OpenSpec.ofChange wholeCommonWrong)

/-- 'porismlaw04.WholeOrder': WHATEVER THE INPUT: true; the input reads as it did. -/
def wholeOrderSpec : ChangeSpec := { name := "wholeOrder", fn := fun _ => fun
  | [d1, d2, d3, d4] => { results := [.lit (.bool true)], args := [d1, d2, d3, d4] }
  | _ => none }
def wholeOrderRow : OpenClaim := { program := "ytmfgcjjoagdamaa", sum := "f49a4de0cbd2e385ac90f3bde4a3703909097e4c469e1a35011f7a9462795d9b", func := "porism/porismlaw04.WholeOrder", spec := "wholeOrder", unfollowed := true, recurses := true, apart := false }
def WholeOrderSaid : Prop := wholeOrderRow.holds Try.pinned (OpenSpec.ofChange wholeOrderSpec)

/-- ITS FALSE NEIGHBOUR: 'it returns false'. Refute it at one input. -/
def wholeOrderWrong : ChangeSpec := { name := "wholeOrder", fn := fun _ => fun
  | [d1, d2, d3, d4] => { results := [.lit (.bool false)], args := [d1, d2, d3, d4] }
  | _ => none }
def WholeOrderWrongFalsely : Prop := wholeOrderRow.holds Try.pinned (OpenSpec.ofChange wholeOrderWrong)

/-- 'porismlaw04.WholeRing': WHATEVER THE INPUT: true; the input reads as it did. -/
def wholeRingSpec : ChangeSpec := { name := "wholeRing", fn := fun _ => fun
  | [d1, d2, d3] => { results := [.lit (.bool true)], args := [d1, d2, d3] }
  | _ => none }
def wholeRingRow : OpenClaim := { program := "ytmfgcjjoagdamaa", sum := "f49a4de0cbd2e385ac90f3bde4a3703909097e4c469e1a35011f7a9462795d9b", func := "porism/porismlaw04.WholeRing", spec := "wholeRing", unfollowed := true, recurses := true, apart := false }
def WholeRingSaid : Prop := wholeRingRow.holds Try.pinned (OpenSpec.ofChange wholeRingSpec)

/-- ITS FALSE NEIGHBOUR: 'it returns false'. Refute it at one input. -/
def wholeRingWrong : ChangeSpec := { name := "wholeRing", fn := fun _ => fun
  | [d1, d2, d3] => { results := [.lit (.bool false)], args := [d1, d2, d3] }
  | _ => none }
def WholeRingWrongFalsely : Prop := wholeRingRow.holds Try.pinned (OpenSpec.ofChange wholeRingWrong)

/- THE SECOND FORM. 'bulk': how many values and letters a reading holds, each counted each time it is reached (what is shared counts as often as it is met; a slice's spare places count too). A statement '..UptoSaid' is the law's where the arguments, and the package variables that the reading takes, are together of bulk at most 1048576: NARROWER than '..Said'. Prove '..Said' where nothing that the law and all that it calls make is longer than what came in: it says more and counts as full. Else prove '..UptoSaid'. A law counts once. -/
mutual
def uptoBulk {H : Type} : DataW H → Nat
  | .lit (.string bytes) => bytes.length + 1
  | .lit _ => 1
  | .nil => 1
  | .ptr d => uptoBulk d + 1
  | .slice elems spare => uptoBulkAll elems + uptoBulkAll spare + 1
  | .agg parts => uptoBulkAll parts + 1
  | .iface _ d => uptoBulk d + 1
  | .map entries => uptoBulkEntries entries + 1
  | .held _ => 1
def uptoBulkAll {H : Type} : List (DataW H) → Nat
  | [] => 0
  | d :: r => uptoBulk d + uptoBulkAll r
def uptoBulkEntries {H : Type} : List (Lit × DataW H) → Nat
  | [] => 0
  | x :: r => uptoBulkEntry x + uptoBulkEntries r
def uptoBulkEntry {H : Type} : Lit × DataW H → Nat
  | (.string bytes, d) => bytes.length + uptoBulk d + 1
  | (_, d) => uptoBulk d + 1
 end
def uptoSmall : (H : Type) → List (DataW H) → Bool := fun _ ds => decide (uptoBulkAll ds ≤ 1048576)
def OpenSpec.upto (s : _root_.Go.ChangeSpec) : _root_.Go.OpenSpec := { _root_.Go.OpenSpec.ofChange s with cond := some uptoSmall }

/-- 'porismlaw05.DigitsText', WHERE WHAT IT READS IS OF BULK AT MOST 1048576: true; the input reads as it did. -/
def digitsTextUptoRow : OpenClaim := { program := "ytmfgcjjoagdamaa", sum := "f49a4de0cbd2e385ac90f3bde4a3703909097e4c469e1a35011f7a9462795d9b", func := "porism/porismlaw05.DigitsText", spec := "digitsText", unfollowed := true, recurses := true, apart := false, narrowed := true }
def DigitsTextUptoSaid : Prop := digitsTextUptoRow.holds Try.pinned (OpenSpec.upto digitsTextSpec)

/-- 'porismlaw05.DigitsParse', WHERE WHAT IT READS IS OF BULK AT MOST 1048576: true; the input reads as it did. -/
def digitsParseUptoRow : OpenClaim := { program := "ytmfgcjjoagdamaa", sum := "f49a4de0cbd2e385ac90f3bde4a3703909097e4c469e1a35011f7a9462795d9b", func := "porism/porismlaw05.DigitsParse", spec := "digitsParse", unfollowed := true, recurses := true, apart := false, narrowed := true }
def DigitsParseUptoSaid : Prop := digitsParseUptoRow.holds Try.pinned (OpenSpec.upto digitsParseSpec)

/-- 'porismlaw05.DigitsOnly', WHERE WHAT IT READS IS OF BULK AT MOST 1048576: true; the input reads as it did. -/
def digitsOnlyUptoRow : OpenClaim := { program := "ytmfgcjjoagdamaa", sum := "f49a4de0cbd2e385ac90f3bde4a3703909097e4c469e1a35011f7a9462795d9b", func := "porism/porismlaw05.DigitsOnly", spec := "digitsOnly", unfollowed := true, recurses := true, apart := false, narrowed := true }
def DigitsOnlyUptoSaid : Prop := digitsOnlyUptoRow.holds Try.pinned (OpenSpec.upto digitsOnlySpec)

/-- 'porismlaw05.DigitsShifts', WHERE WHAT IT READS IS OF BULK AT MOST 1048576: true; the input reads as it did. -/
def digitsShiftsUptoRow : OpenClaim := { program := "ytmfgcjjoagdamaa", sum := "f49a4de0cbd2e385ac90f3bde4a3703909097e4c469e1a35011f7a9462795d9b", func := "porism/porismlaw05.DigitsShifts", spec := "digitsShifts", inPlace := ["internal/abi.NoEscape", "internal/bytealg.MakeNoZero"], unfollowed := true, recurses := true, apart := false, narrowed := true }
def DigitsShiftsUptoSaid : Prop := digitsShiftsUptoRow.holds Try.pinned (OpenSpec.upto digitsShiftsSpec)

/-- 'porismlaw04.WholePowers', WHERE WHAT IT READS IS OF BULK AT MOST 1048576: true; the input reads as it did. -/
def wholePowersUptoRow : OpenClaim := { program := "ytmfgcjjoagdamaa", sum := "f49a4de0cbd2e385ac90f3bde4a3703909097e4c469e1a35011f7a9462795d9b", func := "porism/porismlaw04.WholePowers", spec := "wholePowers", unfollowed := true, recurses := true, apart := false, narrowed := true }
def WholePowersUptoSaid : Prop := wholePowersUptoRow.holds Try.pinned (OpenSpec.upto wholePowersSpec)

/-- 'porismlaw04.WholeDivides', WHERE WHAT IT READS IS OF BULK AT MOST 1048576: true; the input reads as it did. -/
def wholeDividesUptoRow : OpenClaim := { program := "ytmfgcjjoagdamaa", sum := "f49a4de0cbd2e385ac90f3bde4a3703909097e4c469e1a35011f7a9462795d9b", func := "porism/porismlaw04.WholeDivides", spec := "wholeDivides", unfollowed := true, recurses := true, apart := false, narrowed := true }
def WholeDividesUptoSaid : Prop := wholeDividesUptoRow.holds Try.pinned (OpenSpec.upto wholeDividesSpec)

/-- 'porismlaw04.WholeLaws', WHERE WHAT IT READS IS OF BULK AT MOST 1048576: true; the input reads as it did. -/
def wholeLawsUptoRow : OpenClaim := { program := "ytmfgcjjoagdamaa", sum := "f49a4de0cbd2e385ac90f3bde4a3703909097e4c469e1a35011f7a9462795d9b", func := "porism/porismlaw04.WholeLaws", spec := "wholeLaws", unfollowed := true, recurses := true, apart := false, narrowed := true }
def WholeLawsUptoSaid : Prop := wholeLawsUptoRow.holds Try.pinned (OpenSpec.upto wholeLawsSpec)

/-- 'porismlaw04.WholeCommon', WHERE WHAT IT READS IS OF BULK AT MOST 1048576: true; the input reads as it did. -/
def wholeCommonUptoRow : OpenClaim := { program := "ytmfgcjjoagdamaa", sum := "f49a4de0cbd2e385ac90f3bde4a3703909097e4c469e1a35011f7a9462795d9b", func := "porism/porismlaw04.WholeCommon", spec := "wholeCommon", unfollowed := true, recurses := true, apart := false, narrowed := true }
def WholeCommonUptoSaid : Prop := wholeCommonUptoRow.holds Try.pinned (OpenSpec.upto wholeCommonSpec)

/-- 'porismlaw04.WholeOrder', WHERE WHAT IT READS IS OF BULK AT MOST 1048576: true; the input reads as it did. -/
def wholeOrderUptoRow : OpenClaim := { program := "ytmfgcjjoagdamaa", sum := "f49a4de0cbd2e385ac90f3bde4a3703909097e4c469e1a35011f7a9462795d9b", func := "porism/porismlaw04.WholeOrder", spec := "wholeOrder", unfollowed := true, recurses := true, apart := false, narrowed := true }
def WholeOrderUptoSaid : Prop := wholeOrderUptoRow.holds Try.pinned (OpenSpec.upto wholeOrderSpec)

/-- 'porismlaw04.WholeRing', WHERE WHAT IT READS IS OF BULK AT MOST 1048576: true; the input reads as it did. -/
def wholeRingUptoRow : OpenClaim := { program := "ytmfgcjjoagdamaa", sum := "f49a4de0cbd2e385ac90f3bde4a3703909097e4c469e1a35011f7a9462795d9b", func := "porism/porismlaw04.WholeRing", spec := "wholeRing", unfollowed := true, recurses := true, apart := false, narrowed := true }
def WholeRingUptoSaid : Prop := wholeRingUptoRow.holds Try.pinned (OpenSpec.upto wholeRingSpec)

end Rows
end Go.Proofs.Ytmfgcjjoagdamaa
