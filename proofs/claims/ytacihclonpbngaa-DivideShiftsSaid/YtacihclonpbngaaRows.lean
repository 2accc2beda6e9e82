/-
  No cell of these rows narrows 'for every input' (looked for: loops, veiled, ifaces, maps, wideKeys, modest, calm, conditions, laid).
  DERIVED. THE GIVEN ROWS OF THIS SEAT. 9 by the template 'for every input the law returns true; each argument reads behind the call as it read before'; 0 by the template 'total and deterministic' (their statements: YtacihclonpbngaaTotals.lean).
  GIVEN WITH THE SEED: the statements are not yours to turn. If you find one false, say at which input.
  Laid BY PROGRAM, IN A SANDBOX (cutbox-rows.mjs): the forced cells as the released guide's own fill.sh prints them over the translation bf4c946c89034c8c… (all of the seat's roots in one cut). By AI agents, Wed Nov 11 2026. No macro, syntax, notation, axiom, sorry.
-/
import Derived.Test.YtacihclonpbngaaChecked
import GoSem.Claim
import GoSem.ClaimJoined
import GoSem.ClaimMapViews
import Derived.JoinedTies
import Derived.KernelRfl
namespace Go.Proofs.Ytacihclonpbngaa
/- THE CELL 'sum', in the pinned program and in every row, IS THE sha256 OF THE DUMP (.gsa) THAT YtacihclonpbngaaProg.lean LOADS. Nothing in Lean hashes anything: it is a label: what it is worth is what the hold of that sum in a sandbox is worth. -/
noncomputable def Try.pinned : Pinned := { name := "ytacihclonpbngaa", sum := "bf4c946c89034c8cdfb0a4f48ceb22faf0b0bb7f268e9cfa7133110b56730cfb", checked := Try.checked }
namespace Rows
def none {H : Type} : Left H := { results := [], args := [] }

/-- 'porismlaw02.TimesProduct': WHATEVER THE INPUT: true; the input reads as it did. -/
def timesProductSpec : ChangeSpec := { name := "timesProduct", fn := fun _ => fun
  | [d1, d2, d3] => { results := [.lit (.bool true)], args := [d1, d2, d3] }
  | _ => none }
def timesProductRow : OpenClaim := { program := "ytacihclonpbngaa", sum := "bf4c946c89034c8cdfb0a4f48ceb22faf0b0bb7f268e9cfa7133110b56730cfb", func := "porism/porismlaw02.TimesProduct", spec := "timesProduct", unfollowed := true, recurses := true, apart := false }
def TimesProductSaid : Prop := timesProductRow.holds Try.pinned (OpenSpec.ofChange timesProductSpec)

/-- ITS FALSE NEIGHBOUR: 'it returns false'. Refute it at one input. -/
def timesProductWrong : ChangeSpec := { name := "timesProduct", fn := fun _ => fun
  | [d1, d2, d3] => { results := [.lit (.bool false)], args := [d1, d2, d3] }
  | _ => none }
def TimesProductWrongFalsely : Prop := timesProductRow.holds Try.pinned (OpenSpec.ofChange timesProductWrong)

/-- 'porismlaw02.TimesWays': WHATEVER THE INPUT: true; the input reads as it did. -/
def timesWaysSpec : ChangeSpec := { name := "timesWays", fn := fun _ => fun
  | [d1, d2] => { results := [.lit (.bool true)], args := [d1, d2] }
  | _ => none }
def timesWaysRow : OpenClaim := { program := "ytacihclonpbngaa", sum := "bf4c946c89034c8cdfb0a4f48ceb22faf0b0bb7f268e9cfa7133110b56730cfb", func := "porism/porismlaw02.TimesWays", spec := "timesWays", unfollowed := true, recurses := true, apart := false }
def TimesWaysSaid : Prop := timesWaysRow.holds Try.pinned (OpenSpec.ofChange timesWaysSpec)

/-- ITS FALSE NEIGHBOUR: 'it returns false'. Refute it at one input. -/
def timesWaysWrong : ChangeSpec := { name := "timesWays", fn := fun _ => fun
  | [d1, d2] => { results := [.lit (.bool false)], args := [d1, d2] }
  | _ => none }
def TimesWaysWrongFalsely : Prop := timesWaysRow.holds Try.pinned (OpenSpec.ofChange timesWaysWrong)

/-- 'porismlaw02.TimesShifts': WHATEVER THE INPUT: true; the input reads as it did. -/
def timesShiftsSpec : ChangeSpec := { name := "timesShifts", fn := fun _ => fun
  | [d1, d2, d3] => { results := [.lit (.bool true)], args := [d1, d2, d3] }
  | _ => none }
def timesShiftsRow : OpenClaim := { program := "ytacihclonpbngaa", sum := "bf4c946c89034c8cdfb0a4f48ceb22faf0b0bb7f268e9cfa7133110b56730cfb", func := "porism/porismlaw02.TimesShifts", spec := "timesShifts", unfollowed := true, recurses := true, apart := false }
def TimesShiftsSaid : Prop := timesShiftsRow.holds Try.pinned (OpenSpec.ofChange timesShiftsSpec)

/-- ITS FALSE NEIGHBOUR: 'it returns false'. Refute it at one input. -/
def timesShiftsWrong : ChangeSpec := { name := "timesShifts", fn := fun _ => fun
  | [d1, d2, d3] => { results := [.lit (.bool false)], args := [d1, d2, d3] }
  | _ => none }
def TimesShiftsWrongFalsely : Prop := timesShiftsRow.holds Try.pinned (OpenSpec.ofChange timesShiftsWrong)

/-- 'porismlaw02.TimesLaws': WHATEVER THE INPUT: true; the input reads as it did. -/
def timesLawsSpec : ChangeSpec := { name := "timesLaws", fn := fun _ => fun
  | [d1, d2, d3] => { results := [.lit (.bool true)], args := [d1, d2, d3] }
  | _ => none }
def timesLawsRow : OpenClaim := { program := "ytacihclonpbngaa", sum := "bf4c946c89034c8cdfb0a4f48ceb22faf0b0bb7f268e9cfa7133110b56730cfb", func := "porism/porismlaw02.TimesLaws", spec := "timesLaws", unfollowed := true, recurses := true, apart := false }
def TimesLawsSaid : Prop := timesLawsRow.holds Try.pinned (OpenSpec.ofChange timesLawsSpec)

/-- ITS FALSE NEIGHBOUR: 'it returns false'. Refute it at one input. -/
def timesLawsWrong : ChangeSpec := { name := "timesLaws", fn := fun _ => fun
  | [d1, d2, d3] => { results := [.lit (.bool false)], args := [d1, d2, d3] }
  | _ => none }
def TimesLawsWrongFalsely : Prop := timesLawsRow.holds Try.pinned (OpenSpec.ofChange timesLawsWrong)

/-- 'porismlaw03.DivideBy': WHATEVER THE INPUT: true; the input reads as it did. -/
def divideBySpec : ChangeSpec := { name := "divideBy", fn := fun _ => fun
  | [d1, d2, d3] => { results := [.lit (.bool true)], args := [d1, d2, d3] }
  | _ => none }
def divideByRow : OpenClaim := { program := "ytacihclonpbngaa", sum := "bf4c946c89034c8cdfb0a4f48ceb22faf0b0bb7f268e9cfa7133110b56730cfb", func := "porism/porismlaw03.DivideBy", spec := "divideBy", apart := false }
def DivideBySaid : Prop := divideByRow.holds Try.pinned (OpenSpec.ofChange divideBySpec)

/-- ITS FALSE NEIGHBOUR: 'it returns false'. Refute it at one input. -/
def divideByWrong : ChangeSpec := { name := "divideBy", fn := fun _ => fun
  | [d1, d2, d3] => { results := [.lit (.bool false)], args := [d1, d2, d3] }
  | _ => none }
def DivideByWrongFalsely : Prop := divideByRow.holds Try.pinned (OpenSpec.ofChange divideByWrong)

/-- 'porismlaw03.DivideShifts': WHATEVER THE INPUT: true; the input reads as it did. -/
def divideShiftsSpec : ChangeSpec := { name := "divideShifts", fn := fun _ => fun
  | [d1, d2, d3] => { results := [.lit (.bool true)], args := [d1, d2, d3] }
  | _ => none }
def divideShiftsRow : OpenClaim := { program := "ytacihclonpbngaa", sum := "bf4c946c89034c8cdfb0a4f48ceb22faf0b0bb7f268e9cfa7133110b56730cfb", func := "porism/porismlaw03.DivideShifts", spec := "divideShifts", apart := false }
def DivideShiftsSaid : Prop := divideShiftsRow.holds Try.pinned (OpenSpec.ofChange divideShiftsSpec)

/-- ITS FALSE NEIGHBOUR: 'it returns false'. Refute it at one input. -/
def divideShiftsWrong : ChangeSpec := { name := "divideShifts", fn := fun _ => fun
  | [d1, d2, d3] => { results := [.lit (.bool false)], args := [d1, d2, d3] }
  | _ => none }
def DivideShiftsWrongFalsely : Prop := divideShiftsRow.holds Try.pinned (OpenSpec.ofChange divideShiftsWrong)

/-- 'porismlaw03.DivideBack': WHATEVER THE INPUT: true; the input reads as it did. -/
def divideBackSpec : ChangeSpec := { name := "divideBack", fn := fun _ => fun
  | [d1, d2, d3] => { results := [.lit (.bool true)], args := [d1, d2, d3] }
  | _ => none }
def divideBackRow : OpenClaim := { program := "ytacihclonpbngaa", sum := "bf4c946c89034c8cdfb0a4f48ceb22faf0b0bb7f268e9cfa7133110b56730cfb", func := "porism/porismlaw03.DivideBack", spec := "divideBack", unfollowed := true, recurses := true, apart := false }
def DivideBackSaid : Prop := divideBackRow.holds Try.pinned (OpenSpec.ofChange divideBackSpec)

/-- ITS FALSE NEIGHBOUR: 'it returns false'. Refute it at one input. -/
def divideBackWrong : ChangeSpec := { name := "divideBack", fn := fun _ => fun
  | [d1, d2, d3] => { results := [.lit (.bool false)], args := [d1, d2, d3] }
  | _ => none }
def DivideBackWrongFalsely : Prop := divideBackRow.holds Try.pinned (OpenSpec.ofChange divideBackWrong)

/-- 'porismlaw03.DivideMakes': WHATEVER THE INPUT: true; the input reads as it did. -/
def divideMakesSpec : ChangeSpec := { name := "divideMakes", fn := fun _ => fun
  | [d1, d2] => { results := [.lit (.bool true)], args := [d1, d2] }
  | _ => none }
def divideMakesRow : OpenClaim := { program := "ytacihclonpbngaa", sum := "bf4c946c89034c8cdfb0a4f48ceb22faf0b0bb7f268e9cfa7133110b56730cfb", func := "porism/porismlaw03.DivideMakes", spec := "divideMakes", unfollowed := true, recurses := true, apart := false }
def DivideMakesSaid : Prop := divideMakesRow.holds Try.pinned (OpenSpec.ofChange divideMakesSpec)

/-- ITS FALSE NEIGHBOUR: 'it returns false'. Refute it at one input. -/
def divideMakesWrong : ChangeSpec := { name := "divideMakes", fn := fun _ => fun
  | [d1, d2] => { results := [.lit (.bool false)], args := [d1, d2] }
  | _ => none }
def DivideMakesWrongFalsely : Prop := divideMakesRow.holds Try.pinned (OpenSpec.ofChange divideMakesWrong)

/-- 'porismlaw03.DivideTwice': WHATEVER THE INPUT: true; the input reads as it did. -/
def divideTwiceSpec : ChangeSpec := { name := "divideTwice", fn := fun _ => fun
  | [d1, d2, d3] => { results := [.lit (.bool true)], args := [d1, d2, d3] }
  | _ => none }
def divideTwiceRow : OpenClaim := { program := "ytacihclonpbngaa", sum := "bf4c946c89034c8cdfb0a4f48ceb22faf0b0bb7f268e9cfa7133110b56730cfb", func := "porism/porismlaw03.DivideTwice", spec := "divideTwice", unfollowed := true, recurses := true, apart := false }
def DivideTwiceSaid : Prop := divideTwiceRow.holds Try.pinned (OpenSpec.ofChange divideTwiceSpec)

/-- ITS FALSE NEIGHBOUR: 'it returns false'. Refute it at one input. -/
def divideTwiceWrong : ChangeSpec := { name := "divideTwice", fn := fun _ => fun
  | [d1, d2, d3] => { results := [.lit (.bool false)], args := [d1, d2, d3] }
  | _ => none }
def DivideTwiceWrongFalsely : Prop := divideTwiceRow.holds Try.pinned (OpenSpec.ofChange divideTwiceWrong)

/- THE SECOND FORM. 'bulk': how many values and letters a reading holds, each counted each time it is reached (what is shared counts as often as it is met; a slice's spare places count too). A statement '..UptoSaid' is the law's where the arguments, and the package variables that the reading takes, are together of bulk at most 1048576: NARROWER than '..Said'. Prove '..Said' where nothing that the law and all that it calls make is longer than what came in: it says more and counts as full. Else prove '..UptoSaid'. A law counts once. -/
mutual
def uptoBulk {H : Type} : DataW H → Nat
  | .lit (.string bytes) => bytes.length + 1
  | .lit _ => 1
  | .nil => 1
  | .ptr d => uptoBulk d + 1
  | .slice elems spare => uptoBulkAll elems + uptoBulkAll spare + 1
  | .agg parts => uptoBulkAll parts + 1
  | .iface _ d => uptoBulk d + 1
  | .map entries => uptoBulkEntries entries + 1
  | .held _ => 1
def uptoBulkAll {H : Type} : List (DataW H) → Nat
  | [] => 0
  | d :: r => uptoBulk d + uptoBulkAll r
def uptoBulkEntries {H : Type} : List (Lit × DataW H) → Nat
  | [] => 0
  | x :: r => uptoBulkEntry x + uptoBulkEntries r
def uptoBulkEntry {H : Type} : Lit × DataW H → Nat
  | (.string bytes, d) => bytes.length + uptoBulk d + 1
  | (_, d) => uptoBulk d + 1
 end
def uptoSmall : (H : Type) → List (DataW H) → Bool := fun _ ds => decide (uptoBulkAll ds ≤ 1048576)
def OpenSpec.upto (s : _root_.Go.ChangeSpec) : _root_.Go.OpenSpec := { _root_.Go.OpenSpec.ofChange s with cond := some uptoSmall }

/-- 'porismlaw02.TimesProduct', WHERE WHAT IT READS IS OF BULK AT MOST 1048576: true; the input reads as it did. -/
def timesProductUptoRow : OpenClaim := { program := "ytacihclonpbngaa", sum := "bf4c946c89034c8cdfb0a4f48ceb22faf0b0bb7f268e9cfa7133110b56730cfb", func := "porism/porismlaw02.TimesProduct", spec := "timesProduct", unfollowed := true, recurses := true, apart := false, narrowed := true }
def TimesProductUptoSaid : Prop := timesProductUptoRow.holds Try.pinned (OpenSpec.upto timesProductSpec)

/-- 'porismlaw02.TimesWays', WHERE WHAT IT READS IS OF BULK AT MOST 1048576: true; the input reads as it did. -/
def timesWaysUptoRow : OpenClaim := { program := "ytacihclonpbngaa", sum := "bf4c946c89034c8cdfb0a4f48ceb22faf0b0bb7f268e9cfa7133110b56730cfb", func := "porism/porismlaw02.TimesWays", spec := "timesWays", unfollowed := true, recurses := true, apart := false, narrowed := true }
def TimesWaysUptoSaid : Prop := timesWaysUptoRow.holds Try.pinned (OpenSpec.upto timesWaysSpec)

/-- 'porismlaw02.TimesShifts', WHERE WHAT IT READS IS OF BULK AT MOST 1048576: true; the input reads as it did. -/
def timesShiftsUptoRow : OpenClaim := { program := "ytacihclonpbngaa", sum := "bf4c946c89034c8cdfb0a4f48ceb22faf0b0bb7f268e9cfa7133110b56730cfb", func := "porism/porismlaw02.TimesShifts", spec := "timesShifts", unfollowed := true, recurses := true, apart := false, narrowed := true }
def TimesShiftsUptoSaid : Prop := timesShiftsUptoRow.holds Try.pinned (OpenSpec.upto timesShiftsSpec)

/-- 'porismlaw02.TimesLaws', WHERE WHAT IT READS IS OF BULK AT MOST 1048576: true; the input reads as it did. -/
def timesLawsUptoRow : OpenClaim := { program := "ytacihclonpbngaa", sum := "bf4c946c89034c8cdfb0a4f48ceb22faf0b0bb7f268e9cfa7133110b56730cfb", func := "porism/porismlaw02.TimesLaws", spec := "timesLaws", unfollowed := true, recurses := true, apart := false, narrowed := true }
def TimesLawsUptoSaid : Prop := timesLawsUptoRow.holds Try.pinned (OpenSpec.upto timesLawsSpec)

/-- 'porismlaw03.DivideBy', WHERE WHAT IT READS IS OF BULK AT MOST 1048576: true; the input reads as it did. -/
def divideByUptoRow : OpenClaim := { program := "ytacihclonpbngaa", sum := "bf4c946c89034c8cdfb0a4f48ceb22faf0b0bb7f268e9cfa7133110b56730cfb", func := "porism/porismlaw03.DivideBy", spec := "divideBy", apart := false, narrowed := true }
def DivideByUptoSaid : Prop := divideByUptoRow.holds Try.pinned (OpenSpec.upto divideBySpec)

/-- 'porismlaw03.DivideShifts', WHERE WHAT IT READS IS OF BULK AT MOST 1048576: true; the input reads as it did. -/
def divideShiftsUptoRow : OpenClaim := { program := "ytacihclonpbngaa", sum := "bf4c946c89034c8cdfb0a4f48ceb22faf0b0bb7f268e9cfa7133110b56730cfb", func := "porism/porismlaw03.DivideShifts", spec := "divideShifts", apart := false, narrowed := true }
def DivideShiftsUptoSaid : Prop := divideShiftsUptoRow.holds Try.pinned (OpenSpec.upto divideShiftsSpec)

/-- 'porismlaw03.DivideBack', WHERE WHAT IT READS IS OF BULK AT MOST 1048576: true; the input reads as it did. -/
def divideBackUptoRow : OpenClaim := { program := "ytacihclonpbngaa", sum := "bf4c946c89034c8cdfb0a4f48ceb22faf0b0bb7f268e9cfa7133110b56730cfb", func := "porism/porismlaw03.DivideBack", spec := "divideBack", unfollowed := true, recurses := true, apart := false, narrowed := true }
def DivideBackUptoSaid : Prop := divideBackUptoRow.holds Try.pinned (OpenSpec.upto divideBackSpec)

/-- 'porismlaw03.DivideMakes', WHERE WHAT IT READS IS OF BULK AT MOST 1048576: true; the input reads as it did. -/
def divideMakesUptoRow : OpenClaim := { program := "ytacihclonpbngaa", sum := "bf4c946c89034c8cdfb0a4f48ceb22faf0b0bb7f268e9cfa7133110b56730cfb", func := "porism/porismlaw03.DivideMakes", spec := "divideMakes", unfollowed := true, recurses := true, apart := false, narrowed := true }
def DivideMakesUptoSaid : Prop := divideMakesUptoRow.holds Try.pinned (OpenSpec.upto divideMakesSpec)

/-- 'porismlaw03.DivideTwice', WHERE WHAT IT READS IS OF BULK AT MOST 1048576: true; the input reads as it did. -/
def divideTwiceUptoRow : OpenClaim := { program := "ytacihclonpbngaa", sum := "bf4c946c89034c8cdfb0a4f48ceb22faf0b0bb7f268e9cfa7133110b56730cfb", func := "porism/porismlaw03.DivideTwice", spec := "divideTwice", unfollowed := true, recurses := true, apart := false, narrowed := true }
def DivideTwiceUptoSaid : Prop := divideTwiceUptoRow.holds Try.pinned (OpenSpec.upto divideTwiceSpec)

end Rows
end Go.Proofs.Ytacihclonpbngaa
