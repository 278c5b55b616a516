/-
  No cell of these rows narrows 'for every input' (looked for: loops, veiled, ifaces, maps, wideKeys, modest, calm, conditions, laid).
  DERIVED. THE GIVEN ROWS OF THIS SEAT. 17 by the template 'for every input the law returns true; each argument reads behind the call as it read before'; 0 by the template 'total and deterministic' (their statements: YtogfaahdbecdnaaTotals.lean).
  GIVEN WITH THE SEED: the statements are not yours to turn. If you find one false, say at which input.
  Laid BY PROGRAM, IN A SANDBOX (cutbox-rows.mjs): the forced cells as the released guide's own fill.sh prints them over the translation 727a846fd5b9eb1c… (all of the seat's roots in one cut). By AI agents, Wed Nov 11 2026. No macro, syntax, notation, axiom, sorry.
-/
import Derived.Test.YtogfaahdbecdnaaChecked
import GoSem.Claim
import GoSem.ClaimJoined
import GoSem.ClaimMapViews
import Derived.JoinedTies
import Derived.KernelRfl
namespace Go.Proofs.Ytogfaahdbecdnaa
/- THE CELL 'sum', in the pinned program and in every row, IS THE sha256 OF THE DUMP (.gsa) THAT YtogfaahdbecdnaaProg.lean LOADS. Nothing in Lean hashes anything: it is a label: what it is worth is what the hold of that sum in a sandbox is worth. -/
noncomputable def Try.pinned : Pinned := { name := "ytogfaahdbecdnaa", sum := "727a846fd5b9eb1c55e2239ce7a70448438738f0bd75585e45051cf068dc7581", checked := Try.checked }
namespace Rows
def none {H : Type} : Left H := { results := [], args := [] }

/-- 'colophonlaw03.LinesAll': WHATEVER THE INPUT: true; the input reads as it did. -/
def linesAllSpec : ChangeSpec := { name := "linesAll", fn := fun _ => fun
  | [d1, d2] => { results := [.lit (.bool true)], args := [d1, d2] }
  | _ => none }
def linesAllRow : OpenClaim := { program := "ytogfaahdbecdnaa", sum := "727a846fd5b9eb1c55e2239ce7a70448438738f0bd75585e45051cf068dc7581", func := "colophon/colophonlaw03.LinesAll", spec := "linesAll", unfollowed := true, recurses := true, apart := false }
def LinesAllSaid : Prop := linesAllRow.holds Try.pinned (OpenSpec.ofChange linesAllSpec)

/-- ITS FALSE NEIGHBOUR: 'it returns false'. Refute it at one input. -/
def linesAllWrong : ChangeSpec := { name := "linesAll", fn := fun _ => fun
  | [d1, d2] => { results := [.lit (.bool false)], args := [d1, d2] }
  | _ => none }
def LinesAllWrongFalsely : Prop := linesAllRow.holds Try.pinned (OpenSpec.ofChange linesAllWrong)

/-- 'colophonlaw03.LinesFind': WHATEVER THE INPUT: true; the input reads as it did. -/
def linesFindSpec : ChangeSpec := { name := "linesFind", fn := fun _ => fun
  | [d1, d2] => { results := [.lit (.bool true)], args := [d1, d2] }
  | _ => none }
def linesFindRow : OpenClaim := { program := "ytogfaahdbecdnaa", sum := "727a846fd5b9eb1c55e2239ce7a70448438738f0bd75585e45051cf068dc7581", func := "colophon/colophonlaw03.LinesFind", spec := "linesFind", unfollowed := true, recurses := true, apart := false }
def LinesFindSaid : Prop := linesFindRow.holds Try.pinned (OpenSpec.ofChange linesFindSpec)

/-- ITS FALSE NEIGHBOUR: 'it returns false'. Refute it at one input. -/
def linesFindWrong : ChangeSpec := { name := "linesFind", fn := fun _ => fun
  | [d1, d2] => { results := [.lit (.bool false)], args := [d1, d2] }
  | _ => none }
def LinesFindWrongFalsely : Prop := linesFindRow.holds Try.pinned (OpenSpec.ofChange linesFindWrong)

/-- 'colophonlaw03.LinesJoin': WHATEVER THE INPUT: true; the input reads as it did. -/
def linesJoinSpec : ChangeSpec := { name := "linesJoin", fn := fun _ => fun
  | [d] => { results := [.lit (.bool true)], args := [d] }
  | _ => none }
def linesJoinRow : OpenClaim := { program := "ytogfaahdbecdnaa", sum := "727a846fd5b9eb1c55e2239ce7a70448438738f0bd75585e45051cf068dc7581", func := "colophon/colophonlaw03.LinesJoin", spec := "linesJoin", unfollowed := true, recurses := true, apart := false }
def LinesJoinSaid : Prop := linesJoinRow.holds Try.pinned (OpenSpec.ofChange linesJoinSpec)

/-- ITS FALSE NEIGHBOUR: 'it returns false'. Refute it at one input. -/
def linesJoinWrong : ChangeSpec := { name := "linesJoin", fn := fun _ => fun
  | [d] => { results := [.lit (.bool false)], args := [d] }
  | _ => none }
def LinesJoinWrongFalsely : Prop := linesJoinRow.holds Try.pinned (OpenSpec.ofChange linesJoinWrong)

/-- 'colophonlaw03.LinesFound': WHATEVER THE INPUT: true; the input reads as it did. -/
def linesFoundSpec : ChangeSpec := { name := "linesFound", fn := fun _ => fun
  | [d1, d2] => { results := [.lit (.bool true)], args := [d1, d2] }
  | _ => none }
def linesFoundRow : OpenClaim := { program := "ytogfaahdbecdnaa", sum := "727a846fd5b9eb1c55e2239ce7a70448438738f0bd75585e45051cf068dc7581", func := "colophon/colophonlaw03.LinesFound", spec := "linesFound", unfollowed := true, recurses := true, apart := false }
def LinesFoundSaid : Prop := linesFoundRow.holds Try.pinned (OpenSpec.ofChange linesFoundSpec)

/-- ITS FALSE NEIGHBOUR: 'it returns false'. Refute it at one input. -/
def linesFoundWrong : ChangeSpec := { name := "linesFound", fn := fun _ => fun
  | [d1, d2] => { results := [.lit (.bool false)], args := [d1, d2] }
  | _ => none }
def LinesFoundWrongFalsely : Prop := linesFoundRow.holds Try.pinned (OpenSpec.ofChange linesFoundWrong)

/-- 'colophonlaw03.LinesRise': WHATEVER THE INPUT: true; the input reads as it did. -/
def linesRiseSpec : ChangeSpec := { name := "linesRise", fn := fun _ => fun
  | [d1, d2, d3] => { results := [.lit (.bool true)], args := [d1, d2, d3] }
  | _ => none }
def linesRiseRow : OpenClaim := { program := "ytogfaahdbecdnaa", sum := "727a846fd5b9eb1c55e2239ce7a70448438738f0bd75585e45051cf068dc7581", func := "colophon/colophonlaw03.LinesRise", spec := "linesRise", unfollowed := true, recurses := true, apart := false }
def LinesRiseSaid : Prop := linesRiseRow.holds Try.pinned (OpenSpec.ofChange linesRiseSpec)

/-- ITS FALSE NEIGHBOUR: 'it returns false'. Refute it at one input. -/
def linesRiseWrong : ChangeSpec := { name := "linesRise", fn := fun _ => fun
  | [d1, d2, d3] => { results := [.lit (.bool false)], args := [d1, d2, d3] }
  | _ => none }
def LinesRiseWrongFalsely : Prop := linesRiseRow.holds Try.pinned (OpenSpec.ofChange linesRiseWrong)

/-- 'colophonlaw03.LinesTwo': WHATEVER THE INPUT: true; the input reads as it did. -/
def linesTwoSpec : ChangeSpec := { name := "linesTwo", fn := fun _ => fun
  | [d1, d2] => { results := [.lit (.bool true)], args := [d1, d2] }
  | _ => none }
def linesTwoRow : OpenClaim := { program := "ytogfaahdbecdnaa", sum := "727a846fd5b9eb1c55e2239ce7a70448438738f0bd75585e45051cf068dc7581", func := "colophon/colophonlaw03.LinesTwo", spec := "linesTwo", unfollowed := true, recurses := true, apart := false }
def LinesTwoSaid : Prop := linesTwoRow.holds Try.pinned (OpenSpec.ofChange linesTwoSpec)

/-- ITS FALSE NEIGHBOUR: 'it returns false'. Refute it at one input. -/
def linesTwoWrong : ChangeSpec := { name := "linesTwo", fn := fun _ => fun
  | [d1, d2] => { results := [.lit (.bool false)], args := [d1, d2] }
  | _ => none }
def LinesTwoWrongFalsely : Prop := linesTwoRow.holds Try.pinned (OpenSpec.ofChange linesTwoWrong)

/-- 'colophonlaw03.LinesPlain': WHATEVER THE INPUT: true; the input reads as it did. -/
def linesPlainSpec : ChangeSpec := { name := "linesPlain", fn := fun _ => fun
  | [d1, d2] => { results := [.lit (.bool true)], args := [d1, d2] }
  | _ => none }
def linesPlainRow : OpenClaim := { program := "ytogfaahdbecdnaa", sum := "727a846fd5b9eb1c55e2239ce7a70448438738f0bd75585e45051cf068dc7581", func := "colophon/colophonlaw03.LinesPlain", spec := "linesPlain", unfollowed := true, recurses := true, apart := false }
def LinesPlainSaid : Prop := linesPlainRow.holds Try.pinned (OpenSpec.ofChange linesPlainSpec)

/-- ITS FALSE NEIGHBOUR: 'it returns false'. Refute it at one input. -/
def linesPlainWrong : ChangeSpec := { name := "linesPlain", fn := fun _ => fun
  | [d1, d2] => { results := [.lit (.bool false)], args := [d1, d2] }
  | _ => none }
def LinesPlainWrongFalsely : Prop := linesPlainRow.holds Try.pinned (OpenSpec.ofChange linesPlainWrong)

/-- 'colophonlaw03.LinesKnown': WHATEVER THE INPUT: true; the input reads as it did. -/
def linesKnownSpec : ChangeSpec := { name := "linesKnown", fn := fun _ => fun
  | [] => { results := [.lit (.bool true)], args := [] }
  | _ => none }
def linesKnownRow : OpenClaim := { program := "ytogfaahdbecdnaa", sum := "727a846fd5b9eb1c55e2239ce7a70448438738f0bd75585e45051cf068dc7581", func := "colophon/colophonlaw03.LinesKnown", spec := "linesKnown", unfollowed := true, recurses := true, apart := false }
def LinesKnownSaid : Prop := linesKnownRow.holds Try.pinned (OpenSpec.ofChange linesKnownSpec)

/-- ITS FALSE NEIGHBOUR: 'it returns false'. Refute it at one input. -/
def linesKnownWrong : ChangeSpec := { name := "linesKnown", fn := fun _ => fun
  | [] => { results := [.lit (.bool false)], args := [] }
  | _ => none }
def LinesKnownWrongFalsely : Prop := linesKnownRow.holds Try.pinned (OpenSpec.ofChange linesKnownWrong)

/-- 'colophonlaw04.PlaceOffset': WHATEVER THE INPUT: true; the input reads as it did. -/
def placeOffsetSpec : ChangeSpec := { name := "placeOffset", fn := fun _ => fun
  | [d1, d2, d3] => { results := [.lit (.bool true)], args := [d1, d2, d3] }
  | _ => none }
def placeOffsetRow : OpenClaim := { program := "ytogfaahdbecdnaa", sum := "727a846fd5b9eb1c55e2239ce7a70448438738f0bd75585e45051cf068dc7581", func := "colophon/colophonlaw04.PlaceOffset", spec := "placeOffset", unfollowed := true, recurses := true, apart := false }
def PlaceOffsetSaid : Prop := placeOffsetRow.holds Try.pinned (OpenSpec.ofChange placeOffsetSpec)

/-- ITS FALSE NEIGHBOUR: 'it returns false'. Refute it at one input. -/
def placeOffsetWrong : ChangeSpec := { name := "placeOffset", fn := fun _ => fun
  | [d1, d2, d3] => { results := [.lit (.bool false)], args := [d1, d2, d3] }
  | _ => none }
def PlaceOffsetWrongFalsely : Prop := placeOffsetRow.holds Try.pinned (OpenSpec.ofChange placeOffsetWrong)

/-- 'colophonlaw04.PlaceBack': WHATEVER THE INPUT: true; the input reads as it did. -/
def placeBackSpec : ChangeSpec := { name := "placeBack", fn := fun _ => fun
  | [d] => { results := [.lit (.bool true)], args := [d] }
  | _ => none }
def placeBackRow : OpenClaim := { program := "ytogfaahdbecdnaa", sum := "727a846fd5b9eb1c55e2239ce7a70448438738f0bd75585e45051cf068dc7581", func := "colophon/colophonlaw04.PlaceBack", spec := "placeBack", unfollowed := true, recurses := true, apart := false }
def PlaceBackSaid : Prop := placeBackRow.holds Try.pinned (OpenSpec.ofChange placeBackSpec)

/-- ITS FALSE NEIGHBOUR: 'it returns false'. Refute it at one input. -/
def placeBackWrong : ChangeSpec := { name := "placeBack", fn := fun _ => fun
  | [d] => { results := [.lit (.bool false)], args := [d] }
  | _ => none }
def PlaceBackWrongFalsely : Prop := placeBackRow.holds Try.pinned (OpenSpec.ofChange placeBackWrong)

/-- 'colophonlaw04.PlaceAgain': WHATEVER THE INPUT: true; the input reads as it did. -/
def placeAgainSpec : ChangeSpec := { name := "placeAgain", fn := fun _ => fun
  | [d1, d2, d3] => { results := [.lit (.bool true)], args := [d1, d2, d3] }
  | _ => none }
def placeAgainRow : OpenClaim := { program := "ytogfaahdbecdnaa", sum := "727a846fd5b9eb1c55e2239ce7a70448438738f0bd75585e45051cf068dc7581", func := "colophon/colophonlaw04.PlaceAgain", spec := "placeAgain", unfollowed := true, recurses := true, apart := false }
def PlaceAgainSaid : Prop := placeAgainRow.holds Try.pinned (OpenSpec.ofChange placeAgainSpec)

/-- ITS FALSE NEIGHBOUR: 'it returns false'. Refute it at one input. -/
def placeAgainWrong : ChangeSpec := { name := "placeAgain", fn := fun _ => fun
  | [d1, d2, d3] => { results := [.lit (.bool false)], args := [d1, d2, d3] }
  | _ => none }
def PlaceAgainWrongFalsely : Prop := placeAgainRow.holds Try.pinned (OpenSpec.ofChange placeAgainWrong)

/-- 'colophonlaw04.PlaceOrder': WHATEVER THE INPUT: true; the input reads as it did. -/
def placeOrderSpec : ChangeSpec := { name := "placeOrder", fn := fun _ => fun
  | [d1, d2, d3] => { results := [.lit (.bool true)], args := [d1, d2, d3] }
  | _ => none }
def placeOrderRow : OpenClaim := { program := "ytogfaahdbecdnaa", sum := "727a846fd5b9eb1c55e2239ce7a70448438738f0bd75585e45051cf068dc7581", func := "colophon/colophonlaw04.PlaceOrder", spec := "placeOrder", unfollowed := true, recurses := true, apart := false }
def PlaceOrderSaid : Prop := placeOrderRow.holds Try.pinned (OpenSpec.ofChange placeOrderSpec)

/-- ITS FALSE NEIGHBOUR: 'it returns false'. Refute it at one input. -/
def placeOrderWrong : ChangeSpec := { name := "placeOrder", fn := fun _ => fun
  | [d1, d2, d3] => { results := [.lit (.bool false)], args := [d1, d2, d3] }
  | _ => none }
def PlaceOrderWrongFalsely : Prop := placeOrderRow.holds Try.pinned (OpenSpec.ofChange placeOrderWrong)

/-- 'colophonlaw04.PlaceRise': WHATEVER THE INPUT: true; the input reads as it did. -/
def placeRiseSpec : ChangeSpec := { name := "placeRise", fn := fun _ => fun
  | [d1, d2, d3] => { results := [.lit (.bool true)], args := [d1, d2, d3] }
  | _ => none }
def placeRiseRow : OpenClaim := { program := "ytogfaahdbecdnaa", sum := "727a846fd5b9eb1c55e2239ce7a70448438738f0bd75585e45051cf068dc7581", func := "colophon/colophonlaw04.PlaceRise", spec := "placeRise", unfollowed := true, recurses := true, apart := false }
def PlaceRiseSaid : Prop := placeRiseRow.holds Try.pinned (OpenSpec.ofChange placeRiseSpec)

/-- ITS FALSE NEIGHBOUR: 'it returns false'. Refute it at one input. -/
def placeRiseWrong : ChangeSpec := { name := "placeRise", fn := fun _ => fun
  | [d1, d2, d3] => { results := [.lit (.bool false)], args := [d1, d2, d3] }
  | _ => none }
def PlaceRiseWrongFalsely : Prop := placeRiseRow.holds Try.pinned (OpenSpec.ofChange placeRiseWrong)

/-- 'colophonlaw04.PlaceUnits': WHATEVER THE INPUT: true; the input reads as it did. -/
def placeUnitsSpec : ChangeSpec := { name := "placeUnits", fn := fun _ => fun
  | [d1, d2] => { results := [.lit (.bool true)], args := [d1, d2] }
  | _ => none }
def placeUnitsRow : OpenClaim := { program := "ytogfaahdbecdnaa", sum := "727a846fd5b9eb1c55e2239ce7a70448438738f0bd75585e45051cf068dc7581", func := "colophon/colophonlaw04.PlaceUnits", spec := "placeUnits", unfollowed := true, recurses := true, apart := false }
def PlaceUnitsSaid : Prop := placeUnitsRow.holds Try.pinned (OpenSpec.ofChange placeUnitsSpec)

/-- ITS FALSE NEIGHBOUR: 'it returns false'. Refute it at one input. -/
def placeUnitsWrong : ChangeSpec := { name := "placeUnits", fn := fun _ => fun
  | [d1, d2] => { results := [.lit (.bool false)], args := [d1, d2] }
  | _ => none }
def PlaceUnitsWrongFalsely : Prop := placeUnitsRow.holds Try.pinned (OpenSpec.ofChange placeUnitsWrong)

/-- 'colophonlaw04.PlaceSpan': WHATEVER THE INPUT: true; the input reads as it did. -/
def placeSpanSpec : ChangeSpec := { name := "placeSpan", fn := fun _ => fun
  | [d1, d2, d3] => { results := [.lit (.bool true)], args := [d1, d2, d3] }
  | _ => none }
def placeSpanRow : OpenClaim := { program := "ytogfaahdbecdnaa", sum := "727a846fd5b9eb1c55e2239ce7a70448438738f0bd75585e45051cf068dc7581", func := "colophon/colophonlaw04.PlaceSpan", spec := "placeSpan", unfollowed := true, recurses := true, apart := false }
def PlaceSpanSaid : Prop := placeSpanRow.holds Try.pinned (OpenSpec.ofChange placeSpanSpec)

/-- ITS FALSE NEIGHBOUR: 'it returns false'. Refute it at one input. -/
def placeSpanWrong : ChangeSpec := { name := "placeSpan", fn := fun _ => fun
  | [d1, d2, d3] => { results := [.lit (.bool false)], args := [d1, d2, d3] }
  | _ => none }
def PlaceSpanWrongFalsely : Prop := placeSpanRow.holds Try.pinned (OpenSpec.ofChange placeSpanWrong)

/-- 'colophonlaw04.PlaceSpans': WHATEVER THE INPUT: true; the input reads as it did. -/
def placeSpansSpec : ChangeSpec := { name := "placeSpans", fn := fun _ => fun
  | [d1, d2, d3] => { results := [.lit (.bool true)], args := [d1, d2, d3] }
  | _ => none }
def placeSpansRow : OpenClaim := { program := "ytogfaahdbecdnaa", sum := "727a846fd5b9eb1c55e2239ce7a70448438738f0bd75585e45051cf068dc7581", func := "colophon/colophonlaw04.PlaceSpans", spec := "placeSpans", unfollowed := true, recurses := true, apart := false }
def PlaceSpansSaid : Prop := placeSpansRow.holds Try.pinned (OpenSpec.ofChange placeSpansSpec)

/-- ITS FALSE NEIGHBOUR: 'it returns false'. Refute it at one input. -/
def placeSpansWrong : ChangeSpec := { name := "placeSpans", fn := fun _ => fun
  | [d1, d2, d3] => { results := [.lit (.bool false)], args := [d1, d2, d3] }
  | _ => none }
def PlaceSpansWrongFalsely : Prop := placeSpansRow.holds Try.pinned (OpenSpec.ofChange placeSpansWrong)

/-- 'colophonlaw04.PlaceKnown': WHATEVER THE INPUT: true; the input reads as it did. -/
def placeKnownSpec : ChangeSpec := { name := "placeKnown", fn := fun _ => fun
  | [] => { results := [.lit (.bool true)], args := [] }
  | _ => none }
def placeKnownRow : OpenClaim := { program := "ytogfaahdbecdnaa", sum := "727a846fd5b9eb1c55e2239ce7a70448438738f0bd75585e45051cf068dc7581", func := "colophon/colophonlaw04.PlaceKnown", spec := "placeKnown", unfollowed := true, recurses := true, apart := false }
def PlaceKnownSaid : Prop := placeKnownRow.holds Try.pinned (OpenSpec.ofChange placeKnownSpec)

/-- ITS FALSE NEIGHBOUR: 'it returns false'. Refute it at one input. -/
def placeKnownWrong : ChangeSpec := { name := "placeKnown", fn := fun _ => fun
  | [] => { results := [.lit (.bool false)], args := [] }
  | _ => none }
def PlaceKnownWrongFalsely : Prop := placeKnownRow.holds Try.pinned (OpenSpec.ofChange placeKnownWrong)

/- THE SECOND FORM. 'bulk': how many values and letters a reading holds, each counted each time it is reached (what is shared counts as often as it is met; a slice's spare places count too). A statement '..UptoSaid' is the law's where the arguments, and the package variables that the reading takes, are together of bulk at most 1048576: NARROWER than '..Said'. Prove '..Said' where nothing that the law and all that it calls make is longer than what came in: it says more and counts as full. Else prove '..UptoSaid'. A law counts once. -/
mutual
def uptoBulk {H : Type} : DataW H → Nat
  | .lit (.string bytes) => bytes.length + 1
  | .lit _ => 1
  | .nil => 1
  | .ptr d => uptoBulk d + 1
  | .slice elems spare => uptoBulkAll elems + uptoBulkAll spare + 1
  | .agg parts => uptoBulkAll parts + 1
  | .iface _ d => uptoBulk d + 1
  | .map entries => uptoBulkEntries entries + 1
  | .held _ => 1
def uptoBulkAll {H : Type} : List (DataW H) → Nat
  | [] => 0
  | d :: r => uptoBulk d + uptoBulkAll r
def uptoBulkEntries {H : Type} : List (Lit × DataW H) → Nat
  | [] => 0
  | x :: r => uptoBulkEntry x + uptoBulkEntries r
def uptoBulkEntry {H : Type} : Lit × DataW H → Nat
  | (.string bytes, d) => bytes.length + uptoBulk d + 1
  | (_, d) => uptoBulk d + 1
 end
def uptoSmall : (H : Type) → List (DataW H) → Bool := fun _ ds => decide (uptoBulkAll ds ≤ 1048576)
def OpenSpec.upto (s : _root_.Go.ChangeSpec) : _root_.Go.OpenSpec := { _root_.Go.OpenSpec.ofChange s with cond := some uptoSmall }

/-- 'colophonlaw03.LinesAll', WHERE WHAT IT READS IS OF BULK AT MOST 1048576: true; the input reads as it did. -/
def linesAllUptoRow : OpenClaim := { program := "ytogfaahdbecdnaa", sum := "727a846fd5b9eb1c55e2239ce7a70448438738f0bd75585e45051cf068dc7581", func := "colophon/colophonlaw03.LinesAll", spec := "linesAll", unfollowed := true, recurses := true, apart := false, narrowed := true }
def LinesAllUptoSaid : Prop := linesAllUptoRow.holds Try.pinned (OpenSpec.upto linesAllSpec)

/-- 'colophonlaw03.LinesFind', WHERE WHAT IT READS IS OF BULK AT MOST 1048576: true; the input reads as it did. -/
def linesFindUptoRow : OpenClaim := { program := "ytogfaahdbecdnaa", sum := "727a846fd5b9eb1c55e2239ce7a70448438738f0bd75585e45051cf068dc7581", func := "colophon/colophonlaw03.LinesFind", spec := "linesFind", unfollowed := true, recurses := true, apart := false, narrowed := true }
def LinesFindUptoSaid : Prop := linesFindUptoRow.holds Try.pinned (OpenSpec.upto linesFindSpec)

/-- 'colophonlaw03.LinesJoin', WHERE WHAT IT READS IS OF BULK AT MOST 1048576: true; the input reads as it did. -/
def linesJoinUptoRow : OpenClaim := { program := "ytogfaahdbecdnaa", sum := "727a846fd5b9eb1c55e2239ce7a70448438738f0bd75585e45051cf068dc7581", func := "colophon/colophonlaw03.LinesJoin", spec := "linesJoin", unfollowed := true, recurses := true, apart := false, narrowed := true }
def LinesJoinUptoSaid : Prop := linesJoinUptoRow.holds Try.pinned (OpenSpec.upto linesJoinSpec)

/-- 'colophonlaw03.LinesFound', WHERE WHAT IT READS IS OF BULK AT MOST 1048576: true; the input reads as it did. -/
def linesFoundUptoRow : OpenClaim := { program := "ytogfaahdbecdnaa", sum := "727a846fd5b9eb1c55e2239ce7a70448438738f0bd75585e45051cf068dc7581", func := "colophon/colophonlaw03.LinesFound", spec := "linesFound", unfollowed := true, recurses := true, apart := false, narrowed := true }
def LinesFoundUptoSaid : Prop := linesFoundUptoRow.holds Try.pinned (OpenSpec.upto linesFoundSpec)

/-- 'colophonlaw03.LinesRise', WHERE WHAT IT READS IS OF BULK AT MOST 1048576: true; the input reads as it did. -/
def linesRiseUptoRow : OpenClaim := { program := "ytogfaahdbecdnaa", sum := "727a846fd5b9eb1c55e2239ce7a70448438738f0bd75585e45051cf068dc7581", func := "colophon/colophonlaw03.LinesRise", spec := "linesRise", unfollowed := true, recurses := true, apart := false, narrowed := true }
def LinesRiseUptoSaid : Prop := linesRiseUptoRow.holds Try.pinned (OpenSpec.upto linesRiseSpec)

/-- 'colophonlaw03.LinesTwo', WHERE WHAT IT READS IS OF BULK AT MOST 1048576: true; the input reads as it did. -/
def linesTwoUptoRow : OpenClaim := { program := "ytogfaahdbecdnaa", sum := "727a846fd5b9eb1c55e2239ce7a70448438738f0bd75585e45051cf068dc7581", func := "colophon/colophonlaw03.LinesTwo", spec := "linesTwo", unfollowed := true, recurses := true, apart := false, narrowed := true }
def LinesTwoUptoSaid : Prop := linesTwoUptoRow.holds Try.pinned (OpenSpec.upto linesTwoSpec)

/-- 'colophonlaw03.LinesPlain', WHERE WHAT IT READS IS OF BULK AT MOST 1048576: true; the input reads as it did. -/
def linesPlainUptoRow : OpenClaim := { program := "ytogfaahdbecdnaa", sum := "727a846fd5b9eb1c55e2239ce7a70448438738f0bd75585e45051cf068dc7581", func := "colophon/colophonlaw03.LinesPlain", spec := "linesPlain", unfollowed := true, recurses := true, apart := false, narrowed := true }
def LinesPlainUptoSaid : Prop := linesPlainUptoRow.holds Try.pinned (OpenSpec.upto linesPlainSpec)

/-- 'colophonlaw03.LinesKnown', WHERE WHAT IT READS IS OF BULK AT MOST 1048576: true; the input reads as it did. -/
def linesKnownUptoRow : OpenClaim := { program := "ytogfaahdbecdnaa", sum := "727a846fd5b9eb1c55e2239ce7a70448438738f0bd75585e45051cf068dc7581", func := "colophon/colophonlaw03.LinesKnown", spec := "linesKnown", unfollowed := true, recurses := true, apart := false, narrowed := true }
def LinesKnownUptoSaid : Prop := linesKnownUptoRow.holds Try.pinned (OpenSpec.upto linesKnownSpec)

/-- 'colophonlaw04.PlaceOffset', WHERE WHAT IT READS IS OF BULK AT MOST 1048576: true; the input reads as it did. -/
def placeOffsetUptoRow : OpenClaim := { program := "ytogfaahdbecdnaa", sum := "727a846fd5b9eb1c55e2239ce7a70448438738f0bd75585e45051cf068dc7581", func := "colophon/colophonlaw04.PlaceOffset", spec := "placeOffset", unfollowed := true, recurses := true, apart := false, narrowed := true }
def PlaceOffsetUptoSaid : Prop := placeOffsetUptoRow.holds Try.pinned (OpenSpec.upto placeOffsetSpec)

/-- 'colophonlaw04.PlaceBack', WHERE WHAT IT READS IS OF BULK AT MOST 1048576: true; the input reads as it did. -/
def placeBackUptoRow : OpenClaim := { program := "ytogfaahdbecdnaa", sum := "727a846fd5b9eb1c55e2239ce7a70448438738f0bd75585e45051cf068dc7581", func := "colophon/colophonlaw04.PlaceBack", spec := "placeBack", unfollowed := true, recurses := true, apart := false, narrowed := true }
def PlaceBackUptoSaid : Prop := placeBackUptoRow.holds Try.pinned (OpenSpec.upto placeBackSpec)

/-- 'colophonlaw04.PlaceAgain', WHERE WHAT IT READS IS OF BULK AT MOST 1048576: true; the input reads as it did. -/
def placeAgainUptoRow : OpenClaim := { program := "ytogfaahdbecdnaa", sum := "727a846fd5b9eb1c55e2239ce7a70448438738f0bd75585e45051cf068dc7581", func := "colophon/colophonlaw04.PlaceAgain", spec := "placeAgain", unfollowed := true, recurses := true, apart := false, narrowed := true }
def PlaceAgainUptoSaid : Prop := placeAgainUptoRow.holds Try.pinned (OpenSpec.upto placeAgainSpec)

/-- 'colophonlaw04.PlaceOrder', WHERE WHAT IT READS IS OF BULK AT MOST 1048576: true; the input reads as it did. -/
def placeOrderUptoRow : OpenClaim := { program := "ytogfaahdbecdnaa", sum := "727a846fd5b9eb1c55e2239ce7a70448438738f0bd75585e45051cf068dc7581", func := "colophon/colophonlaw04.PlaceOrder", spec := "placeOrder", unfollowed := true, recurses := true, apart := false, narrowed := true }
def PlaceOrderUptoSaid : Prop := placeOrderUptoRow.holds Try.pinned (OpenSpec.upto placeOrderSpec)

/-- 'colophonlaw04.PlaceRise', WHERE WHAT IT READS IS OF BULK AT MOST 1048576: true; the input reads as it did. -/
def placeRiseUptoRow : OpenClaim := { program := "ytogfaahdbecdnaa", sum := "727a846fd5b9eb1c55e2239ce7a70448438738f0bd75585e45051cf068dc7581", func := "colophon/colophonlaw04.PlaceRise", spec := "placeRise", unfollowed := true, recurses := true, apart := false, narrowed := true }
def PlaceRiseUptoSaid : Prop := placeRiseUptoRow.holds Try.pinned (OpenSpec.upto placeRiseSpec)

/-- 'colophonlaw04.PlaceUnits', WHERE WHAT IT READS IS OF BULK AT MOST 1048576: true; the input reads as it did. -/
def placeUnitsUptoRow : OpenClaim := { program := "ytogfaahdbecdnaa", sum := "727a846fd5b9eb1c55e2239ce7a70448438738f0bd75585e45051cf068dc7581", func := "colophon/colophonlaw04.PlaceUnits", spec := "placeUnits", unfollowed := true, recurses := true, apart := false, narrowed := true }
def PlaceUnitsUptoSaid : Prop := placeUnitsUptoRow.holds Try.pinned (OpenSpec.upto placeUnitsSpec)

/-- 'colophonlaw04.PlaceSpan', WHERE WHAT IT READS IS OF BULK AT MOST 1048576: true; the input reads as it did. -/
def placeSpanUptoRow : OpenClaim := { program := "ytogfaahdbecdnaa", sum := "727a846fd5b9eb1c55e2239ce7a70448438738f0bd75585e45051cf068dc7581", func := "colophon/colophonlaw04.PlaceSpan", spec := "placeSpan", unfollowed := true, recurses := true, apart := false, narrowed := true }
def PlaceSpanUptoSaid : Prop := placeSpanUptoRow.holds Try.pinned (OpenSpec.upto placeSpanSpec)

/-- 'colophonlaw04.PlaceSpans', WHERE WHAT IT READS IS OF BULK AT MOST 1048576: true; the input reads as it did. -/
def placeSpansUptoRow : OpenClaim := { program := "ytogfaahdbecdnaa", sum := "727a846fd5b9eb1c55e2239ce7a70448438738f0bd75585e45051cf068dc7581", func := "colophon/colophonlaw04.PlaceSpans", spec := "placeSpans", unfollowed := true, recurses := true, apart := false, narrowed := true }
def PlaceSpansUptoSaid : Prop := placeSpansUptoRow.holds Try.pinned (OpenSpec.upto placeSpansSpec)

/-- 'colophonlaw04.PlaceKnown', WHERE WHAT IT READS IS OF BULK AT MOST 1048576: true; the input reads as it did. -/
def placeKnownUptoRow : OpenClaim := { program := "ytogfaahdbecdnaa", sum := "727a846fd5b9eb1c55e2239ce7a70448438738f0bd75585e45051cf068dc7581", func := "colophon/colophonlaw04.PlaceKnown", spec := "placeKnown", unfollowed := true, recurses := true, apart := false, narrowed := true }
def PlaceKnownUptoSaid : Prop := placeKnownUptoRow.holds Try.pinned (OpenSpec.upto placeKnownSpec)

end Rows
end Go.Proofs.Ytogfaahdbecdnaa
