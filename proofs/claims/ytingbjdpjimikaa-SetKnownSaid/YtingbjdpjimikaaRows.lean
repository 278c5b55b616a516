/-
  No cell of these rows narrows 'for every input' (looked for: loops, veiled, ifaces, maps, wideKeys, modest, calm, conditions, laid).
  DERIVED. THE GIVEN ROWS OF THIS SEAT. 7 by the template 'for every input the law returns true; each argument reads behind the call as it read before'; 0 by the template 'total and deterministic' (their statements: YtingbjdpjimikaaTotals.lean).
  GIVEN WITH THE SEED: the statements are not yours to turn. If you find one false, say at which input.
  Laid BY PROGRAM, IN A SANDBOX (cutbox-rows.mjs): the forced cells as the released guide's own fill.sh prints them over the translation a11b701249f53608… (all of the seat's roots in one cut). By AI agents, Wed Nov 11 2026. No macro, syntax, notation, axiom, sorry.
-/
import Derived.Test.YtingbjdpjimikaaChecked
import GoSem.Claim
import GoSem.ClaimJoined
import GoSem.ClaimMapViews
import Derived.JoinedTies
import Derived.KernelRfl
namespace Go.Proofs.Ytingbjdpjimikaa
/- THE CELL 'sum', in the pinned program and in every row, IS THE sha256 OF THE DUMP (.gsa) THAT YtingbjdpjimikaaProg.lean LOADS. Nothing in Lean hashes anything: it is a label: what it is worth is what the hold of that sum in a sandbox is worth. -/
noncomputable def Try.pinned : Pinned := { name := "ytingbjdpjimikaa", sum := "a11b701249f53608a11585a7cf94261dcb213b0addea9dec8ac8c98d37055886", checked := Try.checked }
namespace Rows
def none {H : Type} : Left H := { results := [], args := [] }

/-- 'colophonlaw17.SetOf': WHATEVER THE INPUT: true; the input reads as it did. -/
def setOfSpec : ChangeSpec := { name := "setOf", fn := fun _ => fun
  | [d1, d2] => { results := [.lit (.bool true)], args := [d1, d2] }
  | _ => none }
def setOfRow : OpenClaim := { program := "ytingbjdpjimikaa", sum := "a11b701249f53608a11585a7cf94261dcb213b0addea9dec8ac8c98d37055886", func := "colophon/colophonlaw17.SetOf", spec := "setOf", unfollowed := true, recurses := true, apart := false }
def SetOfSaid : Prop := setOfRow.holds Try.pinned (OpenSpec.ofChange setOfSpec)

/-- ITS FALSE NEIGHBOUR: 'it returns false'. Refute it at one input. -/
def setOfWrong : ChangeSpec := { name := "setOf", fn := fun _ => fun
  | [d1, d2] => { results := [.lit (.bool false)], args := [d1, d2] }
  | _ => none }
def SetOfWrongFalsely : Prop := setOfRow.holds Try.pinned (OpenSpec.ofChange setOfWrong)

/-- 'colophonlaw17.SetTwo': WHATEVER THE INPUT: true; the input reads as it did. -/
def setTwoSpec : ChangeSpec := { name := "setTwo", fn := fun _ => fun
  | [d1, d2] => { results := [.lit (.bool true)], args := [d1, d2] }
  | _ => none }
def setTwoRow : OpenClaim := { program := "ytingbjdpjimikaa", sum := "a11b701249f53608a11585a7cf94261dcb213b0addea9dec8ac8c98d37055886", func := "colophon/colophonlaw17.SetTwo", spec := "setTwo", unfollowed := true, recurses := true, apart := false }
def SetTwoSaid : Prop := setTwoRow.holds Try.pinned (OpenSpec.ofChange setTwoSpec)

/-- ITS FALSE NEIGHBOUR: 'it returns false'. Refute it at one input. -/
def setTwoWrong : ChangeSpec := { name := "setTwo", fn := fun _ => fun
  | [d1, d2] => { results := [.lit (.bool false)], args := [d1, d2] }
  | _ => none }
def SetTwoWrongFalsely : Prop := setTwoRow.holds Try.pinned (OpenSpec.ofChange setTwoWrong)

/-- 'colophonlaw17.SetMeans': WHATEVER THE INPUT: true; the input reads as it did. -/
def setMeansSpec : ChangeSpec := { name := "setMeans", fn := fun _ => fun
  | [d1, d2, d3] => { results := [.lit (.bool true)], args := [d1, d2, d3] }
  | _ => none }
def setMeansRow : OpenClaim := { program := "ytingbjdpjimikaa", sum := "a11b701249f53608a11585a7cf94261dcb213b0addea9dec8ac8c98d37055886", func := "colophon/colophonlaw17.SetMeans", spec := "setMeans", unfollowed := true, recurses := true, apart := false }
def SetMeansSaid : Prop := setMeansRow.holds Try.pinned (OpenSpec.ofChange setMeansSpec)

/-- ITS FALSE NEIGHBOUR: 'it returns false'. Refute it at one input. -/
def setMeansWrong : ChangeSpec := { name := "setMeans", fn := fun _ => fun
  | [d1, d2, d3] => { results := [.lit (.bool false)], args := [d1, d2, d3] }
  | _ => none }
def SetMeansWrongFalsely : Prop := setMeansRow.holds Try.pinned (OpenSpec.ofChange setMeansWrong)

/-- 'colophonlaw17.SetForm': WHATEVER THE INPUT: true; the input reads as it did. -/
def setFormSpec : ChangeSpec := { name := "setForm", fn := fun _ => fun
  | [d1, d2] => { results := [.lit (.bool true)], args := [d1, d2] }
  | _ => none }
def setFormRow : OpenClaim := { program := "ytingbjdpjimikaa", sum := "a11b701249f53608a11585a7cf94261dcb213b0addea9dec8ac8c98d37055886", func := "colophon/colophonlaw17.SetForm", spec := "setForm", unfollowed := true, recurses := true, apart := false }
def SetFormSaid : Prop := setFormRow.holds Try.pinned (OpenSpec.ofChange setFormSpec)

/-- ITS FALSE NEIGHBOUR: 'it returns false'. Refute it at one input. -/
def setFormWrong : ChangeSpec := { name := "setForm", fn := fun _ => fun
  | [d1, d2] => { results := [.lit (.bool false)], args := [d1, d2] }
  | _ => none }
def SetFormWrongFalsely : Prop := setFormRow.holds Try.pinned (OpenSpec.ofChange setFormWrong)

/-- 'colophonlaw17.SetNots': WHATEVER THE INPUT: true; the input reads as it did. -/
def setNotsSpec : ChangeSpec := { name := "setNots", fn := fun _ => fun
  | [d1, d2] => { results := [.lit (.bool true)], args := [d1, d2] }
  | _ => none }
def setNotsRow : OpenClaim := { program := "ytingbjdpjimikaa", sum := "a11b701249f53608a11585a7cf94261dcb213b0addea9dec8ac8c98d37055886", func := "colophon/colophonlaw17.SetNots", spec := "setNots", unfollowed := true, recurses := true, apart := false }
def SetNotsSaid : Prop := setNotsRow.holds Try.pinned (OpenSpec.ofChange setNotsSpec)

/-- ITS FALSE NEIGHBOUR: 'it returns false'. Refute it at one input. -/
def setNotsWrong : ChangeSpec := { name := "setNots", fn := fun _ => fun
  | [d1, d2] => { results := [.lit (.bool false)], args := [d1, d2] }
  | _ => none }
def SetNotsWrongFalsely : Prop := setNotsRow.holds Try.pinned (OpenSpec.ofChange setNotsWrong)

/-- 'colophonlaw17.SetParts': WHATEVER THE INPUT: true; the input reads as it did. -/
def setPartsSpec : ChangeSpec := { name := "setParts", fn := fun _ => fun
  | [d] => { results := [.lit (.bool true)], args := [d] }
  | _ => none }
def setPartsRow : OpenClaim := { program := "ytingbjdpjimikaa", sum := "a11b701249f53608a11585a7cf94261dcb213b0addea9dec8ac8c98d37055886", func := "colophon/colophonlaw17.SetParts", spec := "setParts", unfollowed := true, recurses := true, apart := false }
def SetPartsSaid : Prop := setPartsRow.holds Try.pinned (OpenSpec.ofChange setPartsSpec)

/-- ITS FALSE NEIGHBOUR: 'it returns false'. Refute it at one input. -/
def setPartsWrong : ChangeSpec := { name := "setParts", fn := fun _ => fun
  | [d] => { results := [.lit (.bool false)], args := [d] }
  | _ => none }
def SetPartsWrongFalsely : Prop := setPartsRow.holds Try.pinned (OpenSpec.ofChange setPartsWrong)

/-- 'colophonlaw17.SetKnown': WHATEVER THE INPUT: true; the input reads as it did. -/
def setKnownSpec : ChangeSpec := { name := "setKnown", fn := fun _ => fun
  | [] => { results := [.lit (.bool true)], args := [] }
  | _ => none }
def setKnownRow : OpenClaim := { program := "ytingbjdpjimikaa", sum := "a11b701249f53608a11585a7cf94261dcb213b0addea9dec8ac8c98d37055886", func := "colophon/colophonlaw17.SetKnown", spec := "setKnown", unfollowed := true, recurses := true, apart := false }
def SetKnownSaid : Prop := setKnownRow.holds Try.pinned (OpenSpec.ofChange setKnownSpec)

/-- ITS FALSE NEIGHBOUR: 'it returns false'. Refute it at one input. -/
def setKnownWrong : ChangeSpec := { name := "setKnown", fn := fun _ => fun
  | [] => { results := [.lit (.bool false)], args := [] }
  | _ => none }
def SetKnownWrongFalsely : Prop := setKnownRow.holds Try.pinned (OpenSpec.ofChange setKnownWrong)

/- THE SECOND FORM. 'bulk': how many values and letters a reading holds, each counted each time it is reached (what is shared counts as often as it is met; a slice's spare places count too). A statement '..UptoSaid' is the law's where the arguments, and the package variables that the reading takes, are together of bulk at most 1048576: NARROWER than '..Said'. Prove '..Said' where nothing that the law and all that it calls make is longer than what came in: it says more and counts as full. Else prove '..UptoSaid'. A law counts once. -/
mutual
def uptoBulk {H : Type} : DataW H → Nat
  | .lit (.string bytes) => bytes.length + 1
  | .lit _ => 1
  | .nil => 1
  | .ptr d => uptoBulk d + 1
  | .slice elems spare => uptoBulkAll elems + uptoBulkAll spare + 1
  | .agg parts => uptoBulkAll parts + 1
  | .iface _ d => uptoBulk d + 1
  | .map entries => uptoBulkEntries entries + 1
  | .held _ => 1
def uptoBulkAll {H : Type} : List (DataW H) → Nat
  | [] => 0
  | d :: r => uptoBulk d + uptoBulkAll r
def uptoBulkEntries {H : Type} : List (Lit × DataW H) → Nat
  | [] => 0
  | x :: r => uptoBulkEntry x + uptoBulkEntries r
def uptoBulkEntry {H : Type} : Lit × DataW H → Nat
  | (.string bytes, d) => bytes.length + uptoBulk d + 1
  | (_, d) => uptoBulk d + 1
 end
def uptoSmall : (H : Type) → List (DataW H) → Bool := fun _ ds => decide (uptoBulkAll ds ≤ 1048576)
def OpenSpec.upto (s : _root_.Go.ChangeSpec) : _root_.Go.OpenSpec := { _root_.Go.OpenSpec.ofChange s with cond := some uptoSmall }

/-- 'colophonlaw17.SetOf', WHERE WHAT IT READS IS OF BULK AT MOST 1048576: true; the input reads as it did. -/
def setOfUptoRow : OpenClaim := { program := "ytingbjdpjimikaa", sum := "a11b701249f53608a11585a7cf94261dcb213b0addea9dec8ac8c98d37055886", func := "colophon/colophonlaw17.SetOf", spec := "setOf", unfollowed := true, recurses := true, apart := false, narrowed := true }
def SetOfUptoSaid : Prop := setOfUptoRow.holds Try.pinned (OpenSpec.upto setOfSpec)

/-- 'colophonlaw17.SetTwo', WHERE WHAT IT READS IS OF BULK AT MOST 1048576: true; the input reads as it did. -/
def setTwoUptoRow : OpenClaim := { program := "ytingbjdpjimikaa", sum := "a11b701249f53608a11585a7cf94261dcb213b0addea9dec8ac8c98d37055886", func := "colophon/colophonlaw17.SetTwo", spec := "setTwo", unfollowed := true, recurses := true, apart := false, narrowed := true }
def SetTwoUptoSaid : Prop := setTwoUptoRow.holds Try.pinned (OpenSpec.upto setTwoSpec)

/-- 'colophonlaw17.SetMeans', WHERE WHAT IT READS IS OF BULK AT MOST 1048576: true; the input reads as it did. -/
def setMeansUptoRow : OpenClaim := { program := "ytingbjdpjimikaa", sum := "a11b701249f53608a11585a7cf94261dcb213b0addea9dec8ac8c98d37055886", func := "colophon/colophonlaw17.SetMeans", spec := "setMeans", unfollowed := true, recurses := true, apart := false, narrowed := true }
def SetMeansUptoSaid : Prop := setMeansUptoRow.holds Try.pinned (OpenSpec.upto setMeansSpec)

/-- 'colophonlaw17.SetForm', WHERE WHAT IT READS IS OF BULK AT MOST 1048576: true; the input reads as it did. -/
def setFormUptoRow : OpenClaim := { program := "ytingbjdpjimikaa", sum := "a11b701249f53608a11585a7cf94261dcb213b0addea9dec8ac8c98d37055886", func := "colophon/colophonlaw17.SetForm", spec := "setForm", unfollowed := true, recurses := true, apart := false, narrowed := true }
def SetFormUptoSaid : Prop := setFormUptoRow.holds Try.pinned (OpenSpec.upto setFormSpec)

/-- 'colophonlaw17.SetNots', WHERE WHAT IT READS IS OF BULK AT MOST 1048576: true; the input reads as it did. -/
def setNotsUptoRow : OpenClaim := { program := "ytingbjdpjimikaa", sum := "a11b701249f53608a11585a7cf94261dcb213b0addea9dec8ac8c98d37055886", func := "colophon/colophonlaw17.SetNots", spec := "setNots", unfollowed := true, recurses := true, apart := false, narrowed := true }
def SetNotsUptoSaid : Prop := setNotsUptoRow.holds Try.pinned (OpenSpec.upto setNotsSpec)

/-- 'colophonlaw17.SetParts', WHERE WHAT IT READS IS OF BULK AT MOST 1048576: true; the input reads as it did. -/
def setPartsUptoRow : OpenClaim := { program := "ytingbjdpjimikaa", sum := "a11b701249f53608a11585a7cf94261dcb213b0addea9dec8ac8c98d37055886", func := "colophon/colophonlaw17.SetParts", spec := "setParts", unfollowed := true, recurses := true, apart := false, narrowed := true }
def SetPartsUptoSaid : Prop := setPartsUptoRow.holds Try.pinned (OpenSpec.upto setPartsSpec)

/-- 'colophonlaw17.SetKnown', WHERE WHAT IT READS IS OF BULK AT MOST 1048576: true; the input reads as it did. -/
def setKnownUptoRow : OpenClaim := { program := "ytingbjdpjimikaa", sum := "a11b701249f53608a11585a7cf94261dcb213b0addea9dec8ac8c98d37055886", func := "colophon/colophonlaw17.SetKnown", spec := "setKnown", unfollowed := true, recurses := true, apart := false, narrowed := true }
def SetKnownUptoSaid : Prop := setKnownUptoRow.holds Try.pinned (OpenSpec.upto setKnownSpec)

end Rows
end Go.Proofs.Ytingbjdpjimikaa
