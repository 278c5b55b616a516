/-
  No cell of these rows narrows 'for every input' (looked for: loops, veiled, ifaces, maps, wideKeys, modest, calm, conditions, laid).
  DERIVED. THE GIVEN ROWS OF THIS SEAT. 14 by the template 'for every input the law returns true; each argument reads behind the call as it read before'; 0 by the template 'total and deterministic' (their statements: YtjebkpcekkkbkaaTotals.lean).
  GIVEN WITH THE SEED: the statements are not yours to turn. If you find one false, say at which input.
  Laid BY PROGRAM, IN A SANDBOX (cutbox-rows.mjs): the forced cells as the released guide's own fill.sh prints them over the translation 935b27be40274153… (all of the seat's roots in one cut). By AI agents, Wed Nov 11 2026. No macro, syntax, notation, axiom, sorry.
-/
import Derived.Test.YtjebkpcekkkbkaaChecked
import GoSem.Claim
import GoSem.ClaimJoined
import GoSem.ClaimMapViews
import Derived.JoinedTies
import Derived.KernelRfl
namespace Go.Proofs.Ytjebkpcekkkbkaa
/- THE CELL 'sum', in the pinned program and in every row, IS THE sha256 OF THE DUMP (.gsa) THAT YtjebkpcekkkbkaaProg.lean LOADS. Nothing in Lean hashes anything: it is a label: what it is worth is what the hold of that sum in a sandbox is worth. -/
noncomputable def Try.pinned : Pinned := { name := "ytjebkpcekkkbkaa", sum := "935b27be40274153b4320b2249cf74db9f9b6b1652d2571a411763fb6c51ac06", checked := Try.checked }
namespace Rows
def none {H : Type} : Left H := { results := [], args := [] }

/-- 'colophonlaw15.EditDiff': WHATEVER THE INPUT: true; the input reads as it did. -/
def editDiffSpec : ChangeSpec := { name := "editDiff", fn := fun _ => fun
  | [d1, d2] => { results := [.lit (.bool true)], args := [d1, d2] }
  | _ => none }
def editDiffRow : OpenClaim := { program := "ytjebkpcekkkbkaa", sum := "935b27be40274153b4320b2249cf74db9f9b6b1652d2571a411763fb6c51ac06", func := "colophon/colophonlaw15.EditDiff", spec := "editDiff", unfollowed := true, recurses := true, apart := false }
def EditDiffSaid : Prop := editDiffRow.holds Try.pinned (OpenSpec.ofChange editDiffSpec)

/-- ITS FALSE NEIGHBOUR: 'it returns false'. Refute it at one input. -/
def editDiffWrong : ChangeSpec := { name := "editDiff", fn := fun _ => fun
  | [d1, d2] => { results := [.lit (.bool false)], args := [d1, d2] }
  | _ => none }
def EditDiffWrongFalsely : Prop := editDiffRow.holds Try.pinned (OpenSpec.ofChange editDiffWrong)

/-- 'colophonlaw15.EditBack': WHATEVER THE INPUT: true; the input reads as it did. -/
def editBackSpec : ChangeSpec := { name := "editBack", fn := fun _ => fun
  | [d1, d2] => { results := [.lit (.bool true)], args := [d1, d2] }
  | _ => none }
def editBackRow : OpenClaim := { program := "ytjebkpcekkkbkaa", sum := "935b27be40274153b4320b2249cf74db9f9b6b1652d2571a411763fb6c51ac06", func := "colophon/colophonlaw15.EditBack", spec := "editBack", unfollowed := true, recurses := true, apart := false }
def EditBackSaid : Prop := editBackRow.holds Try.pinned (OpenSpec.ofChange editBackSpec)

/-- ITS FALSE NEIGHBOUR: 'it returns false'. Refute it at one input. -/
def editBackWrong : ChangeSpec := { name := "editBack", fn := fun _ => fun
  | [d1, d2] => { results := [.lit (.bool false)], args := [d1, d2] }
  | _ => none }
def EditBackWrongFalsely : Prop := editBackRow.holds Try.pinned (OpenSpec.ofChange editBackWrong)

/-- 'colophonlaw15.EditMakes': WHATEVER THE INPUT: true; the input reads as it did. -/
def editMakesSpec : ChangeSpec := { name := "editMakes", fn := fun _ => fun
  | [d1, d2] => { results := [.lit (.bool true)], args := [d1, d2] }
  | _ => none }
def editMakesRow : OpenClaim := { program := "ytjebkpcekkkbkaa", sum := "935b27be40274153b4320b2249cf74db9f9b6b1652d2571a411763fb6c51ac06", func := "colophon/colophonlaw15.EditMakes", spec := "editMakes", unfollowed := true, recurses := true, apart := false }
def EditMakesSaid : Prop := editMakesRow.holds Try.pinned (OpenSpec.ofChange editMakesSpec)

/-- ITS FALSE NEIGHBOUR: 'it returns false'. Refute it at one input. -/
def editMakesWrong : ChangeSpec := { name := "editMakes", fn := fun _ => fun
  | [d1, d2] => { results := [.lit (.bool false)], args := [d1, d2] }
  | _ => none }
def EditMakesWrongFalsely : Prop := editMakesRow.holds Try.pinned (OpenSpec.ofChange editMakesWrong)

/-- 'colophonlaw15.EditStays': WHATEVER THE INPUT: true; the input reads as it did. -/
def editStaysSpec : ChangeSpec := { name := "editStays", fn := fun _ => fun
  | [d1, d2] => { results := [.lit (.bool true)], args := [d1, d2] }
  | _ => none }
def editStaysRow : OpenClaim := { program := "ytjebkpcekkkbkaa", sum := "935b27be40274153b4320b2249cf74db9f9b6b1652d2571a411763fb6c51ac06", func := "colophon/colophonlaw15.EditStays", spec := "editStays", unfollowed := true, recurses := true, apart := false }
def EditStaysSaid : Prop := editStaysRow.holds Try.pinned (OpenSpec.ofChange editStaysSpec)

/-- ITS FALSE NEIGHBOUR: 'it returns false'. Refute it at one input. -/
def editStaysWrong : ChangeSpec := { name := "editStays", fn := fun _ => fun
  | [d1, d2] => { results := [.lit (.bool false)], args := [d1, d2] }
  | _ => none }
def EditStaysWrongFalsely : Prop := editStaysRow.holds Try.pinned (OpenSpec.ofChange editStaysWrong)

/-- 'colophonlaw15.EditApply': WHATEVER THE INPUT: true; the input reads as it did. -/
def editApplySpec : ChangeSpec := { name := "editApply", fn := fun _ => fun
  | [d1, d2] => { results := [.lit (.bool true)], args := [d1, d2] }
  | _ => none }
def editApplyRow : OpenClaim := { program := "ytjebkpcekkkbkaa", sum := "935b27be40274153b4320b2249cf74db9f9b6b1652d2571a411763fb6c51ac06", func := "colophon/colophonlaw15.EditApply", spec := "editApply", unfollowed := true, recurses := true, apart := false }
def EditApplySaid : Prop := editApplyRow.holds Try.pinned (OpenSpec.ofChange editApplySpec)

/-- ITS FALSE NEIGHBOUR: 'it returns false'. Refute it at one input. -/
def editApplyWrong : ChangeSpec := { name := "editApply", fn := fun _ => fun
  | [d1, d2] => { results := [.lit (.bool false)], args := [d1, d2] }
  | _ => none }
def EditApplyWrongFalsely : Prop := editApplyRow.holds Try.pinned (OpenSpec.ofChange editApplyWrong)

/-- 'colophonlaw15.EditList': WHATEVER THE INPUT: true; the input reads as it did. -/
def editListSpec : ChangeSpec := { name := "editList", fn := fun _ => fun
  | [d1, d2, d3] => { results := [.lit (.bool true)], args := [d1, d2, d3] }
  | _ => none }
def editListRow : OpenClaim := { program := "ytjebkpcekkkbkaa", sum := "935b27be40274153b4320b2249cf74db9f9b6b1652d2571a411763fb6c51ac06", func := "colophon/colophonlaw15.EditList", spec := "editList", unfollowed := true, recurses := true, apart := false }
def EditListSaid : Prop := editListRow.holds Try.pinned (OpenSpec.ofChange editListSpec)

/-- ITS FALSE NEIGHBOUR: 'it returns false'. Refute it at one input. -/
def editListWrong : ChangeSpec := { name := "editList", fn := fun _ => fun
  | [d1, d2, d3] => { results := [.lit (.bool false)], args := [d1, d2, d3] }
  | _ => none }
def EditListWrongFalsely : Prop := editListRow.holds Try.pinned (OpenSpec.ofChange editListWrong)

/-- 'colophonlaw15.EditNothing': WHATEVER THE INPUT: true; the input reads as it did. -/
def editNothingSpec : ChangeSpec := { name := "editNothing", fn := fun _ => fun
  | [d1, d2, d3] => { results := [.lit (.bool true)], args := [d1, d2, d3] }
  | _ => none }
def editNothingRow : OpenClaim := { program := "ytjebkpcekkkbkaa", sum := "935b27be40274153b4320b2249cf74db9f9b6b1652d2571a411763fb6c51ac06", func := "colophon/colophonlaw15.EditNothing", spec := "editNothing", unfollowed := true, recurses := true, apart := false }
def EditNothingSaid : Prop := editNothingRow.holds Try.pinned (OpenSpec.ofChange editNothingSpec)

/-- ITS FALSE NEIGHBOUR: 'it returns false'. Refute it at one input. -/
def editNothingWrong : ChangeSpec := { name := "editNothing", fn := fun _ => fun
  | [d1, d2, d3] => { results := [.lit (.bool false)], args := [d1, d2, d3] }
  | _ => none }
def EditNothingWrongFalsely : Prop := editNothingRow.holds Try.pinned (OpenSpec.ofChange editNothingWrong)

/-- 'colophonlaw15.EditKnown': WHATEVER THE INPUT: true; the input reads as it did. -/
def editKnownSpec : ChangeSpec := { name := "editKnown", fn := fun _ => fun
  | [] => { results := [.lit (.bool true)], args := [] }
  | _ => none }
def editKnownRow : OpenClaim := { program := "ytjebkpcekkkbkaa", sum := "935b27be40274153b4320b2249cf74db9f9b6b1652d2571a411763fb6c51ac06", func := "colophon/colophonlaw15.EditKnown", spec := "editKnown", inPlace := ["internal/abi.NoEscape", "internal/bytealg.MakeNoZero"], unfollowed := true, recurses := true, apart := false }
def EditKnownSaid : Prop := editKnownRow.holds Try.pinned (OpenSpec.ofChange editKnownSpec)

/-- ITS FALSE NEIGHBOUR: 'it returns false'. Refute it at one input. -/
def editKnownWrong : ChangeSpec := { name := "editKnown", fn := fun _ => fun
  | [] => { results := [.lit (.bool false)], args := [] }
  | _ => none }
def EditKnownWrongFalsely : Prop := editKnownRow.holds Try.pinned (OpenSpec.ofChange editKnownWrong)

/-- 'colophonlaw16.StorePlays': WHATEVER THE INPUT: true; the input reads as it did. -/
def storePlaysSpec : ChangeSpec := { name := "storePlays", fn := fun _ => fun
  | [d] => { results := [.lit (.bool true)], args := [d] }
  | _ => none }
def storePlaysRow : OpenClaim := { program := "ytjebkpcekkkbkaa", sum := "935b27be40274153b4320b2249cf74db9f9b6b1652d2571a411763fb6c51ac06", func := "colophon/colophonlaw16.StorePlays", spec := "storePlays", unfollowed := true, recurses := true, apart := false }
def StorePlaysSaid : Prop := storePlaysRow.holds Try.pinned (OpenSpec.ofChange storePlaysSpec)

/-- ITS FALSE NEIGHBOUR: 'it returns false'. Refute it at one input. -/
def storePlaysWrong : ChangeSpec := { name := "storePlays", fn := fun _ => fun
  | [d] => { results := [.lit (.bool false)], args := [d] }
  | _ => none }
def StorePlaysWrongFalsely : Prop := storePlaysRow.holds Try.pinned (OpenSpec.ofChange storePlaysWrong)

/-- 'colophonlaw16.StoreRises': WHATEVER THE INPUT: true; the input reads as it did. -/
def storeRisesSpec : ChangeSpec := { name := "storeRises", fn := fun _ => fun
  | [d] => { results := [.lit (.bool true)], args := [d] }
  | _ => none }
def storeRisesRow : OpenClaim := { program := "ytjebkpcekkkbkaa", sum := "935b27be40274153b4320b2249cf74db9f9b6b1652d2571a411763fb6c51ac06", func := "colophon/colophonlaw16.StoreRises", spec := "storeRises", unfollowed := true, recurses := true, apart := false }
def StoreRisesSaid : Prop := storeRisesRow.holds Try.pinned (OpenSpec.ofChange storeRisesSpec)

/-- ITS FALSE NEIGHBOUR: 'it returns false'. Refute it at one input. -/
def storeRisesWrong : ChangeSpec := { name := "storeRises", fn := fun _ => fun
  | [d] => { results := [.lit (.bool false)], args := [d] }
  | _ => none }
def StoreRisesWrongFalsely : Prop := storeRisesRow.holds Try.pinned (OpenSpec.ofChange storeRisesWrong)

/-- 'colophonlaw16.StoreApart': WHATEVER THE INPUT: true; the input reads as it did. -/
def storeApartSpec : ChangeSpec := { name := "storeApart", fn := fun _ => fun
  | [d1, d2] => { results := [.lit (.bool true)], args := [d1, d2] }
  | _ => none }
def storeApartRow : OpenClaim := { program := "ytjebkpcekkkbkaa", sum := "935b27be40274153b4320b2249cf74db9f9b6b1652d2571a411763fb6c51ac06", func := "colophon/colophonlaw16.StoreApart", spec := "storeApart", unfollowed := true, recurses := true, apart := false }
def StoreApartSaid : Prop := storeApartRow.holds Try.pinned (OpenSpec.ofChange storeApartSpec)

/-- ITS FALSE NEIGHBOUR: 'it returns false'. Refute it at one input. -/
def storeApartWrong : ChangeSpec := { name := "storeApart", fn := fun _ => fun
  | [d1, d2] => { results := [.lit (.bool false)], args := [d1, d2] }
  | _ => none }
def StoreApartWrongFalsely : Prop := storeApartRow.holds Try.pinned (OpenSpec.ofChange storeApartWrong)

/-- 'colophonlaw16.StoreMakes': WHATEVER THE INPUT: true; the input reads as it did. -/
def storeMakesSpec : ChangeSpec := { name := "storeMakes", fn := fun _ => fun
  | [d1, d2] => { results := [.lit (.bool true)], args := [d1, d2] }
  | _ => none }
def storeMakesRow : OpenClaim := { program := "ytjebkpcekkkbkaa", sum := "935b27be40274153b4320b2249cf74db9f9b6b1652d2571a411763fb6c51ac06", func := "colophon/colophonlaw16.StoreMakes", spec := "storeMakes", unfollowed := true, recurses := true, apart := false }
def StoreMakesSaid : Prop := storeMakesRow.holds Try.pinned (OpenSpec.ofChange storeMakesSpec)

/-- ITS FALSE NEIGHBOUR: 'it returns false'. Refute it at one input. -/
def storeMakesWrong : ChangeSpec := { name := "storeMakes", fn := fun _ => fun
  | [d1, d2] => { results := [.lit (.bool false)], args := [d1, d2] }
  | _ => none }
def StoreMakesWrongFalsely : Prop := storeMakesRow.holds Try.pinned (OpenSpec.ofChange storeMakesWrong)

/-- 'colophonlaw16.StoreFull': WHATEVER THE INPUT: true; the input reads as it did. -/
def storeFullSpec : ChangeSpec := { name := "storeFull", fn := fun _ => fun
  | [d] => { results := [.lit (.bool true)], args := [d] }
  | _ => none }
def storeFullRow : OpenClaim := { program := "ytjebkpcekkkbkaa", sum := "935b27be40274153b4320b2249cf74db9f9b6b1652d2571a411763fb6c51ac06", func := "colophon/colophonlaw16.StoreFull", spec := "storeFull", unfollowed := true, recurses := true, apart := false }
def StoreFullSaid : Prop := storeFullRow.holds Try.pinned (OpenSpec.ofChange storeFullSpec)

/-- ITS FALSE NEIGHBOUR: 'it returns false'. Refute it at one input. -/
def storeFullWrong : ChangeSpec := { name := "storeFull", fn := fun _ => fun
  | [d] => { results := [.lit (.bool false)], args := [d] }
  | _ => none }
def StoreFullWrongFalsely : Prop := storeFullRow.holds Try.pinned (OpenSpec.ofChange storeFullWrong)

/-- 'colophonlaw16.StoreNames': WHATEVER THE INPUT: true; the input reads as it did. -/
def storeNamesSpec : ChangeSpec := { name := "storeNames", fn := fun _ => fun
  | [] => { results := [.lit (.bool true)], args := [] }
  | _ => none }
def storeNamesRow : OpenClaim := { program := "ytjebkpcekkkbkaa", sum := "935b27be40274153b4320b2249cf74db9f9b6b1652d2571a411763fb6c51ac06", func := "colophon/colophonlaw16.StoreNames", spec := "storeNames", unfollowed := true, recurses := true, apart := false }
def StoreNamesSaid : Prop := storeNamesRow.holds Try.pinned (OpenSpec.ofChange storeNamesSpec)

/-- ITS FALSE NEIGHBOUR: 'it returns false'. Refute it at one input. -/
def storeNamesWrong : ChangeSpec := { name := "storeNames", fn := fun _ => fun
  | [] => { results := [.lit (.bool false)], args := [] }
  | _ => none }
def StoreNamesWrongFalsely : Prop := storeNamesRow.holds Try.pinned (OpenSpec.ofChange storeNamesWrong)

/- THE SECOND FORM. 'bulk': how many values and letters a reading holds, each counted each time it is reached (what is shared counts as often as it is met; a slice's spare places count too). A statement '..UptoSaid' is the law's where the arguments, and the package variables that the reading takes, are together of bulk at most 1048576: NARROWER than '..Said'. Prove '..Said' where nothing that the law and all that it calls make is longer than what came in: it says more and counts as full. Else prove '..UptoSaid'. A law counts once. -/
mutual
def uptoBulk {H : Type} : DataW H → Nat
  | .lit (.string bytes) => bytes.length + 1
  | .lit _ => 1
  | .nil => 1
  | .ptr d => uptoBulk d + 1
  | .slice elems spare => uptoBulkAll elems + uptoBulkAll spare + 1
  | .agg parts => uptoBulkAll parts + 1
  | .iface _ d => uptoBulk d + 1
  | .map entries => uptoBulkEntries entries + 1
  | .held _ => 1
def uptoBulkAll {H : Type} : List (DataW H) → Nat
  | [] => 0
  | d :: r => uptoBulk d + uptoBulkAll r
def uptoBulkEntries {H : Type} : List (Lit × DataW H) → Nat
  | [] => 0
  | x :: r => uptoBulkEntry x + uptoBulkEntries r
def uptoBulkEntry {H : Type} : Lit × DataW H → Nat
  | (.string bytes, d) => bytes.length + uptoBulk d + 1
  | (_, d) => uptoBulk d + 1
 end
def uptoSmall : (H : Type) → List (DataW H) → Bool := fun _ ds => decide (uptoBulkAll ds ≤ 1048576)
def OpenSpec.upto (s : _root_.Go.ChangeSpec) : _root_.Go.OpenSpec := { _root_.Go.OpenSpec.ofChange s with cond := some uptoSmall }

/-- 'colophonlaw15.EditDiff', WHERE WHAT IT READS IS OF BULK AT MOST 1048576: true; the input reads as it did. -/
def editDiffUptoRow : OpenClaim := { program := "ytjebkpcekkkbkaa", sum := "935b27be40274153b4320b2249cf74db9f9b6b1652d2571a411763fb6c51ac06", func := "colophon/colophonlaw15.EditDiff", spec := "editDiff", unfollowed := true, recurses := true, apart := false, narrowed := true }
def EditDiffUptoSaid : Prop := editDiffUptoRow.holds Try.pinned (OpenSpec.upto editDiffSpec)

/-- 'colophonlaw15.EditBack', WHERE WHAT IT READS IS OF BULK AT MOST 1048576: true; the input reads as it did. -/
def editBackUptoRow : OpenClaim := { program := "ytjebkpcekkkbkaa", sum := "935b27be40274153b4320b2249cf74db9f9b6b1652d2571a411763fb6c51ac06", func := "colophon/colophonlaw15.EditBack", spec := "editBack", unfollowed := true, recurses := true, apart := false, narrowed := true }
def EditBackUptoSaid : Prop := editBackUptoRow.holds Try.pinned (OpenSpec.upto editBackSpec)

/-- 'colophonlaw15.EditMakes', WHERE WHAT IT READS IS OF BULK AT MOST 1048576: true; the input reads as it did. -/
def editMakesUptoRow : OpenClaim := { program := "ytjebkpcekkkbkaa", sum := "935b27be40274153b4320b2249cf74db9f9b6b1652d2571a411763fb6c51ac06", func := "colophon/colophonlaw15.EditMakes", spec := "editMakes", unfollowed := true, recurses := true, apart := false, narrowed := true }
def EditMakesUptoSaid : Prop := editMakesUptoRow.holds Try.pinned (OpenSpec.upto editMakesSpec)

/-- 'colophonlaw15.EditStays', WHERE WHAT IT READS IS OF BULK AT MOST 1048576: true; the input reads as it did. -/
def editStaysUptoRow : OpenClaim := { program := "ytjebkpcekkkbkaa", sum := "935b27be40274153b4320b2249cf74db9f9b6b1652d2571a411763fb6c51ac06", func := "colophon/colophonlaw15.EditStays", spec := "editStays", unfollowed := true, recurses := true, apart := false, narrowed := true }
def EditStaysUptoSaid : Prop := editStaysUptoRow.holds Try.pinned (OpenSpec.upto editStaysSpec)

/-- 'colophonlaw15.EditApply', WHERE WHAT IT READS IS OF BULK AT MOST 1048576: true; the input reads as it did. -/
def editApplyUptoRow : OpenClaim := { program := "ytjebkpcekkkbkaa", sum := "935b27be40274153b4320b2249cf74db9f9b6b1652d2571a411763fb6c51ac06", func := "colophon/colophonlaw15.EditApply", spec := "editApply", unfollowed := true, recurses := true, apart := false, narrowed := true }
def EditApplyUptoSaid : Prop := editApplyUptoRow.holds Try.pinned (OpenSpec.upto editApplySpec)

/-- 'colophonlaw15.EditList', WHERE WHAT IT READS IS OF BULK AT MOST 1048576: true; the input reads as it did. -/
def editListUptoRow : OpenClaim := { program := "ytjebkpcekkkbkaa", sum := "935b27be40274153b4320b2249cf74db9f9b6b1652d2571a411763fb6c51ac06", func := "colophon/colophonlaw15.EditList", spec := "editList", unfollowed := true, recurses := true, apart := false, narrowed := true }
def EditListUptoSaid : Prop := editListUptoRow.holds Try.pinned (OpenSpec.upto editListSpec)

/-- 'colophonlaw15.EditNothing', WHERE WHAT IT READS IS OF BULK AT MOST 1048576: true; the input reads as it did. -/
def editNothingUptoRow : OpenClaim := { program := "ytjebkpcekkkbkaa", sum := "935b27be40274153b4320b2249cf74db9f9b6b1652d2571a411763fb6c51ac06", func := "colophon/colophonlaw15.EditNothing", spec := "editNothing", unfollowed := true, recurses := true, apart := false, narrowed := true }
def EditNothingUptoSaid : Prop := editNothingUptoRow.holds Try.pinned (OpenSpec.upto editNothingSpec)

/-- 'colophonlaw15.EditKnown', WHERE WHAT IT READS IS OF BULK AT MOST 1048576: true; the input reads as it did. -/
def editKnownUptoRow : OpenClaim := { program := "ytjebkpcekkkbkaa", sum := "935b27be40274153b4320b2249cf74db9f9b6b1652d2571a411763fb6c51ac06", func := "colophon/colophonlaw15.EditKnown", spec := "editKnown", inPlace := ["internal/abi.NoEscape", "internal/bytealg.MakeNoZero"], unfollowed := true, recurses := true, apart := false, narrowed := true }
def EditKnownUptoSaid : Prop := editKnownUptoRow.holds Try.pinned (OpenSpec.upto editKnownSpec)

/-- 'colophonlaw16.StorePlays', WHERE WHAT IT READS IS OF BULK AT MOST 1048576: true; the input reads as it did. -/
def storePlaysUptoRow : OpenClaim := { program := "ytjebkpcekkkbkaa", sum := "935b27be40274153b4320b2249cf74db9f9b6b1652d2571a411763fb6c51ac06", func := "colophon/colophonlaw16.StorePlays", spec := "storePlays", unfollowed := true, recurses := true, apart := false, narrowed := true }
def StorePlaysUptoSaid : Prop := storePlaysUptoRow.holds Try.pinned (OpenSpec.upto storePlaysSpec)

/-- 'colophonlaw16.StoreRises', WHERE WHAT IT READS IS OF BULK AT MOST 1048576: true; the input reads as it did. -/
def storeRisesUptoRow : OpenClaim := { program := "ytjebkpcekkkbkaa", sum := "935b27be40274153b4320b2249cf74db9f9b6b1652d2571a411763fb6c51ac06", func := "colophon/colophonlaw16.StoreRises", spec := "storeRises", unfollowed := true, recurses := true, apart := false, narrowed := true }
def StoreRisesUptoSaid : Prop := storeRisesUptoRow.holds Try.pinned (OpenSpec.upto storeRisesSpec)

/-- 'colophonlaw16.StoreApart', WHERE WHAT IT READS IS OF BULK AT MOST 1048576: true; the input reads as it did. -/
def storeApartUptoRow : OpenClaim := { program := "ytjebkpcekkkbkaa", sum := "935b27be40274153b4320b2249cf74db9f9b6b1652d2571a411763fb6c51ac06", func := "colophon/colophonlaw16.StoreApart", spec := "storeApart", unfollowed := true, recurses := true, apart := false, narrowed := true }
def StoreApartUptoSaid : Prop := storeApartUptoRow.holds Try.pinned (OpenSpec.upto storeApartSpec)

/-- 'colophonlaw16.StoreMakes', WHERE WHAT IT READS IS OF BULK AT MOST 1048576: true; the input reads as it did. -/
def storeMakesUptoRow : OpenClaim := { program := "ytjebkpcekkkbkaa", sum := "935b27be40274153b4320b2249cf74db9f9b6b1652d2571a411763fb6c51ac06", func := "colophon/colophonlaw16.StoreMakes", spec := "storeMakes", unfollowed := true, recurses := true, apart := false, narrowed := true }
def StoreMakesUptoSaid : Prop := storeMakesUptoRow.holds Try.pinned (OpenSpec.upto storeMakesSpec)

/-- 'colophonlaw16.StoreFull', WHERE WHAT IT READS IS OF BULK AT MOST 1048576: true; the input reads as it did. -/
def storeFullUptoRow : OpenClaim := { program := "ytjebkpcekkkbkaa", sum := "935b27be40274153b4320b2249cf74db9f9b6b1652d2571a411763fb6c51ac06", func := "colophon/colophonlaw16.StoreFull", spec := "storeFull", unfollowed := true, recurses := true, apart := false, narrowed := true }
def StoreFullUptoSaid : Prop := storeFullUptoRow.holds Try.pinned (OpenSpec.upto storeFullSpec)

/-- 'colophonlaw16.StoreNames', WHERE WHAT IT READS IS OF BULK AT MOST 1048576: true; the input reads as it did. -/
def storeNamesUptoRow : OpenClaim := { program := "ytjebkpcekkkbkaa", sum := "935b27be40274153b4320b2249cf74db9f9b6b1652d2571a411763fb6c51ac06", func := "colophon/colophonlaw16.StoreNames", spec := "storeNames", unfollowed := true, recurses := true, apart := false, narrowed := true }
def StoreNamesUptoSaid : Prop := storeNamesUptoRow.holds Try.pinned (OpenSpec.upto storeNamesSpec)

end Rows
end Go.Proofs.Ytjebkpcekkkbkaa
