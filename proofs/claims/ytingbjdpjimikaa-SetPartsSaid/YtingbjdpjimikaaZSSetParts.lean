/-
  The row of SetParts, in its full form: for every input the call answers true, and the input reads as it did.
-/
import Derived.ChangeShapes
import Derived.Lib.SmallJoins
import Derived.WideKeyArgs
import Derived.OpenShut
import Derived.Deep.Slices
import Derived.Test.YtingbjdpjimikaaRows
import Derived.Test.YtingbjdpjimikaaChecked
import Derived.ProofKit
import Derived.ShutString
import Derived.ChangeOld
import Derived.SizedLaws
import Derived.JoinedCond
import Derived.Test.YtingbjdpjimikaaZT34
set_option linter.unusedSimpArgs false
set_option linter.unusedVariables false
namespace Go.Proofs.Ytingbjdpjimikaa.B
open Go.RowKit Go.ChangeShapes Go.WideShapes Go.Joins Go.Deep Go.Proofs.YtingbjdpjimikaaW.PrintWords Go.Proofs.Ytingbjdpjimikaa.FBase
def IsSps (W : World) (E : Option Addr) (len cap : Nat) (l : List S39) : Prop :=
  l.length = len ∧ len ≤ cap ∧ (E = none → cap = 0) ∧ Kd.C k39 W E l.length l
section
variable {H : Type} {enc : TypeId × Value → H} {W : World} {base : Nat} {spare : Nat → Bool} {held : Bool}
theorem trod_two_of {P : Program} {t : TypeId} {f0 f1 : Field} (hs : P.underlying t = some (.struct #[f0, f1])) (i0 : P.underlying f0.type = some (.int .i64)) (i1 : P.underlying f1.type = some (.int .i64))
    (o0 : f0.offset = 0) (o1 : f1.offset = 1) (k0 : P.cellsOf f0.type = 1) (k1 : P.cellsOf f1.type = 1) (hC : P.cellsOf t = 2) {fuel : Nat} {cs : List Value} {x : DataW H × List MemPlace} (h : DataW.trod enc P W base spare held fuel t cs = some x) :
    ∃ x0 x1 : Int, cs = [.int .i64 x0, .int .i64 x1] := by
  obtain ⟨y0, y1, n, hx, hl, h0, h1⟩ := trod_struct2 hs h
  match cs, hl.trans hC with
  | [v0, v1], _ =>
    simp [o0, o1, k0, k1] at h0 h1
    obtain ⟨x0, e0, _, _⟩ := DataW.trod_int i0 h0
    obtain ⟨x1, e1, _, _⟩ := DataW.trod_int i1 h1
    cases e0
    cases e1
    exact ⟨x0, x1, rfl⟩
theorem trod_sp {fuel : Nat} {cs : List Value} {x : DataW H × List MemPlace} (h : DataW.trod enc Try.prog W base spare held fuel 39 cs = some x) : ∃ x0 x1 : Int, cs = [.int .i64 x0, .int .i64 x1] :=
  trod_two_of Try.underlying39 Try.underlying3 Try.underlying3 rfl rfl (by kernel_rfl) (by kernel_rfl) (by kernel_rfl) h
set_option maxRecDepth 100000 in
theorem open_sps {fuel : Nat} {E : Option Addr} {len cap : Nat} {x : DataW H × List MemPlace} (h : DataW.trod enc Try.prog W base spare held fuel 22 [.slice E len cap] = some x) :
    ∃ l, IsSps W E len cap l := by
  rcases open_slice Try.underlying22 h with ⟨hcs, _⟩ | ⟨a, len', cap', m, n, D, Pl, hcs, hb, hl, hm, hmm, rfl, hx⟩
  · obtain ⟨rfl, rfl, rfl⟩ : E = none ∧ len = 0 ∧ cap = 0 := by simpa using hcs
    exact ⟨[], rfl, Nat.le_refl _, fun _ => rfl, Kd.C_nil _ _⟩
  · obtain ⟨rfl, rfl, rfl⟩ : E = some a ∧ len = len' ∧ cap = cap' := by simpa using hcs
    clear hcs
    have hlm : len ≤ m := by rw [hmm]; split <;> omega
    have h2 : Try.prog.cellsOf 39 = 2 := by kernel_rfl
    have key : ∀ i, i < len → ∃ x : S39, ∀ j u, [Value.int .i64 x.f0, .int .i64 x.f1][j]? = some u → W.cell? (a.add (i * 2 + j)) = some u := by
      intro i hi
      obtain ⟨cs', h1, h3⟩ := hx i (by omega)
      obtain ⟨x0, x1, rfl⟩ := trod_sp h3
      obtain ⟨_, hlen, hcell⟩ := World.cells?_some h1
      refine ⟨⟨x0, x1⟩, fun j u hj => ?_⟩
      have hj2 : j < 2 := by
        have := (List.getElem?_eq_some_iff.1 hj).1
        simpa using this
      have := hcell j (by rw [h2]; exact hj2)
      rw [Go.Deep.add_add, h2] at this
      rw [this]
      exact hj
    haveI : Inhabited S39 := ⟨z39⟩
    obtain ⟨V, hV⟩ := choose_lt key
    have hel : ((List.range len).map V).length = len := by simp
    refine ⟨(List.range len).map V, hel, hl, fun e => (by cases e), ⟨rfl, by rw [hel]; unfold maxLen at hm; omega, fun _ => ⟨a, rfl, fun j p hj => ?_⟩⟩⟩
    obtain ⟨hj1, rfl⟩ := List.getElem?_eq_some_iff.1 hj
    have hj2 : j < len := by simpa using hj1
    refine ⟨_, ?_, k39_mk W _, fun i u hu => ?_⟩
    · rfl
    · simp only [List.getElem_map, List.getElem_range] at hu
      exact hV j hj2 i u hu
end
end Go.Proofs.Ytingbjdpjimikaa.B
namespace Go.Proofs.Ytingbjdpjimikaa.B
open Go.RowKit Go.ChangeShapes Go.WideShapes Go.Joins Go.Deep Go.Proofs.YtingbjdpjimikaaW.PrintWords Go.Proofs.Ytingbjdpjimikaa.FBase
def IsSpss (W : World) (E : Option Addr) (len cap : Nat) (l : List (List Sp)) : Prop :=
  l.length = len ∧ len ≤ cap ∧ Kd.C (Kd.slice 39 k39) W E l.length l
section
variable {H : Type} {enc : TypeId × Value → H} {W : World} {base : Nat} {spare : Nat → Bool} {held : Bool}
set_option maxRecDepth 100000 in
theorem open_spss {fuel : Nat} {E : Option Addr} {len cap : Nat} {x : DataW H × List MemPlace} (h : DataW.trod enc Try.prog W base spare held fuel 43 [.slice E len cap] = some x) :
    ∃ l, IsSpss W E len cap l := by
  rcases open_slice Try.underlying43 h with ⟨hcs, _⟩ | ⟨a, len', cap', m, n, D, Pl, hcs, hb, hl, hm, hmm, rfl, hx⟩
  · obtain ⟨rfl, rfl, rfl⟩ : E = none ∧ len = 0 ∧ cap = 0 := by simpa using hcs
    exact ⟨[], rfl, Nat.le_refl _, Kd.C_nil _ _⟩
  · obtain ⟨rfl, rfl, rfl⟩ : E = some a ∧ len = len' ∧ cap = cap' := by simpa using hcs
    clear hcs
    have hlm : len ≤ m := by rw [hmm]; split <;> omega
    have h2 : Try.prog.cellsOf 22 = 1 := by kernel_rfl
    have key : ∀ i, i < len → ∃ s : List Sp, ∃ A c, W.cell? (a.add i) = some (.slice A s.length c) ∧ s.length ≤ c ∧ Kd.C k39 W A s.length s := by
      intro i hi
      obtain ⟨cs', h1, h3⟩ := hx i (by omega)
      obtain ⟨E', len', cap', rfl⟩ : ∃ E' len' cap', cs' = [.slice E' len' cap'] := by
        rcases open_slice Try.underlying22 h3 with ⟨hcs, _⟩ | ⟨a, len', cap', m, n, D, Pl, hcs, _⟩
        · exact ⟨_, _, _, hcs⟩
        · exact ⟨_, _, _, hcs⟩
      obtain ⟨s, rfl, hc, _, hC⟩ := open_sps h3
      obtain ⟨_, hlen, hcell⟩ := World.cells?_some h1
      have := hcell 0 (by rw [h2]; decide)
      rw [Go.Deep.add_add, h2, Nat.mul_one, Nat.add_zero] at this
      exact ⟨s, E', cap', this, hc, hC⟩
    obtain ⟨V, hV⟩ := choose_lt key
    have hel : ((List.range len).map V).length = len := by simp
    refine ⟨(List.range len).map V, hel, hl, ⟨rfl, by rw [hel]; unfold maxLen at hm; omega, fun _ => ⟨a, rfl, fun j p hj => ?_⟩⟩⟩
    obtain ⟨hj1, rfl⟩ := List.getElem?_eq_some_iff.1 hj
    have hj2 : j < len := by simpa using hj1
    simp only [List.getElem_map, List.getElem_range]
    obtain ⟨A, c, h3, h4, h5⟩ := hV j hj2
    refine ⟨[.slice A (V j).length c], rfl, ⟨_, _, rfl, h4, h5⟩, fun i u hu => ?_⟩
    match i, hu with
    | 0, hu =>
      injection hu with hu
      subst hu
      rw [show Kd.sz (Kd.slice 39 k39) = 1 from rfl, Nat.mul_one, Nat.add_zero]
      exact h3
end
theorem SetParts_said (E : Option Addr) (len cap : Nat) (l : List (List Sp)) (W : World) (h : IsSpss W E len cap l) :
    Calls Try.prog 8 #[.slice E len cap] W fun e w' => e = .returned (.bool true) ∧ Below W.heap.size W w' := by
  obtain ⟨rfl, hc, hC⟩ := h
  exact SetParts_ok E cap l W hC hc
end Go.Proofs.Ytingbjdpjimikaa.B
namespace Go.Proofs.Ytingbjdpjimikaa.setParts
open Go.ChangeShapes Go.WideShapes Go.ChangeAt Go.RowKit Go.Proofs.Ytingbjdpjimikaa.B
theorem own : ownKnob Try.prog.godebug = none := by kernel_rfl
theorem laidOut : laidOutB Try.prog = true := by kernel_rfl
set_option maxRecDepth 100000 in
theorem lifted (os : Os) (started : os.Started) (H : Type) (enc : TypeId × Value → H) :
    ReturnsInHanded {} Try.checked os 8 .any (Rows.setPartsSpec.pre6 enc Try.prog Try.f8 Rows.setPartsRow.domain false) (Rows.setPartsSpec.post enc Try.prog Try.f8 false true false false) := by
  refine returnsInHanded_of_change_sized (C := Try.checked) own started (by kernel_rfl) Try.func8
    (ChangeSpec.witness6 (enc := enc) (C := Try.checked) false ⟨#[], #[.slice none 0 0], []⟩ 8 (by kernel_rfl) (by kernel_rfl) (by kernel_rfl) (by kernel_rfl)) ?_
  intro W base args ds gs before hval0 hW hcnd hsz0 _
  have hval : ∀ (j : Nat) t v, Try.f8.params[j]? = some t → args[j]? = some v → Value.okWide Try.prog W .any base t v := hval0
  have hW' := hW
  obtain ⟨p, q, hA0, hV, rfl, hfz, hnd⟩ := hW
  have hA : DataW.TrodAll enc Try.prog W 0 (fun _ => true) true Try.f8.params.toList args.toList ds p := hA0
  rw [Try.params8] at hA hval
  obtain ⟨v0, vs0, d0, ds0, p0, q0, hargs, rfl, rfl, h0, r0⟩ := trodAll_cons hA
  obtain ⟨rfl, rfl, rfl⟩ := trodAll_nil r0
  obtain rfl : args = #[v0] := by cases args; simp_all
  obtain ⟨rfl, rfl⟩ := trodVars_none hV
  obtain ⟨a0, len0, cap0, rfl⟩ := okWide_slice Try.underlying43 (hval 0 43 v0 rfl rfl)
  have k0 := h0
  have lt0 : ∀ x ∈ p0, x.block < W.heap.size := by obtain ⟨m, hm⟩ := k0; exact DataW.trod_lt m _ _ _ hm
  obtain ⟨z0, w0⟩ : ∃ l, IsSpss W a0 len0 cap0 l := by
    obtain ⟨fuel, hf⟩ := h0
    exact open_spss hf
  clear hA0 hval0 hsz0
  refine (SetParts_said a0 len0 cap0 z0 W w0).mono fun e W' ⟨he, bel⟩ => ?_
  subst he
  exact ⟨_, rfl, _, _, _, [], _, [], hW', trodAll_mk1 (shut_bool Try.underlying4 _), (trodAll_cons_mk (Below.trod laidOut (by kernel_rfl) (of_decide_eq_true (by kernel_rfl)) k0 bel lt0) trodAll_mk0), rfl, bel.frame _, fun h => by cases h⟩
theorem over : Rows.setPartsRow.holds Try.pinned (OpenSpec.ofChange Rows.setPartsSpec) :=
  OpenClaim.holds_of_wide 8 Try.f8 rfl rfl rfl rfl rfl rfl rfl ⟨rfl, rfl, rfl, rfl, rfl⟩ rfl rfl rfl rfl rfl (by kernel_rfl) Try.func8 (by kernel_rfl)
    (of_decide_eq_true (by kernel_rfl)) (by unfold Func.isWrapper; first | (rw [if_pos (by decide +kernel)]; kernel_rfl) | (rw [if_neg (by decide +kernel)]; exact ⟨rfl, rfl⟩))
    (fun os started H enc _ => lifted os started H enc)
theorem proved : Rows.SetPartsSaid := over
#print axioms proved
end Go.Proofs.Ytingbjdpjimikaa.setParts
namespace Go.Proofs.Ytingbjdpjimikaa
theorem setParts_holds : Rows.SetPartsSaid := setParts.proved
end Go.Proofs.Ytingbjdpjimikaa
