/-
  Texts of this session, one behind the other: N1, N2, N3, N4, K0, K1, R0, R1, R2, PC, N5.
-/
import Derived.RangeFuncNested
import Derived.RangeFuncBound
import Derived.RangeFuncCalls
import Derived.RangeFuncLeaves
import Derived.RangeFuncBox
import Derived.Shelf.Abstract
import Derived.Shelf.RegionOpen
import Derived.OwnWalkIn
import Derived.TacticsInMore
import Derived.LoopNIn
import Derived.LoopIn
import Derived.Test.YtjebkpcekkkbkaaProg
import Derived.Below
import Derived.Deep.Draws
import Derived.Deep.AppendLies
import Derived.Maps.AppendAt
import Derived.OwnWalk
import Derived.Laws.BytesArg
import Derived.Laws.MakeOwn
import Derived.Laws.OwnMore
import Derived.Deep.OwnRows
import Derived.Tactics
import Derived.Lib.ConvBytes
import Derived.Laws.Slices
import Derived.WalkKit
import Derived.KernelRfl
import Derived.RowKit3
import Derived.Deep.LoopGhost
import Derived.Deep.QuietTactic
import Derived.BigQuiet
import Derived.WideLaws
import Derived.Deep.DeepCutAuto
import Derived.Deep.CutBlock
import Derived.Deep.RegionHeld3
import Derived.Laws.Rows
import Derived.Lib.AppendStr
import Derived.ArgAppend
import Derived.Laws.IdiomCopy
import Derived.OrdersHeld
import Derived.Laws.BitsLemmas
import Derived.RowKit
import Derived.Test.YtjebkpcekkkbkaaWWords
import Derived.Test.YtjebkpcekkkbkaaWLast
import Derived.Test.YtjebkpcekkkbkaaWTab
import Derived.Test.YtjebkpcekkkbkaaWFour
import Derived.Test.YtjebkpcekkkbkaaWQPut
import Derived.Test.YtjebkpcekkkbkaaWApart
import Derived.Test.YtjebkpcekkkbkaaWArr
import Derived.Test.YtjebkpcekkkbkaaWZeros
import Derived.Test.YtjebkpcekkkbkaaWFoot
import Derived.Test.YtjebkpcekkkbkaaWKept
import Derived.Test.YtjebkpcekkkbkaaWShare
import Derived.Test.YtjebkpcekkkbkaaWN
import Derived.Test.YtjebkpcekkkbkaaWFootNe
import Derived.Test.YtjebkpcekkkbkaaWAt
import Derived.Test.YtjebkpcekkkbkaaWEqStruct
import Derived.Test.YtjebkpcekkkbkaaWRepsOne
import Derived.Test.YtjebkpcekkkbkaaWInv
import Derived.Test.YtjebkpcekkkbkaaWInvWords
import Derived.Test.YtjebkpcekkkbkaaWGuard
import Derived.Test.YtjebkpcekkkbkaaWNEv
import Derived.Test.YtjebkpcekkkbkaaWMore
import Derived.Deep.DeepFit
import Derived.Test.YtjebkpcekkkbkaaBulk
import Derived.ChangeShapes
import Derived.WalkMore
import Derived.WalkSpells
import Derived.Deep.CutRange
import Derived.IntWalk
import Derived.Lib.SlBytesConst
import Derived.Test.YtjebkpcekkkbkaaZN131
set_option linter.unusedSimpArgs false
set_option linter.unusedVariables false
/-
  Plain laws of edits: what an edit makes of a text.
-/
namespace Go.Proofs.Ytjebkpcekkkbkaa.B
open Go.RowKit Go.Proofs.YtjebkpcekkkbkaaW.PrintWords Go.Proofs.YtjebkpcekkkbkaaW.PrintLast Go.Proofs.YtjebkpcekkkbkaaW.PrintMore Go.Proofs.Ytjebkpcekkkbkaa.FBase
set_option linter.unusedVariables false
set_option linter.unusedSimpArgs false

/-- The bytes of an edit's range: from, to, an error. -/
noncomputable def esp (l : List Int) (wh : Bool) (x0 x1 x2 x3 : Int) : Int × Int × Int :=
  if wh then (0, l.length, 0) else if x0 < 0 ∨ x1 < 0 then (0, 0, 9) else if x2 < 0 ∨ x3 < 0 then (0, 0, 9)
  else if poff l x2 x3 < poff l x0 x1 then (0, 0, 150) else (poff l x0 x1, poff l x2 x3, 0)
/-- What an edit makes of a text: from, to, what comes of it, an error. -/
noncomputable def ech (l t : List Int) (wh : Bool) (x0 x1 x2 x3 : Int) : Int × Int × List Int × Int :=
  if (chk l).2 ≠ 0 then (0, 0, [], (chk l).2) else if (chk t).2 ≠ 0 then (0, 0, [], (chk t).2)
  else if (esp l wh x0 x1 x2 x3).2.2 ≠ 0 then (0, 0, [], (esp l wh x0 x1 x2 x3).2.2)
  else if 8192 < l.length - ((esp l wh x0 x1 x2 x3).2.1 - (esp l wh x0 x1 x2 x3).1) + t.length then (0, 0, [], 5)
  else ((esp l wh x0 x1 x2 x3).1, (esp l wh x0 x1 x2 x3).2.1, l.take (esp l wh x0 x1 x2 x3).1.toNat ++ t ++ l.drop (esp l wh x0 x1 x2 x3).2.1.toNat, 0)

theorem esp_range {l : List Int} (hB : Bytes l) (hv : V l) (wh : Bool) (x0 x1 x2 x3 : Int) : 0 ≤ (esp l wh x0 x1 x2 x3).1 ∧ (esp l wh x0 x1 x2 x3).1 ≤ (esp l wh x0 x1 x2 x3).2.1 ∧ (esp l wh x0 x1 x2 x3).2.1 ≤ l.length := by
  unfold esp
  cases wh with
  | true => simp
  | false =>
    by_cases h1 : x0 < 0 ∨ x1 < 0
    · simp [h1]
    · by_cases h2 : x2 < 0 ∨ x3 < 0
      · simp [h1, h2]
      · by_cases h3 : poff l x2 x3 < poff l x0 x1
        · simp [h1, h2, h3]
        · have a := poff_range l hB hv x0 x1 (by omega)
          have b := poff_range l hB hv x2 x3 (by omega)
          simp [h1, h2, h3]
          omega
theorem esp_cut {l : List Int} (hB : Bytes l) (hv : V l) (wh : Bool) (x0 x1 x2 x3 : Int) : V (l.take (esp l wh x0 x1 x2 x3).1.toNat) ∧ V (l.take (esp l wh x0 x1 x2 x3).2.1.toNat) := by
  unfold esp
  cases wh with
  | true => simpa using ⟨V.nil, hv⟩
  | false =>
    by_cases h1 : x0 < 0 ∨ x1 < 0
    · simp [h1]; exact V.nil
    · by_cases h2 : x2 < 0 ∨ x3 < 0
      · simp [h1, h2]; exact V.nil
      · by_cases h3 : poff l x2 x3 < poff l x0 x1
        · simp [h1, h2, h3]; exact V.nil
        · simp only [Bool.false_eq_true, if_false, if_neg h1, if_neg h2, if_neg h3]
          exact ⟨poff_V hB hv x0 x1 (by omega), poff_V hB hv x2 x3 (by omega)⟩
/-- An edit of a place and a place, in order. -/
theorem esp_at {l : List Int} {x0 x1 x2 x3 a b : Int} (h0 : 0 ≤ x0) (h1 : 0 ≤ x1) (h2 : 0 ≤ x2) (h3 : 0 ≤ x3) (ha : poff l x0 x1 = a) (hb : poff l x2 x3 = b) (hab : a ≤ b) : esp l false x0 x1 x2 x3 = (a, b, 0) := by
  unfold esp
  rw [if_neg (by simp), if_neg (by omega), if_neg (by omega), ha, hb, if_neg (by omega)]
theorem drop_V {l : List Int} (hB : Bytes l) (hv : V l) {n : Nat} (h : V (l.take n)) : V (l.drop n) := by
  refine h.after (hB.take _) ?_
  rw [List.take_append_drop]
  exact hv
/-- What comes of an edit of a text is a text. -/
theorem ech_V {l t : List Int} (hB : Bytes l) (hT : Bytes t) (wh : Bool) (x0 x1 x2 x3 : Int) (h : (ech l t wh x0 x1 x2 x3).2.2.2 = 0) :
    V l ∧ V t ∧ V (ech l t wh x0 x1 x2 x3).2.2.1 ∧ Bytes (ech l t wh x0 x1 x2 x3).2.2.1 ∧ (ech l t wh x0 x1 x2 x3).2.2.1.length ≤ 8192 ∧
      (esp l wh x0 x1 x2 x3).2.2 = 0 ∧ (ech l t wh x0 x1 x2 x3).1 = (esp l wh x0 x1 x2 x3).1 ∧ (ech l t wh x0 x1 x2 x3).2.1 = (esp l wh x0 x1 x2 x3).2.1 ∧
      (ech l t wh x0 x1 x2 x3).2.2.1 = l.take (esp l wh x0 x1 x2 x3).1.toNat ++ t ++ l.drop (esp l wh x0 x1 x2 x3).2.1.toNat := by
  unfold ech at h ⊢
  by_cases c1 : (chk l).2 ≠ 0
  · rw [if_pos c1] at h; exact absurd h c1
  · rw [if_neg c1] at h ⊢
    by_cases c2 : (chk t).2 ≠ 0
    · rw [if_pos c2] at h; exact absurd h c2
    · rw [if_neg c2] at h ⊢
      by_cases c3 : (esp l wh x0 x1 x2 x3).2.2 ≠ 0
      · rw [if_pos c3] at h; exact absurd h c3
      · rw [if_neg c3] at h ⊢
        by_cases c4 : 8192 < l.length - ((esp l wh x0 x1 x2 x3).2.1 - (esp l wh x0 x1 x2 x3).1) + t.length
        · rw [if_pos c4] at h; simp at h
        · rw [if_neg c4]
          have hv : V l := (chk_V hB).1 (by omega)
          have ht : V t := (chk_V hT).1 (by omega)
          have hr := esp_range hB hv wh x0 x1 x2 x3
          have hc := esp_cut hB hv wh x0 x1 x2 x3
          have e3 : (esp l wh x0 x1 x2 x3).2.2 = 0 := by omega
          refine ⟨hv, ht, (hc.1.append (hB.take _) ht).append ((hB.take _).append hT) (drop_V hB hv hc.2), ((hB.take _).append hT).append (hB.drop _), ?_, e3, rfl, rfl, rfl⟩
          simp only [List.length_append, List.length_take, List.length_drop]
          omega
theorem ech_ok {l t : List Int} {wh : Bool} {x0 x1 x2 x3 a b : Int} (hl : (chk l).2 = 0) (ht : (chk t).2 = 0) (hs : esp l wh x0 x1 x2 x3 = (a, b, 0)) (hn : l.length - (b - a) + t.length ≤ 8192) :
    ech l t wh x0 x1 x2 x3 = (a, b, l.take a.toNat ++ t ++ l.drop b.toNat, 0) := by
  unfold ech
  rw [if_neg (by omega), if_neg (by omega), hs, if_neg (by simp), if_neg (by simp only []; omega)]
/-- Edits, one behind the other. -/
structure Ed where
  wh : Bool
  x0 : Int
  x1 : Int
  x2 : Int
  x3 : Int
  t : List Int
noncomputable def eone (l : List Int) (e : Ed) : List Int × Int := (ech l e.t e.wh e.x0 e.x1 e.x2 e.x3).2.2
noncomputable def eall : List Int → List Ed → List Int × Int
  | l, [] => (l, 0)
  | l, e :: r => if (eone l e).2 ≠ 0 then ([], (eone l e).2) else eall (eone l e).1 r
/-- Apply. -/
noncomputable def eapp (l : List Int) (es : List Ed) : List Int × Int := if (chk l).2 ≠ 0 then ([], (chk l).2) else if 32 < es.length then ([], 5) else eall l es
theorem eone_V {l : List Int} {e : Ed} (hB : Bytes l) (hT : Bytes e.t) (h : (eone l e).2 = 0) : V (eone l e).1 ∧ Bytes (eone l e).1 ∧ (eone l e).1.length ≤ 8192 := by
  have := ech_V hB hT e.wh e.x0 e.x1 e.x2 e.x3 h
  exact ⟨this.2.2.1, this.2.2.2.1, this.2.2.2.2.1⟩
theorem eall_app : ∀ (a b : List Ed) (l : List Int), eall l (a ++ b) = if (eall l a).2 ≠ 0 then ([], (eall l a).2) else eall (eall l a).1 b
  | [], b, l => by simp [eall]
  | e :: a, b, l => by
    simp only [List.cons_append, eall]
    by_cases h : (eone l e).2 ≠ 0
    · simp only [if_pos h]
    · simp only [if_neg h]
      exact eall_app a b _
theorem eall_V : ∀ (es : List Ed) (l : List Int), Bytes l → V l → (∀ e ∈ es, Bytes e.t) → (eall l es).2 = 0 → V (eall l es).1 ∧ Bytes (eall l es).1
  | [], l, hB, hv, _, _ => ⟨hv, hB⟩
  | e :: es, l, hB, hv, hT, h => by
    simp only [eall] at h ⊢
    by_cases h1 : (eone l e).2 ≠ 0
    · rw [if_pos h1] at h; exact absurd h h1
    · rw [if_neg h1] at h ⊢
      have h2 := eone_V hB (hT e List.mem_cons_self) (by omega)
      exact eall_V es _ h2.2.1 h2.1 (fun x hx => hT x (List.mem_cons_of_mem _ hx)) h
theorem ech_err (l t : List Int) (wh : Bool) (x0 x1 x2 x3 : Int) (h : (ech l t wh x0 x1 x2 x3).2.2.2 ≠ 0) : (ech l t wh x0 x1 x2 x3).1 = 0 ∧ (ech l t wh x0 x1 x2 x3).2.1 = 0 ∧ (ech l t wh x0 x1 x2 x3).2.2.1 = [] := by
  unfold ech at h ⊢
  split
  · exact ⟨rfl, rfl, rfl⟩
  · rename_i c1
    rw [if_neg c1] at h
    split
    · exact ⟨rfl, rfl, rfl⟩
    · rename_i c2
      rw [if_neg c2] at h
      split
      · exact ⟨rfl, rfl, rfl⟩
      · rename_i c3
        rw [if_neg c3] at h
        split
        · exact ⟨rfl, rfl, rfl⟩
        · rename_i c4
          rw [if_neg c4] at h
          exact absurd rfl h
/-- EditList's law. -/
theorem eapp_list (l : List Int) (es : List Ed) (cut : Nat) (hB : Bytes l) (hT : ∀ e ∈ es, Bytes e.t) (hv : (chk l).2 = 0) (hn : es.length ≤ 32) (hc : cut ≤ es.length) :
    ((eapp l (es.take cut)).2 ≠ 0 → (eapp l es).2 = (eapp l (es.take cut)).2 ∧ (eapp l es).1 = []) ∧
    ((eapp l (es.take cut)).2 = 0 → eapp l es = eapp (eapp l (es.take cut)).1 (es.drop cut)) := by
  have h1 : ∀ n, (es.take n).length ≤ 32 := fun n => by rw [List.length_take]; omega
  have h2 : (es.drop cut).length ≤ 32 := by rw [List.length_drop]; omega
  have e0 : eapp l (es.take cut) = eall l (es.take cut) := by unfold eapp; rw [if_neg (by omega), if_neg (by have := h1 cut; omega)]
  have e1 : eapp l es = eall l es := by unfold eapp; rw [if_neg (by omega), if_neg (by omega)]
  have e2 := eall_app (es.take cut) (es.drop cut) l
  rw [List.take_append_drop] at e2
  rw [e0, e1, e2]
  refine ⟨fun h => by rw [if_pos h]; exact ⟨rfl, rfl⟩, fun h => ?_⟩
  rw [if_neg (by omega)]
  have hV := eall_V (es.take cut) l hB ((chk_V hB).1 hv) (fun e he => hT e (List.mem_of_mem_take he)) h
  unfold eapp
  rw [if_neg (by have := (chk_V hV.2).2 hV.1; omega), if_neg (by omega)]
/-- EditBack's law: the edit that takes one back. -/
theorem back_law {l t : List Int} {wh : Bool} {x0 x1 x2 x3 : Int} (hB : Bytes l) (hT : Bytes t) (hl : l.length ≤ 8192) (h : (ech l t wh x0 x1 x2 x3).2.2.2 = 0) {y0 y1 y2 y3 : Int} (h0 : 0 ≤ y0) (h1 : 0 ≤ y1) (h2 : 0 ≤ y2) (h3 : 0 ≤ y3)
    (ha : poff (ech l t wh x0 x1 x2 x3).2.2.1 y0 y1 = (esp l wh x0 x1 x2 x3).1) (hb : poff (ech l t wh x0 x1 x2 x3).2.2.1 y2 y3 = (esp l wh x0 x1 x2 x3).1 + t.length) :
    eone (ech l t wh x0 x1 x2 x3).2.2.1 ⟨false, y0, y1, y2, y3, (l.take (esp l wh x0 x1 x2 x3).2.1.toNat).drop (esp l wh x0 x1 x2 x3).1.toNat⟩ = (l, 0) := by
  obtain ⟨hv, ht, hx, hxB, hn, e3, e4, e5, e6⟩ := ech_V hB hT wh x0 x1 x2 x3 h
  have hr := esp_range hB hv wh x0 x1 x2 x3
  have hc := esp_cut hB hv wh x0 x1 x2 x3
  generalize (ech l t wh x0 x1 x2 x3).2.2.1 = x at *
  generalize (esp l wh x0 x1 x2 x3).1 = a at *
  generalize (esp l wh x0 x1 x2 x3).2.1 = b at *
  have hxl : x.length = a.toNat + t.length + (l.length - b.toNat) := by
    rw [e6]; simp only [List.length_append, List.length_take, List.length_drop]; omega
  have hseg : V ((l.take b.toNat).drop a.toNat) := by
    refine hc.1.after (hB.take _) ?_
    have : l.take a.toNat ++ (l.take b.toNat).drop a.toNat = l.take b.toNat := by
      rw [show l.take a.toNat = (l.take b.toNat).take a.toNat by rw [List.take_take]; congr 1; omega, List.take_append_drop]
    rw [this]
    exact hc.2
  have hsl : ((l.take b.toNat).drop a.toNat).length = b.toNat - a.toNat := by rw [List.length_drop, List.length_take]; omega
  unfold eone
  rw [ech_ok ((chk_V hxB).2 hx) ((chk_V ((hB.take _).drop _)).2 hseg) (esp_at h0 h1 h2 h3 ha hb (by omega)) (by rw [hsl]; omega)]
  refine Prod.ext ?_ rfl
  show x.take a.toNat ++ (l.take b.toNat).drop a.toNat ++ x.drop (a + t.length).toNat = l
  have g1 : x.take a.toNat = l.take a.toNat := by
    rw [e6, List.append_assoc, List.take_append_of_le_length (by rw [List.length_take]; omega), List.take_take]
    congr 1; omega
  have g2 : x.drop (a + t.length).toNat = l.drop b.toNat := by
    rw [e6]
    rw [List.drop_left' (by rw [List.length_append, List.length_take]; omega)]
  rw [g1, g2]
  have g3 : l.take a.toNat ++ (l.take b.toNat).drop a.toNat = l.take b.toNat := by
    rw [show l.take a.toNat = (l.take b.toNat).take a.toNat by rw [List.take_take]; congr 1; omega, List.take_append_drop]
  rw [g3, List.take_append_drop]
/-- A whole edit. -/
theorem whole_law {l t : List Int} (hB : Bytes l) (hT : Bytes t) (hl : V l) (ht : V t) (hn : t.length ≤ 8192) (x0 x1 x2 x3 : Int) : eone l ⟨true, x0, x1, x2, x3, t⟩ = (t, 0) := by
  unfold eone
  rw [ech_ok (a := 0) (b := l.length) ((chk_V hB).2 hl) ((chk_V hT).2 ht) (by simp [esp]) (by omega)]
  simp
/-- An edit of a place by no text. -/
theorem nothing_law {l : List Int} (hB : Bytes l) (hl : V l) (hn : l.length ≤ 8192) (x0 x1 : Int) (h0 : 0 ≤ x0) (h1 : 0 ≤ x1) : eone l ⟨false, x0, x1, x0, x1, []⟩ = (l, 0) := by
  unfold eone
  rw [ech_ok (a := poff l x0 x1) (b := poff l x0 x1) ((chk_V hB).2 hl) rfl (esp_at h0 h1 h0 h1 rfl rfl (Int.le_refl _)) (by simp; omega)]
  simp
/-- What Diff tells: how many bytes both begin with, and end with. -/
structure IsDiff (a b : List Int) (from_ tail : Nat) : Prop where
  p : IsP a from_
  fa : from_ + tail ≤ a.length
  fb : from_ + tail ≤ b.length
  pre : a.take from_ = b.take from_
  most : ∀ n : Nat, from_ < n → n ≤ a.length → n ≤ b.length → a.take n = b.take n → ¬ IsP a n
  q : IsP a ((a.length - tail : Nat) : Int)
  suf : a.drop (a.length - tail) = b.drop (b.length - tail)
  far : ∀ n : Nat, tail < n → from_ + n ≤ a.length → from_ + n ≤ b.length → a.drop (a.length - n) = b.drop (b.length - n) → ¬ IsP a ((a.length - n : Nat) : Int)
theorem IsDiff.uniq {a b : List Int} {f t f' t' : Nat} (h : IsDiff a b f t) (h' : IsDiff a b f' t') : f = f' ∧ t = t' := by
  have e : f = f' := by
    rcases Nat.lt_trichotomy f f' with hlt | heq | hgt
    · exact absurd h'.p (h.most f' hlt (by have := h'.fa; omega) (by have := h'.fb; omega) h'.pre)
    · exact heq
    · exact absurd h.p (h'.most f hgt (by have := h.fa; omega) (by have := h.fb; omega) h.pre)
  subst e
  refine ⟨rfl, ?_⟩
  rcases Nat.lt_trichotomy t t' with hlt | heq | hgt
  · exact absurd h'.q (h.far t' hlt h'.fa h'.fb h'.suf)
  · exact heq
  · exact absurd h.q (h'.far t hgt h.fa h.fb h.suf)
/-- EditMakes' law: Diff makes b of a. -/
theorem diff_law {a b : List Int} {f t : Nat} (hA : Bytes a) (hB : Bytes b) (va : V a) (vb : V b) (hb : b.length ≤ 8192) (h : IsDiff a b f t) {y0 y1 y2 y3 : Int} (h0 : 0 ≤ y0) (h1 : 0 ≤ y1) (h2 : 0 ≤ y2) (h3 : 0 ≤ y3)
    (ha : poff a y0 y1 = f) (ht : poff a y2 y3 = ((a.length - t : Nat) : Int)) : eone a ⟨false, y0, y1, y2, y3, (b.take (b.length - t)).drop f⟩ = (b, 0) := by
  have hfa := h.fa
  have hfb := h.fb
  have hpre := h.pre
  have hsuf := h.suf
  have v1 := IsP.cut hA va h.p
  have v2 := IsP.cut hA va h.q
  have v3 := drop_V hA va v2
  have hb1 : b.take (b.length - t) ++ a.drop (a.length - t) = b := by rw [hsuf, List.take_append_drop]
  have v4 : V (b.take (b.length - t)) := V.ahead v3 (hA.drop _) _ (Nat.le_refl _) (hB.take _) (by rw [hb1]; exact vb)
  have e2 : b.take f ++ (b.take (b.length - t)).drop f = b.take (b.length - t) := by
    rw [show b.take f = (b.take (b.length - t)).take f by rw [List.take_take]; congr 1; omega, List.take_append_drop]
  have v5 : V ((b.take (b.length - t)).drop f) := by
    rw [hpre] at v1
    exact v1.after (hB.take _) (by rw [e2]; exact v4)
  have hlen : ((b.take (b.length - t)).drop f).length = b.length - t - f := by rw [List.length_drop, List.length_take]; omega
  unfold eone
  rw [ech_ok ((chk_V hA).2 va) ((chk_V ((hB.take _).drop _)).2 v5) (esp_at h0 h1 h2 h3 ha ht (by omega)) (by rw [hlen]; omega)]
  refine Prod.ext ?_ rfl
  show a.take ((f : Nat) : Int).toNat ++ _ ++ a.drop (((a.length - t : Nat) : Int)).toNat = b
  rw [Int.toNat_natCast, Int.toNat_natCast, hpre, e2, hb1]
end Go.Proofs.Ytjebkpcekkkbkaa.B

/-
  Words of this session's own: append onto a slice that has no room to spare, or is the call's own; bytes of a string.
-/
namespace Go.Proofs.Ytjebkpcekkkbkaa.B
open Go.RowKit Go.Shelf Go.Proofs Go.Proofs.YtjebkpcekkkbkaaW.PrintWords Go.Proofs.YtjebkpcekkkbkaaW.PrintLast Go.Proofs.YtjebkpcekkkbkaaW.PrintMore Go.Proofs.Ytjebkpcekkkbkaa.FBase
set_option linter.unusedVariables false
set_option linter.unusedSimpArgs false

/-- A slice of bytes that is read, without room to spare; or one of the call's own. -/
def Ap (e : TypeId) (W : World) (base : Nat) (v : Value) (xs : List Int) : Prop :=
  (∃ ad, v = .slice (some ad) xs.length xs.length ∧ Kd.C (Kd.int .u8) W (some ad) xs.length xs) ∨ Kd.R (Kd.int .u8) e W base (fun _ => True) v xs
theorem Ap.read {e : TypeId} {W : World} {base : Nat} {v : Value} {xs : List Int} (h : Ap e W base v xs) : ∃ A c, v = .slice A xs.length c ∧ xs.length ≤ c ∧ (A = none → c = 0) ∧ Kd.C (Kd.int .u8) W A xs.length xs := by
  rcases h with ⟨ad, rfl, hC⟩ | hR
  · exact ⟨some ad, xs.length, rfl, Nat.le_refl _, (fun e => by cases e), hC⟩
  · obtain ⟨A, c, rfl, hl, hC⟩ := Kd.R_reads hR
    refine ⟨A, c, rfl, hl, fun e => ?_, hC⟩
    subst e
    obtain ⟨inner, ho⟩ := Kd.R_own hR
    rcases ho.2 with ⟨hv, _⟩ | ⟨g, cap', cur, hv, _⟩
    · injection hv
    · injection hv with h1 _ _
      cases h1
theorem Ap.below {e : TypeId} {W W1 : World} {base : Nat} {v : Value} {xs : List Int} (h : Ap e W base v xs) (hb : Below W.heap.size W W1) : Ap e W1 base v xs := by
  rcases h with ⟨ad, rfl, hC⟩ | hR
  · exact .inl ⟨ad, rfl, Kd.C_below hC hb⟩
  · exact .inr (Kd.R_below hR hb)
theorem Ap.full {e : TypeId} {W : World} (base : Nat) {A : Option Addr} {xs : List Int} (h : Kd.C (Kd.int .u8) W A xs.length xs) : Ap e W base (.slice A xs.length xs.length) xs := by
  cases A with
  | some ad => exact .inl ⟨ad, rfl, h⟩
  | none =>
    have h0 : xs.length = 0 := by
      rcases Nat.eq_zero_or_pos xs.length with h0 | h0
      · exact h0
      · obtain ⟨ad, h, _⟩ := h.2.2 h0
        cases h
    obtain rfl : xs = [] := List.eq_nil_of_length_eq_zero h0
    exact .inr (Kd.R_nil _ _ _ _ _)
theorem reads_cells {W : World} {ad : Addr} {xs : List Int} (h : Kd.C (Kd.int .u8) W (some ad) xs.length xs) : ∀ j u, (nums .u8 xs)[j]? = some u → W.cell? (ad.add j) = some u := by
  intro j u hj
  have hr := Kd.reads_of_C (enc := Value.int .u8) (d := (0 : Int)) (h1 := fun _ => rfl) h
  have hlt : j < xs.length := by
    have := (List.getElem?_eq_some_iff.1 hj).1
    rwa [nums_length] at this
  obtain ⟨ad', e1, h1⟩ := hr.2.2 (by omega)
  injection e1 with e1
  subst e1
  have h2 := h1 j hlt
  rw [h2]
  simp only [nums, List.getElem?_map] at hj
  rw [← hj]
  simp [List.getD, hlt]

section
variable {P : Program}
theorem ap_run_slice {W : World} (base : Nat) (t ty e : TypeId) (ht : P.underlying t = some (.slice e)) (hinfo : (P.info? e).map (fun i => (i.zero, i.size, i.bytes)) = some (some (.int .u8 0), 1, 1))
    (v : Value) (xs ys : List Int) (A : Option Addr) (c : Nat) (HO : Ap e W base v xs) (HR : Kd.C (Kd.int .u8) W A ys.length ys) (hbase : base ≤ W.heap.size) (hl : xs.length + ys.length ≤ 140737488355328) :
    ∃ v1 w1, (Builtin.append_ #[t, t] ty #[v, .slice A ys.length c]).run P W = .ok v1 w1 ∧ Ap e w1 base v1 (xs ++ ys) ∧ ∃ row, W.grownBy w1 row ∧ ∀ k, row = some k → base ≤ k := by
  obtain ⟨i0, hi, hzz⟩ := Option.map_eq_some_iff.1 hinfo
  simp only [Prod.mk.injEq] at hzz
  obtain ⟨hz0, hz1, hz2⟩ := hzz
  by_cases hfull : ∃ ad, v = .slice (some ad) xs.length xs.length ∧ Kd.C (Kd.int .u8) W (some ad) xs.length xs
  · obtain ⟨ad, rfl, hC⟩ := hfull
    by_cases h0 : ys.length = 0
    · obtain rfl : ys = [] := List.eq_nil_of_length_eq_zero h0
      refine ⟨_, W, ?_, by rw [List.append_nil]; exact .inl ⟨ad, rfl, hC⟩, none, World.grownBy.refl W _, fun k hk => by cases hk⟩
      rcases A with _ | a2
      · simp [Builtin.append_, run_underlying ht, sizeOf, typeInfo, hi, Builtin.lenOf, Builtin.firstCells, storeCells]
      · have hfc := run_firstCells_some (P := P) W i0.size 0 a2 0 c [] (by simp) (by simp)
        simp [Builtin.append_, run_underlying ht, sizeOf, typeInfo, hi, Builtin.lenOf, hfc, storeCells]
    · obtain ⟨a2, rfl⟩ : ∃ a2, A = some a2 := by
        obtain ⟨a2, h, _⟩ := HR.2.2 (by omega)
        exact ⟨a2, h⟩
      obtain ⟨v1, w1, hrun, hown, hg⟩ := run_append_arg_grows (P := P) W t ty e i0 (.int .u8 0) 1 1 ht hi hz0 hz1 hz2 rfl (by decide) ad xs.length xs.length (nums .u8 xs) (by rw [nums_length, Nat.mul_one]) (reads_cells hC) a2 ys.length c (nums .u8 ys) (by rw [nums_length, Nat.mul_one]) (reads_cells HR) (by omega) (by unfold maxLen; omega) (by omega)
      refine ⟨v1, w1, hrun, .inr ?_, none, hg, fun k hk => by cases hk⟩
      rw [← nums_append, ← List.length_append] at hown
      exact Kd.R_of_own (enc := Value.int .u8) (h1 := fun _ => rfl) (own_less hown hbase) (fun _ _ => trivial)
  · have hR : Kd.R (Kd.int .u8) e W base (fun _ => True) v xs := by
      rcases HO with h | h
      · exact absurd h hfull
      · exact h
    have hown := Kd.own_of_R (enc := Value.int .u8) (h1 := fun _ => rfl) hR
    rcases A with _ | a2
    · have h0 : ys.length = 0 := by
        rcases Nat.eq_zero_or_pos ys.length with h0 | h0
        · exact h0
        · obtain ⟨ad, h, _⟩ := HR.2.2 h0
          cases h
      obtain rfl : ys = [] := List.eq_nil_of_length_eq_zero h0
      refine ⟨v, W, ?_, by rw [List.append_nil]; exact .inr hR, none, World.grownBy.refl W _, fun k hk => by cases hk⟩
      rcases hown.2 with ⟨rfl, hn⟩ | ⟨g, cap, cur, rfl, _, _, hnc, _⟩
      · simp [Builtin.append_, run_underlying ht, sizeOf, typeInfo, hi, Builtin.lenOf, Builtin.firstCells]
      · simp [Builtin.append_, run_underlying ht, sizeOf, typeInfo, hi, Builtin.lenOf, Builtin.firstCells, hnc, storeCells]
    · obtain ⟨v1, w1, hrun, ho1, hg1, _⟩ := run_append_own (P := P) W base t ty e i0 (.int .u8 0) 1 1 ht hi hz0 hz1 hz2 rfl (by decide) v xs.length (encs (Value.int .u8) xs) hown a2 ys.length c (nums .u8 ys) (by rw [nums_length, Nat.mul_one]) (reads_cells HR) (by intro u hu; simp only [nums, List.mem_map] at hu; obtain ⟨x, _, rfl⟩ := hu; rfl) (by unfold maxLen; omega) (by omega) hbase
      refine ⟨v1, w1, hrun, .inr ?_, _, hg1, fun k hk => own_base hown k hk⟩
      refine Kd.R_of_own (enc := Value.int .u8) (h1 := fun _ => rfl) ?_ (fun _ _ => trivial)
      have e1 : encs (Value.int .u8) (xs ++ ys) = encs (Value.int .u8) xs ++ nums .u8 ys := by simp [encs, nums]
      rw [e1, List.length_append]
      exact ho1
/-- append of a slice's bytes. -/
theorem ap_append {w0 W : World} {ops : Array Oper} {rest : List Oper} {o : Oper} {a : Act} {Q : Exit → Act → World → Prop} (base : Nat) (hgd : o.guard = none) (s x : Operand) (t e : TypeId)
    (ho : o.op = .call { callee := .builtin .append, args := #[s, x], argTypes := #[t, t] }) (ht : P.underlying t = some (.slice e)) (hinfo : (P.info? e).map (fun i => (i.zero, i.size, i.bytes)) = some (some (.int .u8 0), 1, 1))
    (v : Value) (xs ys : List Int) (A : Option Addr) (m c : Nat) (hs : a.eval s = v) (hx : a.eval x = .slice A m c) (hm : ys.length = m)
    (HO : Ap e W base v xs) (HR : Kd.C (Kd.int .u8) W A ys.length ys) (HB : Below base w0 W) (hbase : base ≤ W.heap.size) (hl : xs.length + ys.length ≤ 140737488355328)
    (h : ∀ v1 w1, Ap e w1 base v1 (xs ++ ys) → Below base w0 w1 → W.heap.size ≤ w1.heap.size → wpList P ops Q rest (a.put o.dst v1) w1) : wpList P ops Q (o :: rest) a W := by
  subst hm
  refine wpList_plain hgd fun K hK' => ?_
  obtain ⟨v1, w1, hrun, r1, row, r2, r3⟩ := ap_run_slice (P := P) base t o.type e ht hinfo v xs ys A c HO HR hbase hl
  unfold Oper.wp
  simp [execOp, ho, resolve, invoke, builtin, hs, hx, hrun, Result.andThen]
  exact hK' _ _ (h v1 w1 r1 (HB.grown r2 hbase r3) r2.size)
theorem ap_run_str {W : World} (base : Nat) (t u ty e : TypeId) (ht : P.underlying t = some (.slice e)) (hu : P.underlying u = some .string) (hinfo : (P.info? e).map (fun i => (i.zero, i.size, i.bytes)) = some (some (.int .u8 0), 1, 1))
    (v : Value) (xs : List Int) (y : ByteArray) (HO : Ap e W base v xs) (hbase : base ≤ W.heap.size) (hl : xs.length + y.size ≤ 140737488355328) :
    ∃ v1 w1, (Builtin.append_ #[t, u] ty #[v, .string y]).run P W = .ok v1 w1 ∧ Ap e w1 base v1 (xs ++ bytesOf y) ∧ ∃ row, W.grownBy w1 row ∧ ∀ k, row = some k → base ≤ k := by
  obtain ⟨i0, hi, hzz⟩ := Option.map_eq_some_iff.1 hinfo
  simp only [Prod.mk.injEq] at hzz
  obtain ⟨hz0, hz1, hz2⟩ := hzz
  have ecs : ∀ xs : List Int, nums .u8 (xs ++ bytesOf y) = nums .u8 xs ++ Lib.strCells y := fun xs => by
    rw [nums_append]
    congr 1
    simp [nums, bytesOf, Lib.strCells]
  by_cases hfull : ∃ ad, v = .slice (some ad) xs.length xs.length ∧ Kd.C (Kd.int .u8) W (some ad) xs.length xs
  · obtain ⟨ad, rfl, hC⟩ := hfull
    by_cases h0 : y.size = 0
    · have e0 : bytesOf y = [] := List.eq_nil_of_length_eq_zero (by rw [bytesOf_length]; exact h0)
      refine ⟨.slice (some ad) xs.length xs.length, W, ?_, by rw [e0, List.append_nil]; exact .inl ⟨ad, rfl, hC⟩, none, World.grownBy.refl W _, fun k hk => by cases hk⟩
      have hf := Lib.run_firstCells_string (P := P) W i0.size y
      have e1 : Lib.strCells y = [] := List.eq_nil_of_length_eq_zero (by rw [Lib.strCells_length]; exact h0)
      rw [e1, h0] at hf
      simp [Builtin.append_, run_underlying ht, run_underlying hu, sizeOf, typeInfo, hi, Builtin.lenOf, h0, hf, storeCells]
    · have hcm : grownCap W (xs.length + y.size) xs.length e ≤ maxLen := grownCap_le_maxLen W _ xs.length e (by unfold maxLen; omega)
      have hge := grownCap_ge W (xs.length + y.size) xs.length e
      have hrun := Lib.run_append_grow_string (P := P) W t u ty e i0 (.int .u8 0) ht hu hi hz0 ad xs.length xs.length (nums .u8 xs) (by rw [nums_length, hz1, Nat.mul_one]) (reads_cells hC) y (by omega) (by omega) (by rw [hz2]; exact growslice_fits (by omega) (by omega))
      refine ⟨_, _, hrun, .inr ?_, none, ⟨rfl, rfl, rfl, by simp, fun k hk _ => heap_alloc_old W.drew _ k hk⟩, fun k hk => by cases hk⟩
      refine Kd.R_of_own (enc := Value.int .u8) (h1 := fun _ => rfl) ?_ (fun _ _ => trivial)
      have e1 : encs (Value.int .u8) (xs ++ bytesOf y) = nums .u8 xs ++ Lib.strCells y := ecs xs
      have hlen : (xs ++ bytesOf y).length = xs.length + y.size := by rw [List.length_append, bytesOf_length]
      rw [e1, hlen]
      refine ⟨by rw [List.length_append, nums_length, Lib.strCells_length, Nat.mul_one], .inr ⟨W.heap.size, _, _, rfl, hbase, heap_alloc_new W.drew _, hge, hcm, ?_, ?_⟩⟩
      · simp only [Array.size_append, List.size_toArray, size_zeroCells, nums_length, Lib.strCells_length]
        show _ = _ * 1
        have : (Value.int IntKind.u8 0).cells.size = 1 := rfl
        rw [this]
        omega
      · simp only [Array.toList_append, List.append_assoc]
        rw [← List.append_assoc, Nat.mul_one, show xs.length + y.size = (nums .u8 xs ++ Lib.strCells y).length by rw [List.length_append, nums_length, Lib.strCells_length]]
        exact List.take_left
  · have hR : Kd.R (Kd.int .u8) e W base (fun _ => True) v xs := by
      rcases HO with h | h
      · exact absurd h hfull
      · exact h
    have hown := Kd.own_of_R (enc := Value.int .u8) (h1 := fun _ => rfl) hR
    obtain ⟨v1, w1, hrun, ho1, hg1, _⟩ := Lib.run_append_own_string (P := P) W base t u ty e i0 ht hu hi hz0 hz1 hz2 v xs.length (nums .u8 xs) hown y (by unfold maxLen; omega) (by omega) hbase
    refine ⟨v1, w1, hrun, .inr ?_, _, hg1, fun k hk => own_base hown k hk⟩
    refine Kd.R_of_own (enc := Value.int .u8) (h1 := fun _ => rfl) ?_ (fun _ _ => trivial)
    have e1 : encs (Value.int .u8) (xs ++ bytesOf y) = nums .u8 xs ++ Lib.strCells y := ecs xs
    rw [e1, List.length_append, bytesOf_length]
    exact ho1
/-- append of a string's bytes. -/
theorem ap_append_str {w0 W : World} {ops : Array Oper} {rest : List Oper} {o : Oper} {a : Act} {Q : Exit → Act → World → Prop} (base : Nat) (hgd : o.guard = none) (s x : Operand) (t u e : TypeId)
    (ho : o.op = .call { callee := .builtin .append, args := #[s, x], argTypes := #[t, u] }) (ht : P.underlying t = some (.slice e)) (hu : P.underlying u = some .string) (hinfo : (P.info? e).map (fun i => (i.zero, i.size, i.bytes)) = some (some (.int .u8 0), 1, 1))
    (v : Value) (xs : List Int) (y : ByteArray) (hs : a.eval s = v) (hx : a.eval x = .string y)
    (HO : Ap e W base v xs) (HB : Below base w0 W) (hbase : base ≤ W.heap.size) (hl : xs.length + y.size ≤ 140737488355328)
    (h : ∀ v1 w1, Ap e w1 base v1 (xs ++ bytesOf y) → Below base w0 w1 → W.heap.size ≤ w1.heap.size → wpList P ops Q rest (a.put o.dst v1) w1) : wpList P ops Q (o :: rest) a W := by
  refine wpList_plain hgd fun K hK' => ?_
  obtain ⟨v1, w1, hrun, r1, row, r2, r3⟩ := ap_run_str (P := P) base t u o.type e ht hu hinfo v xs y HO hbase hl
  unfold Oper.wp
  simp [execOp, ho, resolve, invoke, builtin, hs, hx, hrun, Result.andThen]
  exact hK' _ _ (h v1 w1 r1 (HB.grown r2 hbase r3) r2.size)
end
/-- The bytes of a string, as a slice made of it. -/
theorem bytes_C (W : World) (e : TypeId) (s : ByteArray) (hs : s.size ≤ 9223372036854775807) : Kd.C (Kd.int .u8) (Lib.bytesWorld W e s) (some ⟨W.heap.size, 0, none⟩) s.size (bytesOf s) :=
  Kd.C_of_reads (enc := Value.int .u8) (d := (0 : Int)) (h1 := fun _ => rfl) (bytes_reads W e s hs)
theorem bytesOf_B (s : ByteArray) : Bytes (bytesOf s) := by
  intro x hx
  simp only [bytesOf, List.mem_map] at hx
  obtain ⟨b, _, rfl⟩ := hx
  have := b.toNat_lt
  omega
end Go.Proofs.Ytjebkpcekkkbkaa.B

/-
  edit: bytes.Clone, joined; what the texts of an edit are checked by.
-/
namespace Go.Proofs.Ytjebkpcekkkbkaa.B
open Go.RowKit Go.Shelf Go.Proofs Go.Proofs.YtjebkpcekkkbkaaW.PrintWords Go.Proofs.YtjebkpcekkkbkaaW.PrintLast Go.Proofs.YtjebkpcekkkbkaaW.PrintMore Go.Proofs.Ytjebkpcekkkbkaa.FBase
set_option linter.unusedVariables false
set_option linter.unusedSimpArgs false

theorem texts1_f (l : List Int) (hl : Bytes l) (h1 : l.length ≤ 1048576) : edit_texts.f (l.length + 12) [l] = some (chk l).2 := by
  unfold edit_texts.f
  show edit_texts.l0 (l.length + 11 + 1) [l] 1 0 = _
  rw [edit_texts.l0, if_pos (by decide), if_pos (by decide), if_pos (by simp), show rd_L3 [l] 0 = l from rfl, Check_f l hl h1 (by omega)]
  simp only [Option.bind_some]
  by_cases h : (chk l).2 = 0
  · rw [if_pos h, show wrap64 (0 + 1) = 1 from by unfold wrap64; omega]
    show edit_texts.l0 (l.length + 10 + 1) [l] 1 1 = _
    rw [edit_texts.l0, if_neg (by decide), h]
  · rw [if_neg h]
theorem texts2_f (l t : List Int) (hl : Bytes l) (ht : Bytes t) (h1 : l.length ≤ 1048576) (h2 : t.length ≤ 140737488351232) : edit_texts.f (l.length + t.length + 12) [l, t] = some (if (chk l).2 ≠ 0 then (chk l).2 else (chk t).2) := by
  unfold edit_texts.f
  show edit_texts.l0 (l.length + t.length + 11 + 1) [l, t] 2 0 = _
  rw [edit_texts.l0, if_pos (by decide), if_pos (by decide), if_pos (by simp), show rd_L3 [l, t] 0 = l from rfl, Check_f l hl h1 (by omega)]
  simp only [Option.bind_some]
  by_cases h : (chk l).2 = 0
  · rw [if_pos h, show wrap64 (0 + 1) = 1 from by unfold wrap64; omega, if_neg (by omega)]
    show edit_texts.l0 (l.length + t.length + 10 + 1) [l, t] 2 1 = _
    rw [edit_texts.l0, if_pos (by decide), if_pos (by decide), if_pos (by simp), show rd_L3 [l, t] 1 = t from rfl, Check_F t ht (by omega) (by omega)]
    simp only [Option.bind_some]
    by_cases h' : (chk t).2 = 0
    · rw [if_pos h', show wrap64 (1 + 1) = 2 from by unfold wrap64; omega]
      show edit_texts.l0 (l.length + t.length + 9 + 1) [l, t] 2 2 = _
      rw [edit_texts.l0, if_neg (by decide), h']
    · rw [if_neg h']
  · rw [if_neg h, if_pos h]
/-- A row of slices of bytes. -/
theorem row1_C (W : World) (A : Option Addr) (c : Nat) (l : List Int) (hr : Kd.C (Kd.int .u8) W A l.length l) (hc : l.length ≤ c) (o : TypeId) :
    Kd.C (Kd.slice 5 (Kd.int .u8)) (W.alloc (.cells #[.slice A l.length c] o)) (some ⟨W.heap.size, 0, none⟩) 1 [l] := by
  refine ⟨rfl, by decide, fun _ => ⟨_, rfl, fun j p hj => ?_⟩⟩
  have hj0 : j = 0 := by
    have := (List.getElem?_eq_some_iff.1 hj).1
    simp at this
    omega
  subst hj0
  simp only [List.getElem?_cons_zero, Option.some.injEq] at hj
  subst hj
  refine ⟨[.slice A l.length c], rfl, ⟨A, c, rfl, hc, Kd.C_below hr (below_alloc (Below.refl _ _) _)⟩, fun i u hi => ?_⟩
  have hi0 : i = 0 := by
    have := (List.getElem?_eq_some_iff.1 hi).1
    simp at this
    omega
  subst hi0
  simp only [List.getElem?_cons_zero, Option.some.injEq] at hi
  subst hi
  rw [show (0 : Nat) * (Kd.slice 5 (Kd.int .u8)).sz + 0 = 0 from rfl, add_plain]
  exact (blk_cell (blk_new W _) 0).trans rfl
theorem row2_C (W : World) (A B : Option Addr) (c d : Nat) (l t : List Int) (hr : Kd.C (Kd.int .u8) W A l.length l) (hc : l.length ≤ c) (hr2 : Kd.C (Kd.int .u8) W B t.length t) (hd : t.length ≤ d) (o : TypeId) :
    Kd.C (Kd.slice 5 (Kd.int .u8)) (W.alloc (.cells #[.slice A l.length c, .slice B t.length d] o)) (some ⟨W.heap.size, 0, none⟩) 2 [l, t] := by
  refine ⟨rfl, by decide, fun _ => ⟨_, rfl, fun j p hj => ?_⟩⟩
  have hj0 : j = 0 ∨ j = 1 := by
    have := (List.getElem?_eq_some_iff.1 hj).1
    simp at this
    omega
  rcases hj0 with rfl | rfl
  · simp only [List.getElem?_cons_zero, Option.some.injEq] at hj
    subst hj
    refine ⟨[.slice A l.length c], rfl, ⟨A, c, rfl, hc, Kd.C_below hr (below_alloc (Below.refl _ _) _)⟩, fun i u hi => ?_⟩
    have hi0 : i = 0 := by
      have := (List.getElem?_eq_some_iff.1 hi).1
      simp at this
      omega
    subst hi0
    simp only [List.getElem?_cons_zero, Option.some.injEq] at hi
    subst hi
    rw [show (0 : Nat) * (Kd.slice 5 (Kd.int .u8)).sz + 0 = 0 from rfl, add_plain]
    exact (blk_cell (blk_new W _) 0).trans rfl
  · simp only [List.getElem?_cons_succ, List.getElem?_cons_zero, Option.some.injEq] at hj
    subst hj
    refine ⟨[.slice B t.length d], rfl, ⟨B, d, rfl, hd, Kd.C_below hr2 (below_alloc (Below.refl _ _) _)⟩, fun i u hi => ?_⟩
    have hi0 : i = 0 := by
      have := (List.getElem?_eq_some_iff.1 hi).1
      simp at this
      omega
    subst hi0
    simp only [List.getElem?_cons_zero, Option.some.injEq] at hi
    subst hi
    rw [show (1 : Nat) * (Kd.slice 5 (Kd.int .u8)).sz + 0 = 1 from rfl, add_plain]
    exact (blk_cell (blk_new W _) 1).trans rfl

set_option maxRecDepth 100000 in
set_option maxHeartbeats 1000000 in
/-- bytes.Clone. -/
theorem BClone_ok (A : Option Addr) (c : Nat) (l : List Int) (w : World) (hr : Kd.C (Kd.int .u8) w A l.length l) (hc : l.length ≤ c) (hn : A = none → c = 0) (hs : l.length ≤ 140737488355328) :
    Calls Try.prog 63 #[.slice A l.length c] w fun e w' => ∃ v : Value, e = .returned v ∧ Kd.R (Kd.int .u8) 5 w' w.heap.size (fun _ => True) v l ∧ Below w.heap.size w w' := by
  have HR := Aside0.mk hr
  have HC := Aside0.mk hc
  clear hr
  cases A with
  | none =>
    obtain rfl := hn rfl
    obtain rfl : l = [] := by cases l with | nil => rfl | cons _ _ => simp at hc
    have e0 := fun (w : World) (a : Option Addr) (n c n2 c2 : Nat) => Lib.run_eql_slice_nil (P := Try.prog) w 22 5 a n c n2 c2 Try.underlying22
    go_enter Try.func63, Try.ntmps63
    go_wp2
    go_ret
    exact ⟨_, rfl, Kd.R_nil _ _ _ _ _, Below.refl _ _⟩
  | some ad =>
    clear hc
    have e0 := fun (w : World) (a : Option Addr) (n c n2 c2 : Nat) => Lib.run_eql_slice_nil (P := Try.prog) w 22 5 a n c n2 c2 Try.underlying22
    go_enter Try.func63, Try.ntmps63
    go_wp2_with (first | ((with_reducible refine gate_dst (N := 5) rfl ?_); refine Kd.R_lit (Kd.int .u8) _ 5 ?hg (N := 5) ?hd (xs := ([] : List Int)) (inner := []) (ok := fun _ => True) (okp := fun _ => True) ?hr ?hp (fun _ hk => hk) trivial (Below.refl _ _) (Nat.le_refl _) (by simp) ?_; (case hd => rfl); (case hg => rfl); (case hr => first | (go_simp; done) | (go_simp; rfl)); (case hp => exact (Reps.none _ _)); intro v1 w5 ho hb hg_ hnew_; clear hg_ hnew_; have HO := Aside0.mk ho; have HB := Aside0.mk hb; clear hb ho) | ((with_reducible refine gate_builtin (b := .append) (xs := #[.tmp 5, .tmp 6]) rfl ?_); at_builtin; refine Kd.R_append_rows (Kd.int .u8) (w0 := w) w.heap.size rfl (.tmp 5) (.tmp 6) 22 5 (.int .u8 0) 1 rfl Try.underlying22 info5 rfl (by decide) (by omega) v1 [] l _ _ _ (fun _ => True) (fun _ => False) rfl rfl ?aO ?aR (fun _ _ h => h) (fun _ h => h.elim) ?aF ?aB ?aS ?aL ?_; (case aR => exact Kd.C_below HR.out (by repeat (first | exact HB.out | apply below_alloc | apply pw_below_drewN | apply below_drew1))); (case aB => exact (by repeat (first | exact HB.out | apply below_alloc | apply pw_below_drewN | apply below_drew1))); (case aF => exact (fun _ _ => trivial)); (case aO => exact HO.out); (case aS => exact below_size (by repeat (first | exact HB.out | apply below_alloc | apply pw_below_drewN | apply below_drew1))); (case aL => simp; omega); intro v2 w7 ho hb hg hat; have HB2 := Aside0.mk hb; have HO2 := Aside0.mk ho; clear ho hb hg hat))
    go_ret
    exact ⟨_, rfl, HO2.out, HB2.out⟩
end Go.Proofs.Ytjebkpcekkkbkaa.B

/-
  edit: joined.
-/
namespace Go.Proofs.Ytjebkpcekkkbkaa.B
open Go.RowKit Go.Shelf Go.Proofs Go.Proofs.YtjebkpcekkkbkaaW.PrintWords Go.Proofs.YtjebkpcekkkbkaaW.PrintLast Go.Proofs.YtjebkpcekkkbkaaW.PrintMore Go.Proofs.Ytjebkpcekkkbkaa.FBase
set_option linter.unusedVariables false
set_option linter.unusedSimpArgs false

/-- A slice cut at a place, without room behind it. -/
theorem cut_hm (W : World) (A : Option Addr) (c : Nat) (l : List Int) (x1 : Int) (hC : Kd.C (Kd.int .u8) W A l.length l) (hc : l.length ≤ c) (h0 : 0 ≤ x1) (h2 : x1 ≤ l.length) :
    (∀ W1 : World, (Instr.slice 22 (.slice A l.length c) none (some (.int .i64 x1)) (some (.int .i64 x1))).run Try.prog W1 = .ok (.slice A (l.take x1.toNat).length (l.take x1.toNat).length) W1) ∧
      Kd.C (Kd.int .u8) W A (l.take x1.toNat).length (l.take x1.toNat) := by
  obtain ⟨i0, hi0, _, hsz, _⟩ := info_parts info5
  have hml : (l.take x1.toNat).length = x1.toNat := by rw [List.length_take]; omega
  refine ⟨fun W1 => ?_, Kd.C_take hC (m := x1.toNat) (by omega)⟩
  have hel : Try.prog.elem 22 = 5 := by simp [Program.elem, Try.underlying22]
  have hu : Try.prog.underlying 22 = some (.slice (Try.prog.elem 22)) := by rw [hel]; exact Try.underlying22
  have ha : (A.map fun x => x.add 0) = A := by cases A <;> simp [Addr.add]
  rw [run_slice_hm W1 22 A l.length c hu .i64 .i64 x1 x1 h0 (Int.le_refl _) (by omega), hel, hml]
  simp [sizeOf, typeInfo, hi0, sliced, Result.andThen, ha]
/-- A slice from a place on. -/
theorem cut_suf (W : World) (A : Option Addr) (c : Nat) (l : List Int) (x0 : Int) (hC : Kd.C (Kd.int .u8) W A l.length l) (hc : l.length ≤ c) (h0 : 0 ≤ x0) (h2 : x0 ≤ l.length) :
    ∃ B d, (∀ W1 : World, (Instr.slice 22 (.slice A l.length c) (some (.int .i64 x0)) none none).run Try.prog W1 = .ok (.slice B (l.drop x0.toNat).length d) W1) ∧
      Kd.C (Kd.int .u8) W B (l.drop x0.toNat).length (l.drop x0.toNat) ∧ (l.drop x0.toNat).length ≤ d := by
  obtain ⟨i0, hi0, _, hsz, _⟩ := info_parts info5
  have hcut := cut_from (P := Try.prog) 22 5 .i64 Try.underlying22 hi0 1 hsz A l.length c x0 h0 h2
  have hmid := Kd.C_mid hC (lo := x0.toNat) (hi := l.length) (by omega) (by omega) hc
  have hml : (l.drop x0.toNat).length = l.length - x0.toNat := by rw [List.length_drop]
  rw [List.take_length] at hmid
  refine ⟨_, c - x0.toNat, fun W1 => ?_, by rw [hml]; rw [hml] at hmid; exact hmid, ?_⟩
  · rw [hml]; exact hcut W1
  · rw [hml]; omega

set_option maxRecDepth 100000 in
set_option maxHeartbeats 4000000 in
theorem joined_ok (A : Option Addr) (c : Nat) (l : List Int) (x0 x1 : Int) (s : ByteArray) (w : World) (hr : Kd.C (Kd.int .u8) w A l.length l) (hc : l.length ≤ c) (h0 : 0 ≤ x0) (h1 : x0 ≤ x1) (h2 : x1 ≤ l.length) (hs : l.length + s.size ≤ 140737488355328) :
    Calls Try.prog 86 #[.slice A l.length c, .agg #[.int .i64 x0, .int .i64 x1], .string s] w fun e w' => ∃ v : Value, e = .returned v ∧ Kd.R (Kd.int .u8) 5 w' w.heap.size (fun _ => True) v (l.take x0.toNat ++ bytesOf s ++ l.drop x1.toNat) ∧ Below w.heap.size w w' := by
  have hrb : Kd.C (Kd.int .u8) (w.alloc (.cells #[.int .i64 x0, .int .i64 x1] 44)) A l.length l := Kd.C_below hr (below_alloc (Below.refl _ _) _)
  have c0 : (w.alloc (.cells #[.int .i64 x0, .int .i64 x1] 44)).cell? ⟨w.heap.size, 0, none⟩ = some (.int .i64 x0) := (blk_cell (blk_new w _) 0).trans rfl
  have c1 : (w.alloc (.cells #[.int .i64 x0, .int .i64 x1] 44)).cell? ⟨w.heap.size, 1, none⟩ = some (.int .i64 x1) := (blk_cell (blk_new w _) 1).trans rfl
  obtain ⟨E1, hC1⟩ := cut_hm _ A c l x0 hrb hc h0 (by omega)
  obtain ⟨B, d, E2, hC2, hd2⟩ := cut_suf _ A c l x1 hrb hc (by omega) h2
  have k1 : (l.take x0.toNat).length ≤ l.length := by rw [List.length_take]; omega
  have k2 : (l.take x0.toNat).length + (l.drop x1.toNat).length ≤ l.length := by rw [List.length_take, List.length_drop]; omega
  generalize l.take x0.toNat = hd at *
  generalize l.drop x1.toNat = tl at *
  have HL1 : Aside0 (hd.length + s.size ≤ 140737488355328) := ⟨by omega⟩
  have HL2 : Aside0 ((hd ++ bytesOf s).length + tl.length ≤ 140737488355328) := ⟨by rw [List.length_append, bytesOf_length]; omega⟩
  obtain ⟨out, hout⟩ : ∃ out, hd ++ bytesOf s ++ tl = out := ⟨_, rfl⟩
  have HLO : Aside0 (out.length ≤ 140737488355328) := ⟨by rw [← hout, List.length_append]; exact HL2.out⟩
  rw [hout]
  have HOUT := Aside0.mk hout
  have HC1 := Aside0.mk hC1
  have HC2 := Aside0.mk hC2
  clear hout hC1 hC2 hr hrb k1 k2 hd2
  go_enter Try.func86, Try.ntmps86
  go_wp2_with (first | ((with_reducible refine gate_builtin (b := .append) (xs := #[.tmp 13, .tmp 14]) rfl ?_); at_builtin; refine ap_append_str (w0 := (w.alloc (.cells #[.int .i64 x0, .int .i64 x1] 44))) (w.alloc (.cells #[.int .i64 x0, .int .i64 x1] 44)).heap.size rfl (.tmp 13) (.tmp 14) 22 9 5 rfl Try.underlying22 Try.underlying9 info5 _ hd s rfl rfl ?bO ?bB ?bS ?bL ?_; (case bO => exact Ap.full _ HC1.out); (case bB => exact Below.refl _ _); (case bS => exact Nat.le_refl _); (case bL => exact HL1.out); intro v1 w1 hA hb hsz; have HA1 := Aside0.mk hA; have HB1 := Aside0.mk hb; have c0' : w1.cell? ⟨w.heap.size, 0, none⟩ = some (.int .i64 x0) := cell_below c0 hb; have c1' : w1.cell? ⟨w.heap.size, 1, none⟩ = some (.int .i64 x1) := cell_below c1 hb; clear hA hb hsz) | ((with_reducible refine gate_builtin (b := .append) (xs := #[.tmp 16, .tmp 20]) rfl ?_); at_builtin; refine ap_append (w0 := (w.alloc (.cells #[.int .i64 x0, .int .i64 x1] 44))) (w.alloc (.cells #[.int .i64 x0, .int .i64 x1] 44)).heap.size rfl (.tmp 16) (.tmp 20) 22 5 rfl Try.underlying22 info5 v1 (hd ++ bytesOf s) tl B tl.length d rfl rfl rfl HA1.out ?eR HB1.out HB1.out.size ?eL ?_; (case eR => exact Kd.C_below HC2.out HB1.out); (case eL => exact HL2.out); intro v2 w2 hA hb hsz; rw [HOUT.out] at hA; obtain ⟨A3, c3, rfl, hl3, hn3, hC3⟩ := hA.read; have HB2 := Aside0.mk hb; have HC3 := Aside0.mk hC3; have HL3 := Aside0.mk hl3; have HN3 := Aside0.mk hn3; clear hA hb hsz hl3 hn3 hC3) | (go_at_call 63; refine (BClone_ok A3 c3 out _ HC3.out HL3.out HN3.out HLO.out).mono ?_; rintro e w3 ⟨v3, rfl, hR, hb⟩; have HR3 := Aside0.mk hR; have HB3 := Aside0.mk hb; clear hR hb))
  go_ret
  have hB2 : Below w.heap.size w w2 := below_step (below_alloc (Below.refl _ _) _) HB2.out
  exact ⟨_, rfl, Kd.R_lower HR3.out hB2.size, below_step hB2 HB3.out⟩
end Go.Proofs.Ytjebkpcekkkbkaa.B

/-
  place: Span, Range, of the program and of the document, over what Offset and Pos answer.
-/
namespace Go.Proofs.Ytjebkpcekkkbkaa.B
open Go.RowKit Go.Shelf Go.Proofs Go.Proofs.YtjebkpcekkkbkaaW.PrintWords Go.Proofs.YtjebkpcekkkbkaaW.PrintLast Go.Proofs.YtjebkpcekkkbkaaW.PrintMore Go.Proofs.Ytjebkpcekkkbkaa.FBase
set_option linter.unusedVariables false
set_option linter.unusedSimpArgs false

set_option maxRecDepth 100000 in
set_option maxHeartbeats 1000000 in
theorem MSpan_e1 (p : Option Addr) (x0 x1 x2 x3 va ea : Int) (w : World) (h1 : ∀ W, Below w.heap.size w W → Calls Try.prog 62 #[.pointer p, .agg #[.int .i64 x0, .int .i64 x1]] W fun e W' => e = .returned (.tuple #[.int .i64 va, .int .i64 ea]) ∧ Below W.heap.size W W') (hz : ea ≠ 0) : Calls Try.prog 26 #[.pointer p, .agg #[.int .i64 x0, .int .i64 x1, .int .i64 x2, .int .i64 x3]] w fun e w' => e = .returned (.tuple #[.agg #[.int .i64 0, .int .i64 0], .int .i64 ea]) ∧ Below w.heap.size w w' := by
  have hb1 := below_alloc (Below.refl _ w) (.cells #[.int .i64 x0, .int .i64 x1, .int .i64 x2, .int .i64 x3] 27)
  have hb2 : Below (w.alloc (.cells #[.int .i64 x0, .int .i64 x1, .int .i64 x2, .int .i64 x3] 27)).heap.size (w.alloc (.cells #[.int .i64 x0, .int .i64 x1, .int .i64 x2, .int .i64 x3] 27)) ((w.alloc (.cells #[.int .i64 x0, .int .i64 x1, .int .i64 x2, .int .i64 x3] 27)).alloc (.cells #[.int .i64 0, .int .i64 0] 44)) := below_alloc (Below.refl _ _) _
  have hg : IsBlk ((w.alloc (.cells #[.int .i64 x0, .int .i64 x1, .int .i64 x2, .int .i64 x3] 27)).alloc (.cells #[.int .i64 0, .int .i64 0] 44)) (w.alloc (.cells #[.int .i64 x0, .int .i64 x1, .int .i64 x2, .int .i64 x3] 27)).heap.size (.cells #[.int .i64 0, .int .i64 0] 44) := blk_new _ _
  rw [World.size_alloc] at hg
  have HS : Aside0 (Sta w ((w.alloc (.cells #[.int .i64 x0, .int .i64 x1, .int .i64 x2, .int .i64 x3] 27)).alloc (.cells #[.int .i64 0, .int .i64 0] 44)) (fun W => IsBlk W w.heap.size (.cells #[.int .i64 x0, .int .i64 x1, .int .i64 x2, .int .i64 x3] 27) ∧ IsBlk W (w.heap.size + 1) (.cells #[.int .i64 0, .int .i64 0] 44))) := ⟨⟨below_step hb1 hb2, ⟨IsBlk.below (blk_new w _) hb2, hg⟩, keeps_and (keeps_blk _ _) (keeps_blk _ _)⟩⟩
  clear hb1 hb2 hg
  have n1 := blk_lt HS.out.now.1
  have n2 := blk_lt HS.out.now.2
  have c0 : ((w.alloc (.cells #[.int .i64 x0, .int .i64 x1, .int .i64 x2, .int .i64 x3] 27)).alloc (.cells #[.int .i64 0, .int .i64 0] 44)).cell? ⟨w.heap.size, 0, none⟩ = some (.int .i64 x0) := HS.out.now.1.cell 0
  have c1 : ((w.alloc (.cells #[.int .i64 x0, .int .i64 x1, .int .i64 x2, .int .i64 x3] 27)).alloc (.cells #[.int .i64 0, .int .i64 0] 44)).cell? ⟨w.heap.size, 1, none⟩ = some (.int .i64 x1) := HS.out.now.1.cell 1
  have c2 : ((w.alloc (.cells #[.int .i64 x0, .int .i64 x1, .int .i64 x2, .int .i64 x3] 27)).alloc (.cells #[.int .i64 0, .int .i64 0] 44)).cell? ⟨w.heap.size, 2, none⟩ = some (.int .i64 x2) := HS.out.now.1.cell 2
  have c3 : ((w.alloc (.cells #[.int .i64 x0, .int .i64 x1, .int .i64 x2, .int .i64 x3] 27)).alloc (.cells #[.int .i64 0, .int .i64 0] 44)).cell? ⟨w.heap.size, 3, none⟩ = some (.int .i64 x3) := HS.out.now.1.cell 3
  have k0 : ((w.alloc (.cells #[.int .i64 x0, .int .i64 x1, .int .i64 x2, .int .i64 x3] 27)).alloc (.cells #[.int .i64 0, .int .i64 0] 44)).cell? ⟨w.heap.size + 1, 0, none⟩ = some (.int .i64 0) := HS.out.now.2.cell 0
  have f0 := HS.out.now.2.frozen 0
  have k1 : ((w.alloc (.cells #[.int .i64 x0, .int .i64 x1, .int .i64 x2, .int .i64 x3] 27)).alloc (.cells #[.int .i64 0, .int .i64 0] 44)).cell? ⟨w.heap.size + 1, 1, none⟩ = some (.int .i64 0) := HS.out.now.2.cell 1
  have f1 := HS.out.now.2.frozen 1
  have H1 := Aside0.mk h1
  clear h1
  have hz1 : (ea != 0) = true := bne_iff_ne.mpr hz
  clear hz
  have t1 := True.intro
  have t2 := True.intro
  go_enter Try.func26, Try.ntmps26
  go_wp2_with (have _t := t1; go_at_call 62; refine (H1.out _ (HS.out.step (by repeat (first | exact Below.refl _ _ | apply below_alloc | apply pw_below_drewN | apply below_drew1))).bel).mono ?_; rintro e w1 ⟨rfl, hb⟩; have m_ := Aside0.mk (HS.out.call (by repeat (first | exact Below.refl _ _ | apply below_alloc | apply pw_below_drewN | apply below_drew1)) hb); clear HS hb; have HS := m_; clear m_; have n1 := blk_lt HS.out.now.1; have n2 := blk_lt HS.out.now.2; have c0 : w1.cell? ⟨w.heap.size, 0, none⟩ = some (.int .i64 x0) := HS.out.now.1.cell 0; have c1 : w1.cell? ⟨w.heap.size, 1, none⟩ = some (.int .i64 x1) := HS.out.now.1.cell 1; have c2 : w1.cell? ⟨w.heap.size, 2, none⟩ = some (.int .i64 x2) := HS.out.now.1.cell 2; have c3 : w1.cell? ⟨w.heap.size, 3, none⟩ = some (.int .i64 x3) := HS.out.now.1.cell 3; have k0 : w1.cell? ⟨w.heap.size + 1, 0, none⟩ = some (.int .i64 0) := HS.out.now.2.cell 0; have f0 := HS.out.now.2.frozen 0; have k1 : w1.cell? ⟨w.heap.size + 1, 1, none⟩ = some (.int .i64 0) := HS.out.now.2.cell 1; have f1 := HS.out.now.2.frozen 1; clear t1 _t)
  all_goals try (go_step3; go_wp2)
  first | rw [Exit.noGoto_ret] | skip
  refine bodyPost_ret (v := .tuple #[.agg #[.int .i64 0, .int .i64 0], .int .i64 ea]) (by simp [results, Try.results26, go_sem, *]) rfl ⟨rfl, ?_⟩
  have hS := HS.out.bel
  repeat (first | exact hS | apply below_alloc | apply pw_below_drewN | apply below_drew1 | refine Below.setCell ?_ (by simp) _)
set_option maxRecDepth 100000 in
set_option maxHeartbeats 1000000 in
theorem MSpan_e2 (p : Option Addr) (x0 x1 x2 x3 va vb eb : Int) (w : World) (h1 : ∀ W, Below w.heap.size w W → Calls Try.prog 62 #[.pointer p, .agg #[.int .i64 x0, .int .i64 x1]] W fun e W' => e = .returned (.tuple #[.int .i64 va, .int .i64 0]) ∧ Below W.heap.size W W') (h2 : ∀ W, Below w.heap.size w W → Calls Try.prog 62 #[.pointer p, .agg #[.int .i64 x2, .int .i64 x3]] W fun e W' => e = .returned (.tuple #[.int .i64 vb, .int .i64 eb]) ∧ Below W.heap.size W W') (hz : eb ≠ 0) : Calls Try.prog 26 #[.pointer p, .agg #[.int .i64 x0, .int .i64 x1, .int .i64 x2, .int .i64 x3]] w fun e w' => e = .returned (.tuple #[.agg #[.int .i64 0, .int .i64 0], .int .i64 eb]) ∧ Below w.heap.size w w' := by
  have hb1 := below_alloc (Below.refl _ w) (.cells #[.int .i64 x0, .int .i64 x1, .int .i64 x2, .int .i64 x3] 27)
  have hb2 : Below (w.alloc (.cells #[.int .i64 x0, .int .i64 x1, .int .i64 x2, .int .i64 x3] 27)).heap.size (w.alloc (.cells #[.int .i64 x0, .int .i64 x1, .int .i64 x2, .int .i64 x3] 27)) ((w.alloc (.cells #[.int .i64 x0, .int .i64 x1, .int .i64 x2, .int .i64 x3] 27)).alloc (.cells #[.int .i64 0, .int .i64 0] 44)) := below_alloc (Below.refl _ _) _
  have hg : IsBlk ((w.alloc (.cells #[.int .i64 x0, .int .i64 x1, .int .i64 x2, .int .i64 x3] 27)).alloc (.cells #[.int .i64 0, .int .i64 0] 44)) (w.alloc (.cells #[.int .i64 x0, .int .i64 x1, .int .i64 x2, .int .i64 x3] 27)).heap.size (.cells #[.int .i64 0, .int .i64 0] 44) := blk_new _ _
  rw [World.size_alloc] at hg
  have HS : Aside0 (Sta w ((w.alloc (.cells #[.int .i64 x0, .int .i64 x1, .int .i64 x2, .int .i64 x3] 27)).alloc (.cells #[.int .i64 0, .int .i64 0] 44)) (fun W => IsBlk W w.heap.size (.cells #[.int .i64 x0, .int .i64 x1, .int .i64 x2, .int .i64 x3] 27) ∧ IsBlk W (w.heap.size + 1) (.cells #[.int .i64 0, .int .i64 0] 44))) := ⟨⟨below_step hb1 hb2, ⟨IsBlk.below (blk_new w _) hb2, hg⟩, keeps_and (keeps_blk _ _) (keeps_blk _ _)⟩⟩
  clear hb1 hb2 hg
  have n1 := blk_lt HS.out.now.1
  have n2 := blk_lt HS.out.now.2
  have c0 : ((w.alloc (.cells #[.int .i64 x0, .int .i64 x1, .int .i64 x2, .int .i64 x3] 27)).alloc (.cells #[.int .i64 0, .int .i64 0] 44)).cell? ⟨w.heap.size, 0, none⟩ = some (.int .i64 x0) := HS.out.now.1.cell 0
  have c1 : ((w.alloc (.cells #[.int .i64 x0, .int .i64 x1, .int .i64 x2, .int .i64 x3] 27)).alloc (.cells #[.int .i64 0, .int .i64 0] 44)).cell? ⟨w.heap.size, 1, none⟩ = some (.int .i64 x1) := HS.out.now.1.cell 1
  have c2 : ((w.alloc (.cells #[.int .i64 x0, .int .i64 x1, .int .i64 x2, .int .i64 x3] 27)).alloc (.cells #[.int .i64 0, .int .i64 0] 44)).cell? ⟨w.heap.size, 2, none⟩ = some (.int .i64 x2) := HS.out.now.1.cell 2
  have c3 : ((w.alloc (.cells #[.int .i64 x0, .int .i64 x1, .int .i64 x2, .int .i64 x3] 27)).alloc (.cells #[.int .i64 0, .int .i64 0] 44)).cell? ⟨w.heap.size, 3, none⟩ = some (.int .i64 x3) := HS.out.now.1.cell 3
  have k0 : ((w.alloc (.cells #[.int .i64 x0, .int .i64 x1, .int .i64 x2, .int .i64 x3] 27)).alloc (.cells #[.int .i64 0, .int .i64 0] 44)).cell? ⟨w.heap.size + 1, 0, none⟩ = some (.int .i64 0) := HS.out.now.2.cell 0
  have f0 := HS.out.now.2.frozen 0
  have k1 : ((w.alloc (.cells #[.int .i64 x0, .int .i64 x1, .int .i64 x2, .int .i64 x3] 27)).alloc (.cells #[.int .i64 0, .int .i64 0] 44)).cell? ⟨w.heap.size + 1, 1, none⟩ = some (.int .i64 0) := HS.out.now.2.cell 1
  have f1 := HS.out.now.2.frozen 1
  have H1 := Aside0.mk h1
  clear h1
  have H2 := Aside0.mk h2
  clear h2
  have hz1 : (eb != 0) = true := bne_iff_ne.mpr hz
  clear hz
  have t1 := True.intro
  have t2 := True.intro
  go_enter Try.func26, Try.ntmps26
  go_wp2_with (first | (have _t := t1; go_at_call 62; refine (H1.out _ (HS.out.step (by repeat (first | exact Below.refl _ _ | apply below_alloc | apply pw_below_drewN | apply below_drew1))).bel).mono ?_; rintro e w1 ⟨rfl, hb⟩; have m_ := Aside0.mk (HS.out.call (by repeat (first | exact Below.refl _ _ | apply below_alloc | apply pw_below_drewN | apply below_drew1)) hb); clear HS hb; have HS := m_; clear m_; have n1 := blk_lt HS.out.now.1; have n2 := blk_lt HS.out.now.2; have c0 : w1.cell? ⟨w.heap.size, 0, none⟩ = some (.int .i64 x0) := HS.out.now.1.cell 0; have c1 : w1.cell? ⟨w.heap.size, 1, none⟩ = some (.int .i64 x1) := HS.out.now.1.cell 1; have c2 : w1.cell? ⟨w.heap.size, 2, none⟩ = some (.int .i64 x2) := HS.out.now.1.cell 2; have c3 : w1.cell? ⟨w.heap.size, 3, none⟩ = some (.int .i64 x3) := HS.out.now.1.cell 3; have k0 : w1.cell? ⟨w.heap.size + 1, 0, none⟩ = some (.int .i64 0) := HS.out.now.2.cell 0; have f0 := HS.out.now.2.frozen 0; have k1 : w1.cell? ⟨w.heap.size + 1, 1, none⟩ = some (.int .i64 0) := HS.out.now.2.cell 1; have f1 := HS.out.now.2.frozen 1; clear t1 _t) | (have _t := t2; go_at_call 62; refine (H2.out _ (HS.out.step (by repeat (first | exact Below.refl _ _ | apply below_alloc | apply pw_below_drewN | apply below_drew1))).bel).mono ?_; rintro e w2 ⟨rfl, hb⟩; have m_ := Aside0.mk (HS.out.call (by repeat (first | exact Below.refl _ _ | apply below_alloc | apply pw_below_drewN | apply below_drew1)) hb); clear HS hb; have HS := m_; clear m_; have n1 := blk_lt HS.out.now.1; have n2 := blk_lt HS.out.now.2; have c0 : w2.cell? ⟨w.heap.size, 0, none⟩ = some (.int .i64 x0) := HS.out.now.1.cell 0; have c1 : w2.cell? ⟨w.heap.size, 1, none⟩ = some (.int .i64 x1) := HS.out.now.1.cell 1; have c2 : w2.cell? ⟨w.heap.size, 2, none⟩ = some (.int .i64 x2) := HS.out.now.1.cell 2; have c3 : w2.cell? ⟨w.heap.size, 3, none⟩ = some (.int .i64 x3) := HS.out.now.1.cell 3; have k0 : w2.cell? ⟨w.heap.size + 1, 0, none⟩ = some (.int .i64 0) := HS.out.now.2.cell 0; have f0 := HS.out.now.2.frozen 0; have k1 : w2.cell? ⟨w.heap.size + 1, 1, none⟩ = some (.int .i64 0) := HS.out.now.2.cell 1; have f1 := HS.out.now.2.frozen 1; clear t2 _t))
  all_goals try (go_step3; go_wp2)
  first | rw [Exit.noGoto_ret] | skip
  refine bodyPost_ret (v := .tuple #[.agg #[.int .i64 0, .int .i64 0], .int .i64 eb]) (by simp [results, Try.results26, go_sem, *]) rfl ⟨rfl, ?_⟩
  have hS := HS.out.bel
  repeat (first | exact hS | apply below_alloc | apply pw_below_drewN | apply below_drew1 | refine Below.setCell ?_ (by simp) _)
set_option maxRecDepth 100000 in
set_option maxHeartbeats 1000000 in
theorem MSpan_rev (p : Option Addr) (x0 x1 x2 x3 va vb : Int) (w : World) (h1 : ∀ W, Below w.heap.size w W → Calls Try.prog 62 #[.pointer p, .agg #[.int .i64 x0, .int .i64 x1]] W fun e W' => e = .returned (.tuple #[.int .i64 va, .int .i64 0]) ∧ Below W.heap.size W W') (h2 : ∀ W, Below w.heap.size w W → Calls Try.prog 62 #[.pointer p, .agg #[.int .i64 x2, .int .i64 x3]] W fun e W' => e = .returned (.tuple #[.int .i64 vb, .int .i64 0]) ∧ Below W.heap.size W W') (hlt : vb < va) : Calls Try.prog 26 #[.pointer p, .agg #[.int .i64 x0, .int .i64 x1, .int .i64 x2, .int .i64 x3]] w fun e w' => e = .returned (.tuple #[.agg #[.int .i64 0, .int .i64 0], .int .i64 2]) ∧ Below w.heap.size w w' := by
  have hb1 := below_alloc (Below.refl _ w) (.cells #[.int .i64 x0, .int .i64 x1, .int .i64 x2, .int .i64 x3] 27)
  have hb2 : Below (w.alloc (.cells #[.int .i64 x0, .int .i64 x1, .int .i64 x2, .int .i64 x3] 27)).heap.size (w.alloc (.cells #[.int .i64 x0, .int .i64 x1, .int .i64 x2, .int .i64 x3] 27)) ((w.alloc (.cells #[.int .i64 x0, .int .i64 x1, .int .i64 x2, .int .i64 x3] 27)).alloc (.cells #[.int .i64 0, .int .i64 0] 44)) := below_alloc (Below.refl _ _) _
  have hg : IsBlk ((w.alloc (.cells #[.int .i64 x0, .int .i64 x1, .int .i64 x2, .int .i64 x3] 27)).alloc (.cells #[.int .i64 0, .int .i64 0] 44)) (w.alloc (.cells #[.int .i64 x0, .int .i64 x1, .int .i64 x2, .int .i64 x3] 27)).heap.size (.cells #[.int .i64 0, .int .i64 0] 44) := blk_new _ _
  rw [World.size_alloc] at hg
  have HS : Aside0 (Sta w ((w.alloc (.cells #[.int .i64 x0, .int .i64 x1, .int .i64 x2, .int .i64 x3] 27)).alloc (.cells #[.int .i64 0, .int .i64 0] 44)) (fun W => IsBlk W w.heap.size (.cells #[.int .i64 x0, .int .i64 x1, .int .i64 x2, .int .i64 x3] 27) ∧ IsBlk W (w.heap.size + 1) (.cells #[.int .i64 0, .int .i64 0] 44))) := ⟨⟨below_step hb1 hb2, ⟨IsBlk.below (blk_new w _) hb2, hg⟩, keeps_and (keeps_blk _ _) (keeps_blk _ _)⟩⟩
  clear hb1 hb2 hg
  have n1 := blk_lt HS.out.now.1
  have n2 := blk_lt HS.out.now.2
  have c0 : ((w.alloc (.cells #[.int .i64 x0, .int .i64 x1, .int .i64 x2, .int .i64 x3] 27)).alloc (.cells #[.int .i64 0, .int .i64 0] 44)).cell? ⟨w.heap.size, 0, none⟩ = some (.int .i64 x0) := HS.out.now.1.cell 0
  have c1 : ((w.alloc (.cells #[.int .i64 x0, .int .i64 x1, .int .i64 x2, .int .i64 x3] 27)).alloc (.cells #[.int .i64 0, .int .i64 0] 44)).cell? ⟨w.heap.size, 1, none⟩ = some (.int .i64 x1) := HS.out.now.1.cell 1
  have c2 : ((w.alloc (.cells #[.int .i64 x0, .int .i64 x1, .int .i64 x2, .int .i64 x3] 27)).alloc (.cells #[.int .i64 0, .int .i64 0] 44)).cell? ⟨w.heap.size, 2, none⟩ = some (.int .i64 x2) := HS.out.now.1.cell 2
  have c3 : ((w.alloc (.cells #[.int .i64 x0, .int .i64 x1, .int .i64 x2, .int .i64 x3] 27)).alloc (.cells #[.int .i64 0, .int .i64 0] 44)).cell? ⟨w.heap.size, 3, none⟩ = some (.int .i64 x3) := HS.out.now.1.cell 3
  have k0 : ((w.alloc (.cells #[.int .i64 x0, .int .i64 x1, .int .i64 x2, .int .i64 x3] 27)).alloc (.cells #[.int .i64 0, .int .i64 0] 44)).cell? ⟨w.heap.size + 1, 0, none⟩ = some (.int .i64 0) := HS.out.now.2.cell 0
  have f0 := HS.out.now.2.frozen 0
  have k1 : ((w.alloc (.cells #[.int .i64 x0, .int .i64 x1, .int .i64 x2, .int .i64 x3] 27)).alloc (.cells #[.int .i64 0, .int .i64 0] 44)).cell? ⟨w.heap.size + 1, 1, none⟩ = some (.int .i64 0) := HS.out.now.2.cell 1
  have f1 := HS.out.now.2.frozen 1
  have H1 := Aside0.mk h1
  clear h1
  have H2 := Aside0.mk h2
  clear h2
  have t1 := True.intro
  have t2 := True.intro
  go_enter Try.func26, Try.ntmps26
  go_wp2_with (first | (have _t := t1; go_at_call 62; refine (H1.out _ (HS.out.step (by repeat (first | exact Below.refl _ _ | apply below_alloc | apply pw_below_drewN | apply below_drew1))).bel).mono ?_; rintro e w1 ⟨rfl, hb⟩; have m_ := Aside0.mk (HS.out.call (by repeat (first | exact Below.refl _ _ | apply below_alloc | apply pw_below_drewN | apply below_drew1)) hb); clear HS hb; have HS := m_; clear m_; have n1 := blk_lt HS.out.now.1; have n2 := blk_lt HS.out.now.2; have c0 : w1.cell? ⟨w.heap.size, 0, none⟩ = some (.int .i64 x0) := HS.out.now.1.cell 0; have c1 : w1.cell? ⟨w.heap.size, 1, none⟩ = some (.int .i64 x1) := HS.out.now.1.cell 1; have c2 : w1.cell? ⟨w.heap.size, 2, none⟩ = some (.int .i64 x2) := HS.out.now.1.cell 2; have c3 : w1.cell? ⟨w.heap.size, 3, none⟩ = some (.int .i64 x3) := HS.out.now.1.cell 3; have k0 : w1.cell? ⟨w.heap.size + 1, 0, none⟩ = some (.int .i64 0) := HS.out.now.2.cell 0; have f0 := HS.out.now.2.frozen 0; have k1 : w1.cell? ⟨w.heap.size + 1, 1, none⟩ = some (.int .i64 0) := HS.out.now.2.cell 1; have f1 := HS.out.now.2.frozen 1; clear t1 _t) | (have _t := t2; go_at_call 62; refine (H2.out _ (HS.out.step (by repeat (first | exact Below.refl _ _ | apply below_alloc | apply pw_below_drewN | apply below_drew1))).bel).mono ?_; rintro e w2 ⟨rfl, hb⟩; have m_ := Aside0.mk (HS.out.call (by repeat (first | exact Below.refl _ _ | apply below_alloc | apply pw_below_drewN | apply below_drew1)) hb); clear HS hb; have HS := m_; clear m_; have n1 := blk_lt HS.out.now.1; have n2 := blk_lt HS.out.now.2; have c0 : w2.cell? ⟨w.heap.size, 0, none⟩ = some (.int .i64 x0) := HS.out.now.1.cell 0; have c1 : w2.cell? ⟨w.heap.size, 1, none⟩ = some (.int .i64 x1) := HS.out.now.1.cell 1; have c2 : w2.cell? ⟨w.heap.size, 2, none⟩ = some (.int .i64 x2) := HS.out.now.1.cell 2; have c3 : w2.cell? ⟨w.heap.size, 3, none⟩ = some (.int .i64 x3) := HS.out.now.1.cell 3; have k0 : w2.cell? ⟨w.heap.size + 1, 0, none⟩ = some (.int .i64 0) := HS.out.now.2.cell 0; have f0 := HS.out.now.2.frozen 0; have k1 : w2.cell? ⟨w.heap.size + 1, 1, none⟩ = some (.int .i64 0) := HS.out.now.2.cell 1; have f1 := HS.out.now.2.frozen 1; clear t2 _t))
  all_goals try (go_step3; go_wp2)
  first | rw [Exit.noGoto_ret] | skip
  refine bodyPost_ret (v := .tuple #[.agg #[.int .i64 0, .int .i64 0], .int .i64 2]) (by simp [results, Try.results26, go_sem, *]) rfl ⟨rfl, ?_⟩
  have hS := HS.out.bel
  repeat (first | exact hS | apply below_alloc | apply pw_below_drewN | apply below_drew1 | refine Below.setCell ?_ (by simp) _)
set_option maxRecDepth 100000 in
set_option maxHeartbeats 1000000 in
theorem MSpan_ok (p : Option Addr) (x0 x1 x2 x3 va vb : Int) (w : World) (h1 : ∀ W, Below w.heap.size w W → Calls Try.prog 62 #[.pointer p, .agg #[.int .i64 x0, .int .i64 x1]] W fun e W' => e = .returned (.tuple #[.int .i64 va, .int .i64 0]) ∧ Below W.heap.size W W') (h2 : ∀ W, Below w.heap.size w W → Calls Try.prog 62 #[.pointer p, .agg #[.int .i64 x2, .int .i64 x3]] W fun e W' => e = .returned (.tuple #[.int .i64 vb, .int .i64 0]) ∧ Below W.heap.size W W') (hlt : va ≤ vb) : Calls Try.prog 26 #[.pointer p, .agg #[.int .i64 x0, .int .i64 x1, .int .i64 x2, .int .i64 x3]] w fun e w' => e = .returned (.tuple #[.agg #[.int .i64 va, .int .i64 vb], .int .i64 0]) ∧ Below w.heap.size w w' := by
  have hb1 := below_alloc (Below.refl _ w) (.cells #[.int .i64 x0, .int .i64 x1, .int .i64 x2, .int .i64 x3] 27)
  have hb2 : Below (w.alloc (.cells #[.int .i64 x0, .int .i64 x1, .int .i64 x2, .int .i64 x3] 27)).heap.size (w.alloc (.cells #[.int .i64 x0, .int .i64 x1, .int .i64 x2, .int .i64 x3] 27)) ((w.alloc (.cells #[.int .i64 x0, .int .i64 x1, .int .i64 x2, .int .i64 x3] 27)).alloc (.cells #[.int .i64 0, .int .i64 0] 44)) := below_alloc (Below.refl _ _) _
  have hg : IsBlk ((w.alloc (.cells #[.int .i64 x0, .int .i64 x1, .int .i64 x2, .int .i64 x3] 27)).alloc (.cells #[.int .i64 0, .int .i64 0] 44)) (w.alloc (.cells #[.int .i64 x0, .int .i64 x1, .int .i64 x2, .int .i64 x3] 27)).heap.size (.cells #[.int .i64 0, .int .i64 0] 44) := blk_new _ _
  rw [World.size_alloc] at hg
  have HS : Aside0 (Sta w ((w.alloc (.cells #[.int .i64 x0, .int .i64 x1, .int .i64 x2, .int .i64 x3] 27)).alloc (.cells #[.int .i64 0, .int .i64 0] 44)) (fun W => IsBlk W w.heap.size (.cells #[.int .i64 x0, .int .i64 x1, .int .i64 x2, .int .i64 x3] 27) ∧ IsBlk W (w.heap.size + 1) (.cells #[.int .i64 0, .int .i64 0] 44))) := ⟨⟨below_step hb1 hb2, ⟨IsBlk.below (blk_new w _) hb2, hg⟩, keeps_and (keeps_blk _ _) (keeps_blk _ _)⟩⟩
  clear hb1 hb2 hg
  have n1 := blk_lt HS.out.now.1
  have n2 := blk_lt HS.out.now.2
  have c0 : ((w.alloc (.cells #[.int .i64 x0, .int .i64 x1, .int .i64 x2, .int .i64 x3] 27)).alloc (.cells #[.int .i64 0, .int .i64 0] 44)).cell? ⟨w.heap.size, 0, none⟩ = some (.int .i64 x0) := HS.out.now.1.cell 0
  have c1 : ((w.alloc (.cells #[.int .i64 x0, .int .i64 x1, .int .i64 x2, .int .i64 x3] 27)).alloc (.cells #[.int .i64 0, .int .i64 0] 44)).cell? ⟨w.heap.size, 1, none⟩ = some (.int .i64 x1) := HS.out.now.1.cell 1
  have c2 : ((w.alloc (.cells #[.int .i64 x0, .int .i64 x1, .int .i64 x2, .int .i64 x3] 27)).alloc (.cells #[.int .i64 0, .int .i64 0] 44)).cell? ⟨w.heap.size, 2, none⟩ = some (.int .i64 x2) := HS.out.now.1.cell 2
  have c3 : ((w.alloc (.cells #[.int .i64 x0, .int .i64 x1, .int .i64 x2, .int .i64 x3] 27)).alloc (.cells #[.int .i64 0, .int .i64 0] 44)).cell? ⟨w.heap.size, 3, none⟩ = some (.int .i64 x3) := HS.out.now.1.cell 3
  have k0 : ((w.alloc (.cells #[.int .i64 x0, .int .i64 x1, .int .i64 x2, .int .i64 x3] 27)).alloc (.cells #[.int .i64 0, .int .i64 0] 44)).cell? ⟨w.heap.size + 1, 0, none⟩ = some (.int .i64 0) := HS.out.now.2.cell 0
  have f0 := HS.out.now.2.frozen 0
  have k1 : ((w.alloc (.cells #[.int .i64 x0, .int .i64 x1, .int .i64 x2, .int .i64 x3] 27)).alloc (.cells #[.int .i64 0, .int .i64 0] 44)).cell? ⟨w.heap.size + 1, 1, none⟩ = some (.int .i64 0) := HS.out.now.2.cell 1
  have f1 := HS.out.now.2.frozen 1
  have H1 := Aside0.mk h1
  clear h1
  have H2 := Aside0.mk h2
  clear h2
  have t1 := True.intro
  have t2 := True.intro
  go_enter Try.func26, Try.ntmps26
  go_wp2_with (first | (have _t := t1; go_at_call 62; refine (H1.out _ (HS.out.step (by repeat (first | exact Below.refl _ _ | apply below_alloc | apply pw_below_drewN | apply below_drew1))).bel).mono ?_; rintro e w1 ⟨rfl, hb⟩; have m_ := Aside0.mk (HS.out.call (by repeat (first | exact Below.refl _ _ | apply below_alloc | apply pw_below_drewN | apply below_drew1)) hb); clear HS hb; have HS := m_; clear m_; have n1 := blk_lt HS.out.now.1; have n2 := blk_lt HS.out.now.2; have c0 : w1.cell? ⟨w.heap.size, 0, none⟩ = some (.int .i64 x0) := HS.out.now.1.cell 0; have c1 : w1.cell? ⟨w.heap.size, 1, none⟩ = some (.int .i64 x1) := HS.out.now.1.cell 1; have c2 : w1.cell? ⟨w.heap.size, 2, none⟩ = some (.int .i64 x2) := HS.out.now.1.cell 2; have c3 : w1.cell? ⟨w.heap.size, 3, none⟩ = some (.int .i64 x3) := HS.out.now.1.cell 3; have k0 : w1.cell? ⟨w.heap.size + 1, 0, none⟩ = some (.int .i64 0) := HS.out.now.2.cell 0; have f0 := HS.out.now.2.frozen 0; have k1 : w1.cell? ⟨w.heap.size + 1, 1, none⟩ = some (.int .i64 0) := HS.out.now.2.cell 1; have f1 := HS.out.now.2.frozen 1; clear t1 _t) | (have _t := t2; go_at_call 62; refine (H2.out _ (HS.out.step (by repeat (first | exact Below.refl _ _ | apply below_alloc | apply pw_below_drewN | apply below_drew1))).bel).mono ?_; rintro e w2 ⟨rfl, hb⟩; have m_ := Aside0.mk (HS.out.call (by repeat (first | exact Below.refl _ _ | apply below_alloc | apply pw_below_drewN | apply below_drew1)) hb); clear HS hb; have HS := m_; clear m_; have n1 := blk_lt HS.out.now.1; have n2 := blk_lt HS.out.now.2; have c0 : w2.cell? ⟨w.heap.size, 0, none⟩ = some (.int .i64 x0) := HS.out.now.1.cell 0; have c1 : w2.cell? ⟨w.heap.size, 1, none⟩ = some (.int .i64 x1) := HS.out.now.1.cell 1; have c2 : w2.cell? ⟨w.heap.size, 2, none⟩ = some (.int .i64 x2) := HS.out.now.1.cell 2; have c3 : w2.cell? ⟨w.heap.size, 3, none⟩ = some (.int .i64 x3) := HS.out.now.1.cell 3; have k0 : w2.cell? ⟨w.heap.size + 1, 0, none⟩ = some (.int .i64 0) := HS.out.now.2.cell 0; have f0 := HS.out.now.2.frozen 0; have k1 : w2.cell? ⟨w.heap.size + 1, 1, none⟩ = some (.int .i64 0) := HS.out.now.2.cell 1; have f1 := HS.out.now.2.frozen 1; clear t2 _t))
  all_goals try (go_step3; go_wp2)
  first | rw [Exit.noGoto_ret] | skip
  refine bodyPost_ret (v := .tuple #[.agg #[.int .i64 va, .int .i64 vb], .int .i64 0]) (by simp [results, Try.results26, go_sem, *]) rfl ⟨rfl, ?_⟩
  have hS := HS.out.bel
  repeat (first | exact hS | apply below_alloc | apply pw_below_drewN | apply below_drew1 | refine Below.setCell ?_ (by simp) _)

set_option maxRecDepth 100000 in
set_option maxHeartbeats 1000000 in
theorem MRange_ok (p : Option Addr) (x0 x1 a ca b cb : Int) (w : World) (h1 : ∀ W, Below w.heap.size w W → Calls Try.prog 80 #[.pointer p, .int .i64 x0] W fun e W' => e = .returned (.tuple #[.agg #[.int .i64 a, .int .i64 ca], .int .i64 0]) ∧ Below W.heap.size W W') (h2 : ∀ W, Below w.heap.size w W → Calls Try.prog 80 #[.pointer p, .int .i64 x1] W fun e W' => e = .returned (.tuple #[.agg #[.int .i64 b, .int .i64 cb], .int .i64 0]) ∧ Below W.heap.size W W') (hlt : x0 ≤ x1) : Calls Try.prog 53 #[.pointer p, .agg #[.int .i64 x0, .int .i64 x1]] w fun e w' => e = .returned (.tuple #[.agg #[.int .i64 a, .int .i64 ca, .int .i64 b, .int .i64 cb], .int .i64 0]) ∧ Below w.heap.size w w' := by
  have hb1 := below_alloc (Below.refl _ w) (.cells #[.int .i64 x0, .int .i64 x1] 44)
  have hb2 : Below (w.alloc (.cells #[.int .i64 x0, .int .i64 x1] 44)).heap.size (w.alloc (.cells #[.int .i64 x0, .int .i64 x1] 44)) ((w.alloc (.cells #[.int .i64 x0, .int .i64 x1] 44)).alloc (.cells #[.int .i64 0, .int .i64 0, .int .i64 0, .int .i64 0] 27)) := below_alloc (Below.refl _ _) _
  have hg : IsBlk ((w.alloc (.cells #[.int .i64 x0, .int .i64 x1] 44)).alloc (.cells #[.int .i64 0, .int .i64 0, .int .i64 0, .int .i64 0] 27)) (w.alloc (.cells #[.int .i64 x0, .int .i64 x1] 44)).heap.size (.cells #[.int .i64 0, .int .i64 0, .int .i64 0, .int .i64 0] 27) := blk_new _ _
  rw [World.size_alloc] at hg
  have HS : Aside0 (Sta w ((w.alloc (.cells #[.int .i64 x0, .int .i64 x1] 44)).alloc (.cells #[.int .i64 0, .int .i64 0, .int .i64 0, .int .i64 0] 27)) (fun W => IsBlk W w.heap.size (.cells #[.int .i64 x0, .int .i64 x1] 44) ∧ IsBlk W (w.heap.size + 1) (.cells #[.int .i64 0, .int .i64 0, .int .i64 0, .int .i64 0] 27))) := ⟨⟨below_step hb1 hb2, ⟨IsBlk.below (blk_new w _) hb2, hg⟩, keeps_and (keeps_blk _ _) (keeps_blk _ _)⟩⟩
  clear hb1 hb2 hg
  have n1 := blk_lt HS.out.now.1
  have n2 := blk_lt HS.out.now.2
  have c0 : ((w.alloc (.cells #[.int .i64 x0, .int .i64 x1] 44)).alloc (.cells #[.int .i64 0, .int .i64 0, .int .i64 0, .int .i64 0] 27)).cell? ⟨w.heap.size, 0, none⟩ = some (.int .i64 x0) := HS.out.now.1.cell 0
  have c1 : ((w.alloc (.cells #[.int .i64 x0, .int .i64 x1] 44)).alloc (.cells #[.int .i64 0, .int .i64 0, .int .i64 0, .int .i64 0] 27)).cell? ⟨w.heap.size, 1, none⟩ = some (.int .i64 x1) := HS.out.now.1.cell 1
  have k0 : ((w.alloc (.cells #[.int .i64 x0, .int .i64 x1] 44)).alloc (.cells #[.int .i64 0, .int .i64 0, .int .i64 0, .int .i64 0] 27)).cell? ⟨w.heap.size + 1, 0, none⟩ = some (.int .i64 0) := HS.out.now.2.cell 0
  have f0 := HS.out.now.2.frozen 0
  have k1 : ((w.alloc (.cells #[.int .i64 x0, .int .i64 x1] 44)).alloc (.cells #[.int .i64 0, .int .i64 0, .int .i64 0, .int .i64 0] 27)).cell? ⟨w.heap.size + 1, 1, none⟩ = some (.int .i64 0) := HS.out.now.2.cell 1
  have f1 := HS.out.now.2.frozen 1
  have k2 : ((w.alloc (.cells #[.int .i64 x0, .int .i64 x1] 44)).alloc (.cells #[.int .i64 0, .int .i64 0, .int .i64 0, .int .i64 0] 27)).cell? ⟨w.heap.size + 1, 2, none⟩ = some (.int .i64 0) := HS.out.now.2.cell 2
  have f2 := HS.out.now.2.frozen 2
  have k3 : ((w.alloc (.cells #[.int .i64 x0, .int .i64 x1] 44)).alloc (.cells #[.int .i64 0, .int .i64 0, .int .i64 0, .int .i64 0] 27)).cell? ⟨w.heap.size + 1, 3, none⟩ = some (.int .i64 0) := HS.out.now.2.cell 3
  have f3 := HS.out.now.2.frozen 3
  have H1 := Aside0.mk h1
  clear h1
  have H2 := Aside0.mk h2
  clear h2
  have t1 := True.intro
  have t2 := True.intro
  go_enter Try.func53, Try.ntmps53
  go_wp2_with (first | (have _t := t1; go_at_call 80; refine (H1.out _ (HS.out.step (by repeat (first | exact Below.refl _ _ | apply below_alloc | apply pw_below_drewN | apply below_drew1))).bel).mono ?_; rintro e w1 ⟨rfl, hb⟩; have m_ := Aside0.mk (HS.out.call (by repeat (first | exact Below.refl _ _ | apply below_alloc | apply pw_below_drewN | apply below_drew1)) hb); clear HS hb; have HS := m_; clear m_; have n1 := blk_lt HS.out.now.1; have n2 := blk_lt HS.out.now.2; have c0 : w1.cell? ⟨w.heap.size, 0, none⟩ = some (.int .i64 x0) := HS.out.now.1.cell 0; have c1 : w1.cell? ⟨w.heap.size, 1, none⟩ = some (.int .i64 x1) := HS.out.now.1.cell 1; have k0 : w1.cell? ⟨w.heap.size + 1, 0, none⟩ = some (.int .i64 0) := HS.out.now.2.cell 0; have f0 := HS.out.now.2.frozen 0; have k1 : w1.cell? ⟨w.heap.size + 1, 1, none⟩ = some (.int .i64 0) := HS.out.now.2.cell 1; have f1 := HS.out.now.2.frozen 1; have k2 : w1.cell? ⟨w.heap.size + 1, 2, none⟩ = some (.int .i64 0) := HS.out.now.2.cell 2; have f2 := HS.out.now.2.frozen 2; have k3 : w1.cell? ⟨w.heap.size + 1, 3, none⟩ = some (.int .i64 0) := HS.out.now.2.cell 3; have f3 := HS.out.now.2.frozen 3; have c0a := cell_alloc1 c0; have c1a := cell_alloc1 c1; have k0a := cell_alloc1 k0; have f0a := froz_alloc1 k0 f0; have k1a := cell_alloc1 k1; have f1a := froz_alloc1 k1 f1; have k2a := cell_alloc1 k2; have f2a := froz_alloc1 k2 f2; have k3a := cell_alloc1 k3; have f3a := froz_alloc1 k3 f3; clear t1 _t) | (have _t := t2; go_at_call 80; refine (H2.out _ (HS.out.step (by repeat (first | exact Below.refl _ _ | apply below_alloc | apply pw_below_drewN | apply below_drew1))).bel).mono ?_; rintro e w2 ⟨rfl, hb⟩; have hp0 := cell_below ((blk_cell (blk_new w1 (.cells #[.int .i64 a, .int .i64 ca] 25)) 0).trans rfl) hb; have hp1 := cell_below ((blk_cell (blk_new w1 (.cells #[.int .i64 a, .int .i64 ca] 25)) 1).trans rfl) hb; have hp0a := cell_alloc1 hp0; have hp1a := cell_alloc1 hp1; have m_ := Aside0.mk (HS.out.call (by repeat (first | exact Below.refl _ _ | apply below_alloc | apply pw_below_drewN | apply below_drew1)) hb); clear HS hb; have HS := m_; clear m_; have n1 := blk_lt HS.out.now.1; have n2 := blk_lt HS.out.now.2; have c0 : w2.cell? ⟨w.heap.size, 0, none⟩ = some (.int .i64 x0) := HS.out.now.1.cell 0; have c1 : w2.cell? ⟨w.heap.size, 1, none⟩ = some (.int .i64 x1) := HS.out.now.1.cell 1; have k0 : w2.cell? ⟨w.heap.size + 1, 0, none⟩ = some (.int .i64 0) := HS.out.now.2.cell 0; have f0 := HS.out.now.2.frozen 0; have k1 : w2.cell? ⟨w.heap.size + 1, 1, none⟩ = some (.int .i64 0) := HS.out.now.2.cell 1; have f1 := HS.out.now.2.frozen 1; have k2 : w2.cell? ⟨w.heap.size + 1, 2, none⟩ = some (.int .i64 0) := HS.out.now.2.cell 2; have f2 := HS.out.now.2.frozen 2; have k3 : w2.cell? ⟨w.heap.size + 1, 3, none⟩ = some (.int .i64 0) := HS.out.now.2.cell 3; have f3 := HS.out.now.2.frozen 3; have c0a := cell_alloc1 c0; have c1a := cell_alloc1 c1; have k0a := cell_alloc1 k0; have f0a := froz_alloc1 k0 f0; have k1a := cell_alloc1 k1; have f1a := froz_alloc1 k1 f1; have k2a := cell_alloc1 k2; have f2a := froz_alloc1 k2 f2; have k3a := cell_alloc1 k3; have f3a := froz_alloc1 k3 f3; clear t2 _t))
  all_goals try (go_step3; go_wp2)
  first | rw [Exit.noGoto_ret] | skip
  refine bodyPost_ret (v := .tuple #[.agg #[.int .i64 a, .int .i64 ca, .int .i64 b, .int .i64 cb], .int .i64 0]) (by simp [results, Try.results53, go_sem, *]) rfl ⟨rfl, ?_⟩
  have hS := HS.out.bel
  repeat (first | exact hS | apply below_alloc | apply pw_below_drewN | apply below_drew1 | refine Below.setCell ?_ (by simp) _)

end Go.Proofs.Ytjebkpcekkkbkaa.B

/-
  place: Span, Range, of the program and of the document, over what Offset and Pos answer.
-/
namespace Go.Proofs.Ytjebkpcekkkbkaa.B
open Go.RowKit Go.Shelf Go.Proofs Go.Proofs.YtjebkpcekkkbkaaW.PrintWords Go.Proofs.YtjebkpcekkkbkaaW.PrintLast Go.Proofs.YtjebkpcekkkbkaaW.PrintMore Go.Proofs.Ytjebkpcekkkbkaa.FBase
set_option linter.unusedVariables false
set_option linter.unusedSimpArgs false

end Go.Proofs.Ytjebkpcekkkbkaa.B

/-
  The document's map of places: New; Offset of what is no place, of a place behind the last line.
-/
namespace Go.Proofs.Ytjebkpcekkkbkaa.B
open Go.RowKit Go.Shelf Go.Proofs Go.Proofs.YtjebkpcekkkbkaaW.PrintWords Go.Proofs.YtjebkpcekkkbkaaW.PrintLast Go.Proofs.YtjebkpcekkkbkaaW.PrintMore Go.Proofs.Ytjebkpcekkkbkaa.FBase
set_option linter.unusedVariables false
set_option linter.unusedSimpArgs false

/-- The document's map, laid open. -/
def RMapAt (W : World) (m a : Nat) (A : Option Addr) (c : Nat) (l : List Int) : Prop :=
  IsRef W a (lns l 0 0) ∧ Kd.C (Kd.int .u8) W A l.length l ∧ IsBlk W m (.cells #[.slice A l.length c, .pointer (some ⟨a, 0, none⟩)] 142)
def IsRMap (W : World) (m : Nat) (l : List Int) : Prop := ∃ a A c, l.length ≤ c ∧ RMapAt W m a A c l
theorem keeps_rmapAt (m a : Nat) (A : Option Addr) (c : Nat) (l : List Int) : Keeps (fun W => RMapAt W m a A c l) := keeps_and (keeps_ref _ _) (keeps_and (keeps_C _ _ _ _) (keeps_blk _ _))
theorem keeps_rmap (m : Nat) (l : List Int) : Keeps (fun W => IsRMap W m l) := fun W1 W2 h hb => by
  obtain ⟨a, A, c, hc, h⟩ := h
  exact ⟨a, A, c, hc, keeps_rmapAt m a A c l W1 W2 h hb⟩

end Go.Proofs.Ytjebkpcekkkbkaa.B

/-
  The document's map of places: Offset of a place in a line.
-/
namespace Go.Proofs.Ytjebkpcekkkbkaa.B
open Go.RowKit Go.Shelf Go.Proofs Go.Proofs.YtjebkpcekkkbkaaW.PrintWords Go.Proofs.YtjebkpcekkkbkaaW.PrintLast Go.Proofs.YtjebkpcekkkbkaaW.PrintMore Go.Proofs.Ytjebkpcekkkbkaa.FBase
set_option linter.unusedVariables false
set_option linter.unusedSimpArgs false

end Go.Proofs.Ytjebkpcekkkbkaa.B

/-
  The document's map of places: Pos, End.
-/
namespace Go.Proofs.Ytjebkpcekkkbkaa.B
open Go.RowKit Go.Shelf Go.Proofs Go.Proofs.YtjebkpcekkkbkaaW.PrintWords Go.Proofs.YtjebkpcekkkbkaaW.PrintLast Go.Proofs.YtjebkpcekkkbkaaW.PrintMore Go.Proofs.Ytjebkpcekkkbkaa.FBase
set_option linter.unusedVariables false
set_option linter.unusedSimpArgs false

end Go.Proofs.Ytjebkpcekkkbkaa.B

/-
  Plain laws of places: how great a place may be.
-/
namespace Go.Proofs.Ytjebkpcekkkbkaa.B
open Go.RowKit Go.Shelf Go.Proofs Go.Proofs.YtjebkpcekkkbkaaW.PrintWords Go.Proofs.YtjebkpcekkkbkaaW.PrintLast Go.Proofs.YtjebkpcekkkbkaaW.PrintMore Go.Proofs.Ytjebkpcekkkbkaa.FBase
set_option linter.unusedVariables false
set_option linter.unusedSimpArgs false

theorem un_le : ∀ {r : List (Int × Int)}, Good r → un r ≤ 2 * sz r
  | [], _ => by simp [un, sz]
  | x :: r, h => by have := h.head; have := un_le h.tail; simp only [un, sz]; omega
theorem pch_range (l : List Int) (hB : Bytes l) (hv : V l) (n : Int) : 0 ≤ pch l n ∧ pch l n ≤ 2 * l.length := by
  have h := (fnd_is l n).1
  obtain ⟨a, b, c, _, g, hsz⟩ := line_is l hB hv _ h
  have h1 := ufl_range (n - (rdLn (lns l 0 0) (fnd l n : Nat)).f0) g
  have h2 := un_le g
  unfold pch
  omega
end Go.Proofs.Ytjebkpcekkkbkaa.B

/-
  edit and its reference: what Span, Range, is answer.
-/
namespace Go.Proofs.Ytjebkpcekkkbkaa.B
open Go.RowKit Go.Shelf Go.Proofs Go.Proofs.YtjebkpcekkkbkaaW.PrintWords Go.Proofs.YtjebkpcekkkbkaaW.PrintLast Go.Proofs.YtjebkpcekkkbkaaW.PrintMore Go.Proofs.Ytjebkpcekkkbkaa.FBase
set_option linter.unusedVariables false
set_option linter.unusedSimpArgs false

theorem IsRMap.below {W W1 : World} {m : Nat} {l : List Int} (h : IsRMap W m l) (hb : Below W.heap.size W W1) : IsRMap W1 m l := keeps_rmap m l W W1 h hb
/-- What Span answers. -/
noncomputable def msp (l : List Int) (x0 x1 x2 x3 : Int) : Int × Int × Int :=
  if x0 < 0 ∨ x1 < 0 then (0, 0, 9) else if x2 < 0 ∨ x3 < 0 then (0, 0, 9) else if poff l x2 x3 < poff l x0 x1 then (0, 0, 2) else (poff l x0 x1, poff l x2 x3, 0)
theorem esp_msp (l : List Int) (x0 x1 x2 x3 : Int) : ((msp l x0 x1 x2 x3).2.2 = 2 → esp l false x0 x1 x2 x3 = (0, 0, 150)) ∧ ((msp l x0 x1 x2 x3).2.2 ≠ 2 → esp l false x0 x1 x2 x3 = msp l x0 x1 x2 x3) ∧ ((msp l x0 x1 x2 x3).2.2 ≠ 0 → (msp l x0 x1 x2 x3).1 = 0 ∧ (msp l x0 x1 x2 x3).2.1 = 0) := by
  unfold msp esp
  by_cases c1 : x0 < 0 ∨ x1 < 0
  · simp [c1]
  · by_cases c2 : x2 < 0 ∨ x3 < 0
    · simp [c1, c2]
    · by_cases c3 : poff l x2 x3 < poff l x0 x1 <;> simp [c1, c2, c3]
/-- Is a byte a place, as it is told. -/
noncomputable def isPb (l : List Int) (n : Int) : Bool := poff l (fnd l n) (pch l n) == n
theorem isPb_iff (l : List Int) (n : Int) : isPb l n = true ↔ IsP l n := by
  unfold isPb IsP
  exact beq_iff_eq
theorem MSpan_is (m : Nat) (l : List Int) (x0 x1 x2 x3 : Int) (w : World) (hM : IsMap w m l) (hs : l.length ≤ 1048576) (hB : Bytes l) (hv : V l) (h1 : x1 ≤ 9223372036854775807) (h3 : x3 ≤ 9223372036854775807) :
    Calls Try.prog 26 #[.pointer (some ⟨m, 0, none⟩), .agg #[.int .i64 x0, .int .i64 x1, .int .i64 x2, .int .i64 x3]] w fun e w' => e = .returned (.tuple #[.agg #[.int .i64 (msp l x0 x1 x2 x3).1, .int .i64 (msp l x0 x1 x2 x3).2.1], .int .i64 (msp l x0 x1 x2 x3).2.2]) ∧ Below w.heap.size w w' := by
  unfold msp
  by_cases c1 : x0 < 0 ∨ x1 < 0
  · rw [if_pos c1]
    exact MSpan_e1 _ x0 x1 x2 x3 0 9 w (fun W hW => MOffset_neg m l x0 x1 W (IsMap.below hM hW) c1) (by decide)
  · rw [if_neg c1]
    by_cases c2 : x2 < 0 ∨ x3 < 0
    · rw [if_pos c2]
      exact MSpan_e2 _ x0 x1 x2 x3 _ 0 9 w (fun W hW => MOffset_is m l x0 x1 W (IsMap.below hM hW) hs hB hv (by omega) (by omega) h1) (fun W hW => MOffset_neg m l x2 x3 W (IsMap.below hM hW) c2) (by decide)
    · rw [if_neg c2]
      by_cases c3 : poff l x2 x3 < poff l x0 x1
      · rw [if_pos c3]
        exact MSpan_rev _ x0 x1 x2 x3 _ _ w (fun W hW => MOffset_is m l x0 x1 W (IsMap.below hM hW) hs hB hv (by omega) (by omega) h1) (fun W hW => MOffset_is m l x2 x3 W (IsMap.below hM hW) hs hB hv (by omega) (by omega) h3) c3
      · rw [if_neg c3]
        exact MSpan_ok _ x0 x1 x2 x3 _ _ w (fun W hW => MOffset_is m l x0 x1 W (IsMap.below hM hW) hs hB hv (by omega) (by omega) h1) (fun W hW => MOffset_is m l x2 x3 W (IsMap.below hM hW) hs hB hv (by omega) (by omega) h3) (Int.not_lt.1 c3)

theorem MRange_is (m : Nat) (l : List Int) (n k : Int) (w : World) (hM : IsMap w m l) (hs : l.length ≤ 1048576) (hB : Bytes l) (hv : V l) (h0 : 0 ≤ n) (h1 : n ≤ k) (h2 : k ≤ l.length) :
    Calls Try.prog 53 #[.pointer (some ⟨m, 0, none⟩), .agg #[.int .i64 n, .int .i64 k]] w fun e w' => e = .returned (.tuple #[.agg #[.int .i64 (fnd l n), .int .i64 (pch l n), .int .i64 (fnd l k), .int .i64 (pch l k)], .int .i64 0]) ∧ Below w.heap.size w w' :=
  MRange_ok _ n k _ _ _ _ w (fun W hW => MPos_is m l n W (IsMap.below hM hW) hs hB hv h0 (by omega)) (fun W hW => MPos_is m l k W (IsMap.below hM hW) hs hB hv (by omega) h2) h1

set_option maxRecDepth 100000 in
set_option maxHeartbeats 1000000 in
theorem Mis_is (m : Nat) (l : List Int) (n : Int) (w : World) (hM : IsMap w m l) (hs : l.length ≤ 1048576) (hB : Bytes l) (hv : V l) (h0 : 0 ≤ n) (h1 : n ≤ l.length) :
    Calls Try.prog 52 #[.pointer (some ⟨m, 0, none⟩), .int .i64 n] w fun e w' => e = .returned (.bool (isPb l n)) ∧ Below w.heap.size w w' := by
  have HS := Aside0.mk ((Sta.start w).only hM (keeps_map _ _))
  have HBY := Aside0.mk hB
  have HV := Aside0.mk hv
  have hp := pch_range l hB hv n
  have hu : isPb l n = (poff l (fnd l n) (pch l n) == n) := rfl
  obtain ⟨a, ha⟩ : ∃ a : Int, (fnd l n : Int) = a := ⟨_, rfl⟩
  obtain ⟨ca, hca⟩ : ∃ ca, pch l n = ca := ⟨_, rfl⟩
  have a0 : 0 ≤ a := by omega
  rw [ha, hca] at hu
  rw [hca] at hp
  obtain ⟨o, ho⟩ : ∃ o, poff l a ca = o := ⟨_, rfl⟩
  rw [ho] at hu
  rw [hu]
  obtain ⟨ca0, ca2⟩ := hp
  have ca1 : ca ≤ 9223372036854775807 := by omega
  have HA := Aside0.mk ha
  have HCA := Aside0.mk hca
  have HO := Aside0.mk ho
  clear hM hB hv hu ha hca ho
  go_enter Try.func52, Try.ntmps52
  go_wp2_with (first | (go_at_call 80; refine (MPos_is m l n _ (HS.out.step (by repeat (first | exact Below.refl _ _ | apply below_alloc | apply pw_below_drewN | apply below_drew1))).now hs HBY.out HV.out h0 h1).mono ?_; rintro e w1 ⟨rfl, hb⟩; rw [HA.out, HCA.out]; have m_ := Aside0.mk (HS.out.call (by repeat (first | exact Below.refl _ _ | apply below_alloc | apply pw_below_drewN | apply below_drew1)) hb); clear HS hb ; have HS := m_; clear m_) | (go_at_call 62; refine (MOffset_is m l a ca _ (HS.out.step (by repeat (first | exact Below.refl _ _ | apply below_alloc | apply pw_below_drewN | apply below_drew1))).now hs HBY.out HV.out a0 ca0 ca1).mono ?_; rintro e w2 ⟨rfl, hb⟩; rw [HO.out]; have m_ := Aside0.mk (HS.out.call (by repeat (first | exact Below.refl _ _ | apply below_alloc | apply pw_below_drewN | apply below_drew1)) hb); clear HS hb ; have HS := m_; clear m_))
  go_ret
  exact ⟨rfl, (HS.out.step (by repeat (first | exact Below.refl _ _ | apply below_alloc | apply pw_below_drewN | apply below_drew1))).bel⟩

end Go.Proofs.Ytjebkpcekkkbkaa.B
