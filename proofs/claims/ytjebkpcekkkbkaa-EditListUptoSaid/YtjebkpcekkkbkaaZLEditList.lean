/-
  The row of EditList, in its second form: for every input of bulk at most 1048576 the call answers true, and the input reads as it did.
-/
import Derived.RangeFuncNested
import Derived.RangeFuncBound
import Derived.RangeFuncCalls
import Derived.RangeFuncLeaves
import Derived.RangeFuncBox
import Derived.Shelf.Abstract
import Derived.Shelf.RegionOpen
import Derived.OwnWalkIn
import Derived.TacticsInMore
import Derived.LoopNIn
import Derived.LoopIn
import Derived.Test.YtjebkpcekkkbkaaProg
import Derived.Below
import Derived.Deep.Draws
import Derived.Deep.AppendLies
import Derived.Maps.AppendAt
import Derived.OwnWalk
import Derived.Laws.BytesArg
import Derived.Laws.MakeOwn
import Derived.Laws.OwnMore
import Derived.Deep.OwnRows
import Derived.Tactics
import Derived.Lib.ConvBytes
import Derived.Laws.Slices
import Derived.WalkKit
import Derived.KernelRfl
import Derived.RowKit3
import Derived.Deep.LoopGhost
import Derived.Deep.QuietTactic
import Derived.BigQuiet
import Derived.WideLaws
import Derived.Deep.DeepCutAuto
import Derived.Deep.CutBlock
import Derived.Deep.RegionHeld3
import Derived.Laws.Rows
import Derived.Lib.AppendStr
import Derived.ArgAppend
import Derived.Laws.IdiomCopy
import Derived.OrdersHeld
import Derived.Laws.BitsLemmas
import Derived.RowKit
import Derived.Test.YtjebkpcekkkbkaaWWords
import Derived.Test.YtjebkpcekkkbkaaWLast
import Derived.Test.YtjebkpcekkkbkaaWTab
import Derived.Test.YtjebkpcekkkbkaaWFour
import Derived.Test.YtjebkpcekkkbkaaWQPut
import Derived.Test.YtjebkpcekkkbkaaWApart
import Derived.Test.YtjebkpcekkkbkaaWArr
import Derived.Test.YtjebkpcekkkbkaaWZeros
import Derived.Test.YtjebkpcekkkbkaaWFoot
import Derived.Test.YtjebkpcekkkbkaaWKept
import Derived.Test.YtjebkpcekkkbkaaWShare
import Derived.Test.YtjebkpcekkkbkaaWN
import Derived.Test.YtjebkpcekkkbkaaWFootNe
import Derived.Test.YtjebkpcekkkbkaaWAt
import Derived.Test.YtjebkpcekkkbkaaWEqStruct
import Derived.Test.YtjebkpcekkkbkaaWRepsOne
import Derived.Test.YtjebkpcekkkbkaaWInv
import Derived.Test.YtjebkpcekkkbkaaWInvWords
import Derived.Test.YtjebkpcekkkbkaaWGuard
import Derived.Test.YtjebkpcekkkbkaaWNEv
import Derived.Test.YtjebkpcekkkbkaaWMore
import Derived.Deep.DeepFit
import Derived.Test.YtjebkpcekkkbkaaBulk
import Derived.ChangeShapes
import Derived.WalkMore
import Derived.WalkSpells
import Derived.Deep.CutRange
import Derived.IntWalk
import Derived.Lib.SlBytesConst
import Derived.Sort.QuietIn
import Derived.Lib.SmallJoins
import Derived.WideKeyArgs
import Derived.OpenShut
import Derived.Deep.Slices
import Derived.ProofKit
import Derived.ShutString
import Derived.ChangeOld
import Derived.SizedLaws
import Derived.JoinedCond
import Derived.Test.YtjebkpcekkkbkaaZN13
set_option linter.unusedSimpArgs false
set_option linter.unusedVariables false
/-
  EditNothing, walked.
-/
namespace Go.Proofs.Ytjebkpcekkkbkaa.B
open Go.RowKit Go.Shelf Go.Proofs Go.Proofs.YtjebkpcekkkbkaaW.PrintWords Go.Proofs.YtjebkpcekkkbkaaW.PrintLast Go.Proofs.YtjebkpcekkkbkaaW.PrintMore Go.Proofs.Ytjebkpcekkkbkaa.FBase
set_option linter.unusedVariables false
set_option linter.unusedSimpArgs false

theorem text_f (l : List Int) (hB : Bytes l) (hl : l.length ≤ 140737488351232) : colophonlaw15_text.f (l.length + 9) l = some (if (chk l).2 = 0 then decide ((l.length : Int) ≤ 1000) else false) := by
  unfold colophonlaw15_text.f
  rw [Check_F l hB (by omega) (by omega)]
  simp only [Option.bind_some]
  split <;> rfl
theorem text_yes (l : List Int) (hB : Bytes l) (hv : (chk l).2 = 0) (hl : l.length ≤ 1000) : colophonlaw15_text.f (l.length + 9) l = some true := by
  rw [text_f l hB (by omega), if_pos hv, decide_eq_true (by omega)]
theorem text_no (l : List Int) (hB : Bytes l) (hl : l.length ≤ 140737488351232) (h : ¬ ((chk l).2 = 0 ∧ l.length ≤ 1000)) : colophonlaw15_text.f (l.length + 9) l = some false := by
  rw [text_f l hB hl]
  by_cases hv : (chk l).2 = 0
  · rw [if_pos hv, decide_eq_false (by omega)]
  · rw [if_neg hv]
theorem eq_f (l : List Int) (hl : l.length ≤ 1048576) : colophonref00_EqBytes.f (l.length + 1) l l = some true := by
  rw [EqBytes_f l l hl (Nat.lt_succ_self _)]
  simp
theorem other_B : Bytes [111, 116, 104, 101, 114] := by intro x hx; simp at hx; omega
theorem other_V : V [111, 116, 104, 101, 114] := (csF_ok 20 (r := [(1, 1), (1, 1), (1, 1), (1, 1), (1, 1)]) (by decide +kernel)).v

set_option maxRecDepth 100000 in
set_option maxHeartbeats 8000000 in
theorem EditNothing_no (A : Option Addr) (c : Nat) (l : List Int) (line char : Int) (w : World) (hr : Kd.C (Kd.int .u8) w A l.length l) (hc : l.length ≤ c) (hB : Bytes l) (hs : l.length ≤ 140737488351232) (h : ¬ ((chk l).2 = 0 ∧ l.length ≤ 1000)) :
    Calls Try.prog 9 #[.slice A l.length c, .int .i64 line, .int .i64 char] w fun e w' => e = .returned (.bool true) ∧ Below w.heap.size w w' := by
  have HS := Aside0.mk ((Sta.start w).only hr (keeps_C _ _ _ _))
  have HCl := Aside0.mk hc
  have HT := Aside0.mk (text_no l hB hs h)
  clear hr hc h hB
  go_enter Try.func9, Try.ntmps9
  go_wp2_with (first | (go_at_call 21; refine (works15_ok _).mono ?_; rintro e w1 ⟨rfl, hb⟩; have m_ := Aside0.mk (HS.out.call (by repeat (first | exact Below.refl _ _ | apply below_alloc | apply pw_below_drewN | apply below_drew1 | apply bytes_step)) hb); clear HS hb ; have HS := m_; clear m_) | (go_at_call 22; refine (colophonlaw15_text.calls _ A c l _ _ (HS.out.step (by repeat (first | exact Below.refl _ _ | apply below_alloc | apply pw_below_drewN | apply below_drew1 | apply bytes_step))).now HCl.out HT.out).mono ?_; rintro e w2 ⟨rfl, hd⟩; have hb := hd.below; clear hd; have m_ := Aside0.mk (HS.out.call (by repeat (first | exact Below.refl _ _ | apply below_alloc | apply pw_below_drewN | apply below_drew1 | apply bytes_step)) hb); clear HS hb ; have HS := m_; clear m_))
  go_ret
  exact ⟨rfl, (HS.out.step (by repeat (first | exact Below.refl _ _ | apply below_alloc | apply pw_below_drewN | apply below_drew1 | apply bytes_step))).bel⟩

set_option maxRecDepth 100000 in
set_option maxHeartbeats 8000000 in
theorem EditNothing_ok (A : Option Addr) (c : Nat) (l : List Int) (line char : Int) (w : World) (hr : Kd.C (Kd.int .u8) w A l.length l) (hc : l.length ≤ c) (hn : A = none → c = 0) (hB : Bytes l) (hv : (chk l).2 = 0) (hs : l.length ≤ 1000) :
    Calls Try.prog 9 #[.slice A l.length c, .int .i64 line, .int .i64 char] w fun e w' => e = .returned (.bool true) ∧ Below w.heap.size w w' := by
  have hV := (chk_V hB).1 hv
  have HS := Aside0.mk ((Sta.start w).only hr (keeps_C _ _ _ _))
  have HCl := Aside0.mk hc
  have HBY := Aside0.mk hB
  have HT := Aside0.mk (text_yes l hB hv hs)
  have HEQ := Aside0.mk (eq_f l (by omega))
  have hs6 : l.length ≤ 1048576 := by omega
  have Bline := Aside0.mk (bring_f line 1099511627776 (by decide) (by decide))
  have Bchar := Aside0.mk (bring_f char 1099511627776 (by decide) (by decide))
  have x00 := Int.emod_nonneg line (show (1099511627776 : Int) ≠ 0 by decide)
  have x10 := Int.emod_nonneg char (show (1099511627776 : Int) ≠ 0 by decide)
  have x01 := Int.emod_lt_of_pos line (show (0 : Int) < 1099511627776 by decide)
  have x11 := Int.emod_lt_of_pos char (show (0 : Int) < 1099511627776 by decide)
  generalize line % 1099511627776 = x0 at *
  generalize char % 1099511627776 = x1 at *
  obtain ⟨sb, hsb'⟩ : ∃ sb, strOfNums l = sb := ⟨_, rfl⟩
  have hbs : bytesOf sb = l := by rw [← hsb']; exact bytesOf_str l hB
  have hsb : sb.size ≤ 140737488351232 := by rw [← bytesOf_length, hbs]; omega
  have o1 := nothing_law hB hV (by omega) x0 x1 x00 x10
  have o2 := whole_law other_B (hbs ▸ hB) other_V (hbs ▸ hV) (by rw [bytesOf_length]; rw [← bytesOf_length, hbs]; omega) 0 0 0 0
  have HO1 : Aside0 ((ech l (bytesOf ⟨#[]⟩) false x0 x1 x0 x1).2.2.1 = l ∧ (ech l (bytesOf ⟨#[]⟩) false x0 x1 x0 x1).2.2.2 = 0) := ⟨congrArg Prod.fst o1, congrArg Prod.snd o1⟩
  have HO2 : Aside0 ((ech [111, 116, 104, 101, 114] (bytesOf sb) true 0 0 0 0).2.2.1 = l ∧ (ech [111, 116, 104, 101, 114] (bytesOf sb) true 0 0 0 0).2.2.2 = 0) := ⟨(congrArg Prod.fst o2).trans hbs, congrArg Prod.snd o2⟩
  have o3 : eapp l (([] : List S29).map edOf) = (l, 0) := by unfold eapp; rw [if_neg (by omega), if_neg (by simp)]; rfl
  have HO3 : Aside0 ((eapp l (([] : List S29).map edOf)).1 = l ∧ (eapp l (([] : List S29).map edOf)).2 = 0) := ⟨congrArg Prod.fst o3, congrArg Prod.snd o3⟩
  have HKS := Aside0.mk (fun (W : World) (h : Kd.C (Kd.int .u8) W A l.length l) => Kd.C_string (P := Try.prog) (w := W) (src := 22) (dst := 9) (e := 5) (c := c) Try.underlying22 Try.underlying5 Try.underlying9 h)
  have HSB := Aside0.mk hsb'
  have kc := conv_lit
  clear hr hc hB hv hV o1 o2 o3 hbs hsb'
  have tline := True.intro
  have tchar := True.intro
  have to1 := True.intro
  have to2 := True.intro
  have e1 := True.intro
  have e2 := True.intro
  have e3 := True.intro
  go_enter Try.func9, Try.ntmps9
  go_upto_region 7 with (first | (go_at_call 21; refine (works15_ok _).mono ?_; rintro e w1 ⟨rfl, hb⟩; have m_ := Aside0.mk (HS.out.call (by repeat (first | exact Below.refl _ _ | apply below_alloc | apply pw_below_drewN | apply below_drew1 | apply bytes_step)) hb); clear HS hb ; have HS := m_; clear m_) | (go_at_call 22; refine (colophonlaw15_text.calls _ A c l _ _ (HS.out.step (by repeat (first | exact Below.refl _ _ | apply below_alloc | apply pw_below_drewN | apply below_drew1 | apply bytes_step))).now HCl.out HT.out).mono ?_; rintro e w2 ⟨rfl, hd⟩; have hb := hd.below; clear hd; have m_ := Aside0.mk (HS.out.call (by repeat (first | exact Below.refl _ _ | apply below_alloc | apply pw_below_drewN | apply below_drew1 | apply bytes_step)) hb); clear HS hb ; have HS := m_; clear m_) | (have _t := tline; go_at_call 29; refine (colophonref00_Bring.calls line _ _ _ Bline.out).mono ?_; rintro e w3 ⟨rfl, nb, rfl⟩; clear tline _t) | (have _t := tchar; go_at_call 29; refine (colophonref00_Bring.calls char _ _ _ Bchar.out).mono ?_; rintro e w3 ⟨rfl, nb, rfl⟩; clear tchar _t) | (go_at_call 30; refine (colophonlaw15_at.calls x0 x1 x0 x1 ⟨#[]⟩ _ _ _ _ _ _ _ rfl).mono ?_; rintro e w4 ⟨rfl, hb⟩; have m_ := Aside0.mk (HS.out.call (by repeat (first | exact Below.refl _ _ | apply below_alloc | apply pw_below_drewN | apply below_drew1 | apply bytes_step)) hb); clear HS hb ; have HS := m_; clear m_) | (have _t := to1; go_at_call 23; refine (One_is A c l false x0 x1 x0 x1 ⟨#[]⟩ _ (HS.out.step (by repeat (first | exact Below.refl _ _ | apply below_alloc | apply pw_below_drewN | apply below_drew1 | apply bytes_step))).now HCl.out hn HBY.out hs6 (by decide) (by omega) (by omega)).mono ?_; rintro e w5 ⟨v, rfl, hR, hb⟩; rw [HO1.out.2] ; rw [HO1.out.1] at hR; obtain ⟨A2, k2, rfl, hl2, hn2, hC2⟩ := Ap.read (.inr hR); have HLA2 := Aside0.mk hl2; have HNA2 := Aside0.mk hn2; clear hR hl2 hn2; have m_ := Aside0.mk ((HS.out.call (by repeat (first | exact Below.refl _ _ | apply below_alloc | apply pw_below_drewN | apply below_drew1 | apply bytes_step)) hb).add hC2 (keeps_C _ _ _ _)); clear HS hb hC2; have HS := m_; clear m_; clear to1 _t))
  have ks := HKS.out (w5.alloc (.cells #[.int .u8 111, .int .u8 116, .int .u8 104, .int .u8 101, .int .u8 114] 5 (5, 6))) (HS.out.step (by repeat (first | exact Below.refl _ _ | apply below_alloc | apply pw_below_drewN | apply below_drew1 | apply bytes_step))).now.2
  rw [HSB.out] at ks
  go_wp2_with (first | (have _t := to2; go_at_call 23; refine (One_is _ 5 [111, 116, 104, 101, 114] true 0 0 0 0 sb _ (lit_mark _ _ [111, 116, 104, 101, 114] #[.int .u8 111, .int .u8 116, .int .u8 104, .int .u8 101, .int .u8 114] 5 (5, 6) (by simp) rfl (by decide)) (by decide) (fun e => nomatch e) other_B (by decide) hsb (by decide) (by decide)).mono ?_; rintro e w6 ⟨v, rfl, hR, hb⟩; rw [HO2.out.2] ; rw [HO2.out.1] at hR; obtain ⟨A3, k3, rfl, hl2, hn2, hC2⟩ := Ap.read (.inr hR); have HLA3 := Aside0.mk hl2; have HNA3 := Aside0.mk hn2; clear hR hl2 hn2; have m_ := Aside0.mk ((HS.out.call (by repeat (first | exact Below.refl _ _ | apply below_alloc | apply pw_below_drewN | apply below_drew1 | apply bytes_step)) hb).add hC2 (keeps_C _ _ _ _)); clear HS hb hC2; have HS := m_; clear m_; clear to2 _t) | (go_at_call 27; refine (Apply_is A none c 0 l [] _ (HS.out.step (by repeat (first | exact Below.refl _ _ | apply below_alloc | apply pw_below_drewN | apply below_drew1 | apply bytes_step))).now.2.2 HCl.out hn (Kd.C_nil _ _) HBY.out hs6 (fun x hx => nomatch hx)).mono ?_; rintro e w7 ⟨v, rfl, hR, hb⟩; rw [HO3.out.2] ; rw [HO3.out.1] at hR; obtain ⟨A4, k4, rfl, hl2, hn2, hC2⟩ := Ap.read (.inr hR); have HLA4 := Aside0.mk hl2; have HNA4 := Aside0.mk hn2; clear hR hl2 hn2; have m_ := Aside0.mk ((HS.out.call (by repeat (first | exact Below.refl _ _ | apply below_alloc | apply pw_below_drewN | apply below_drew1 | apply bytes_step)) hb).add hC2 (keeps_C _ _ _ _)); clear HS hb hC2; have HS := m_; clear m_) | (have _t := e1; go_at_call 20; refine (colophonref00_EqBytes.calls _ A2 k2 l A c l true _ (HS.out.step (by repeat (first | exact Below.refl _ _ | apply below_alloc | apply pw_below_drewN | apply below_drew1 | apply bytes_step))).now.2.2.1 HLA2.out (HS.out.step (by repeat (first | exact Below.refl _ _ | apply below_alloc | apply pw_below_drewN | apply below_drew1 | apply bytes_step))).now.2.2.2 HCl.out HEQ.out).mono ?_; rintro e wq ⟨rfl, hd⟩; have hb := hd.below; clear hd; have m_ := Aside0.mk (HS.out.call (by repeat (first | exact Below.refl _ _ | apply below_alloc | apply pw_below_drewN | apply below_drew1 | apply bytes_step)) hb); clear HS hb ; have HS := m_; clear m_; clear e1 _t) | (have _t := e2; go_at_call 20; refine (colophonref00_EqBytes.calls _ A3 k3 l A c l true _ (HS.out.step (by repeat (first | exact Below.refl _ _ | apply below_alloc | apply pw_below_drewN | apply below_drew1 | apply bytes_step))).now.2.1 HLA3.out (HS.out.step (by repeat (first | exact Below.refl _ _ | apply below_alloc | apply pw_below_drewN | apply below_drew1 | apply bytes_step))).now.2.2.2 HCl.out HEQ.out).mono ?_; rintro e wq ⟨rfl, hd⟩; have hb := hd.below; clear hd; have m_ := Aside0.mk (HS.out.call (by repeat (first | exact Below.refl _ _ | apply below_alloc | apply pw_below_drewN | apply below_drew1 | apply bytes_step)) hb); clear HS hb ; have HS := m_; clear m_; clear e2 _t) | (have _t := e3; go_at_call 20; refine (colophonref00_EqBytes.calls _ A4 k4 l A c l true _ (HS.out.step (by repeat (first | exact Below.refl _ _ | apply below_alloc | apply pw_below_drewN | apply below_drew1 | apply bytes_step))).now.1 HLA4.out (HS.out.step (by repeat (first | exact Below.refl _ _ | apply below_alloc | apply pw_below_drewN | apply below_drew1 | apply bytes_step))).now.2.2.2 HCl.out HEQ.out).mono ?_; rintro e wq ⟨rfl, hd⟩; have hb := hd.below; clear hd; have m_ := Aside0.mk (HS.out.call (by repeat (first | exact Below.refl _ _ | apply below_alloc | apply pw_below_drewN | apply below_drew1 | apply bytes_step)) hb); clear HS hb ; have HS := m_; clear m_; clear e3 _t))
  go_ret
  exact ⟨rfl, (HS.out.step (by repeat (first | exact Below.refl _ _ | apply below_alloc | apply pw_below_drewN | apply below_drew1 | apply bytes_step))).bel⟩
theorem EditNothing_said (A : Option Addr) (n c : Nat) (zs : List Int) (line char : Int) (W : World) (h : IsRow .u8 W A n c zs) (hsz : n * 1 ≤ 140737488351232) (_h1 : (Lit.int .i64 line).wf = true) (_h2 : (Lit.int .i64 char).wf = true) :
    Calls Try.prog 9 #[.slice A n c, .int .i64 line, .int .i64 char] W fun e W' => e = .returned (.bool true) ∧ Below W.heap.size W W' := by
  have hn : A = none → c = 0 := fun e => by
    subst e
    rcases h with ⟨_, _, h, _⟩ | ⟨x, h, _⟩
    · exact h
    · cases h
  obtain ⟨l, rfl, hc, hC, hw⟩ := h.reads
  have hB : Bytes l := fun x hx => byte_wf (hw x hx)
  by_cases hz : (chk l).2 = 0 ∧ l.length ≤ 1000
  · exact EditNothing_ok A c l line char W hC hc hn hB hz.1 hz.2
  · exact EditNothing_no A c l line char W hC hc hB (by omega) hz
end Go.Proofs.Ytjebkpcekkkbkaa.B

/-
  EditMakes, walked.
-/
namespace Go.Proofs.Ytjebkpcekkkbkaa.B
open Go.RowKit Go.Shelf Go.Proofs Go.Proofs.YtjebkpcekkkbkaaW.PrintWords Go.Proofs.YtjebkpcekkkbkaaW.PrintLast Go.Proofs.YtjebkpcekkkbkaaW.PrintMore Go.Proofs.Ytjebkpcekkkbkaa.FBase
set_option linter.unusedVariables false
set_option linter.unusedSimpArgs false

/-- What Diff gives makes b out of a. -/
theorem Diff_makes (A B : Option Addr) (c d : Nat) (a b : List Int) (w : World) (hr : Kd.C (Kd.int .u8) w A a.length a) (hc : a.length ≤ c) (hr2 : Kd.C (Kd.int .u8) w B b.length b) (hd : b.length ≤ d) (hn : A = none → c = 0) (hA : Bytes a) (hB : Bytes b) (hs : a.length ≤ 1048576) (hs2 : b.length ≤ 140737488351232) (hl : (chk a).2 = 0) (ht : (chk b).2 = 0) (hlim : ¬ 8192 < b.length) :
    Calls Try.prog 18 #[.slice A a.length c, .slice B b.length d] w fun e w' => (∃ (x0 x1 x2 x3 : Int) (s : ByteArray), e = .returned (.tuple #[.agg #[.bool false, .int .i64 x0, .int .i64 x1, .int .i64 x2, .int .i64 x3, .string s], .int .i64 0]) ∧
      s.size ≤ 140737488351232 ∧ x1 ≤ 9223372036854775807 ∧ x3 ≤ 9223372036854775807 ∧ (ech a (bytesOf s) false x0 x1 x2 x3).2.2.1 = b ∧ (ech a (bytesOf s) false x0 x1 x2 x3).2.2.2 = 0 ∧ (bytesOf s).length ≤ b.length ∧ decide (s.size ≤ b.length) = true) ∧ Below w.heap.size w w' := by
  refine (Diff_ok A B c d a b w hr hc hr2 hd hn hA hB hs hs2 hl ht hlim).mono ?_
  rintro e w' ⟨⟨f, t, h, rfl⟩, hb⟩
  have va := (chk_V hA).1 hl
  have vb := (chk_V hB).1 ht
  have hsg : Bytes ((b.take (b.length - t)).drop f) := (hB.take _).drop _
  have hbs : bytesOf (strOfNums ((b.take (b.length - t)).drop f)) = (b.take (b.length - t)).drop f := bytesOf_str _ hsg
  have hsz : (strOfNums ((b.take (b.length - t)).drop f)).size ≤ b.length := by
    rw [← bytesOf_length, hbs, List.length_drop, List.length_take]
    omega
  have r1 := pch_range a hA va f
  have r2 := pch_range a hA va ((a.length - t : Nat) : Int)
  have o := diff_law hA hB va vb (by omega) h (y0 := (fnd a f : Int)) (y1 := pch a f) (y2 := (fnd a ((a.length - t : Nat) : Int) : Int)) (y3 := pch a ((a.length - t : Nat) : Int)) (by omega) r1.1 (by omega) r2.1 h.p h.q
  refine ⟨⟨_, _, _, _, _, rfl, by omega, by omega, by omega, ?_, ?_, ?_, decide_eq_true hsz⟩, hb⟩
  · rw [hbs]
    exact congrArg Prod.fst o
  · rw [hbs]
    exact congrArg Prod.snd o
  · rw [bytesOf_length]
    exact hsz

set_option maxRecDepth 100000 in
set_option maxHeartbeats 8000000 in
theorem EditMakes_no1 (A B : Option Addr) (c d : Nat) (a b : List Int) (w : World) (hr : Kd.C (Kd.int .u8) w A a.length a) (hc : a.length ≤ c) (hr2 : Kd.C (Kd.int .u8) w B b.length b) (hd : b.length ≤ d) (hn : A = none → c = 0) (hA : Bytes a) (hB : Bytes b) (hs : a.length ≤ 140737488351232) (h : ¬ ((chk a).2 = 0 ∧ a.length ≤ 1000)) :
    Calls Try.prog 5 #[.slice A a.length c, .slice B b.length d] w fun e w' => e = .returned (.bool true) ∧ Below w.heap.size w w' := by
  have HS := Aside0.mk (((Sta.start w).only hr (keeps_C _ _ _ _)).add hr2 (keeps_C _ _ _ _))
  have HCa := Aside0.mk hc
  have HCb := Aside0.mk hd
  have HTa := Aside0.mk (text_no a hA hs h)
  clear hr hr2 hc hd h hA hB
  go_enter Try.func5, Try.ntmps5
  go_wp2_with (first | (go_at_call 21; refine (works15_ok _).mono ?_; rintro e w1 ⟨rfl, hb⟩; have m_ := Aside0.mk (HS.out.call (by repeat (first | exact Below.refl _ _ | apply below_alloc | apply pw_below_drewN | apply below_drew1 | apply bytes_step)) hb); clear HS hb ; have HS := m_; clear m_) | (go_at_call 22; refine (colophonlaw15_text.calls _ A c a _ _ (HS.out.step (by repeat (first | exact Below.refl _ _ | apply below_alloc | apply pw_below_drewN | apply below_drew1 | apply bytes_step))).now.2 HCa.out HTa.out).mono ?_; rintro e w2 ⟨rfl, hd⟩; have hb := hd.below; clear hd; have m_ := Aside0.mk (HS.out.call (by repeat (first | exact Below.refl _ _ | apply below_alloc | apply pw_below_drewN | apply below_drew1 | apply bytes_step)) hb); clear HS hb ; have HS := m_; clear m_))
  go_ret
  exact ⟨rfl, (HS.out.step (by repeat (first | exact Below.refl _ _ | apply below_alloc | apply pw_below_drewN | apply below_drew1 | apply bytes_step))).bel⟩
set_option maxRecDepth 100000 in
set_option maxHeartbeats 8000000 in
theorem EditMakes_no2 (A B : Option Addr) (c d : Nat) (a b : List Int) (w : World) (hr : Kd.C (Kd.int .u8) w A a.length a) (hc : a.length ≤ c) (hr2 : Kd.C (Kd.int .u8) w B b.length b) (hd : b.length ≤ d) (hn : A = none → c = 0) (hA : Bytes a) (hB : Bytes b) (hs : b.length ≤ 140737488351232) (ha : (chk a).2 = 0 ∧ a.length ≤ 1000) (h : ¬ ((chk b).2 = 0 ∧ b.length ≤ 1000)) :
    Calls Try.prog 5 #[.slice A a.length c, .slice B b.length d] w fun e w' => e = .returned (.bool true) ∧ Below w.heap.size w w' := by
  have HS := Aside0.mk (((Sta.start w).only hr (keeps_C _ _ _ _)).add hr2 (keeps_C _ _ _ _))
  have HCa := Aside0.mk hc
  have HCb := Aside0.mk hd
  have HTa := Aside0.mk (text_yes a hA ha.1 ha.2)
  have HTb := Aside0.mk (text_no b hB hs h)
  have ta := True.intro
  have tb := True.intro
  clear hr hr2 hc hd h hA hB ha
  go_enter Try.func5, Try.ntmps5
  go_wp2_with (first | (go_at_call 21; refine (works15_ok _).mono ?_; rintro e w1 ⟨rfl, hb⟩; have m_ := Aside0.mk (HS.out.call (by repeat (first | exact Below.refl _ _ | apply below_alloc | apply pw_below_drewN | apply below_drew1 | apply bytes_step)) hb); clear HS hb ; have HS := m_; clear m_) | (have _t := ta; go_at_call 22; refine (colophonlaw15_text.calls _ A c a _ _ (HS.out.step (by repeat (first | exact Below.refl _ _ | apply below_alloc | apply pw_below_drewN | apply below_drew1 | apply bytes_step))).now.2 HCa.out HTa.out).mono ?_; rintro e w2 ⟨rfl, hd⟩; have hb := hd.below; clear hd; have m_ := Aside0.mk (HS.out.call (by repeat (first | exact Below.refl _ _ | apply below_alloc | apply pw_below_drewN | apply below_drew1 | apply bytes_step)) hb); clear HS hb ; have HS := m_; clear m_; clear ta _t) | (have _t := tb; go_at_call 22; refine (colophonlaw15_text.calls _ B d b _ _ (HS.out.step (by repeat (first | exact Below.refl _ _ | apply below_alloc | apply pw_below_drewN | apply below_drew1 | apply bytes_step))).now.1 HCb.out HTb.out).mono ?_; rintro e w3 ⟨rfl, hd⟩; have hb := hd.below; clear hd; have m_ := Aside0.mk (HS.out.call (by repeat (first | exact Below.refl _ _ | apply below_alloc | apply pw_below_drewN | apply below_drew1 | apply bytes_step)) hb); clear HS hb ; have HS := m_; clear m_; clear tb _t))
  go_ret
  exact ⟨rfl, (HS.out.step (by repeat (first | exact Below.refl _ _ | apply below_alloc | apply pw_below_drewN | apply below_drew1 | apply bytes_step))).bel⟩
set_option maxRecDepth 100000 in
set_option maxHeartbeats 8000000 in
theorem EditMakes_ok (A B : Option Addr) (c d : Nat) (a b : List Int) (w : World) (hr : Kd.C (Kd.int .u8) w A a.length a) (hc : a.length ≤ c) (hr2 : Kd.C (Kd.int .u8) w B b.length b) (hd : b.length ≤ d) (hn : A = none → c = 0) (hA : Bytes a) (hB : Bytes b) (ha : (chk a).2 = 0 ∧ a.length ≤ 1000) (h : (chk b).2 = 0 ∧ b.length ≤ 1000) :
    Calls Try.prog 5 #[.slice A a.length c, .slice B b.length d] w fun e w' => e = .returned (.bool true) ∧ Below w.heap.size w w' := by
  have HS := Aside0.mk (((Sta.start w).only hr (keeps_C _ _ _ _)).add hr2 (keeps_C _ _ _ _))
  have HCa := Aside0.mk hc
  have HCb := Aside0.mk hd
  have HAY := Aside0.mk hA
  have HBY := Aside0.mk hB
  have HK1 := Aside0.mk ha.1
  have HK2 := Aside0.mk h.1
  have HTa := Aside0.mk (text_yes a hA ha.1 ha.2)
  have HTb := Aside0.mk (text_yes b hB h.1 h.2)
  have hs6 : a.length ≤ 1048576 := by omega
  have hs7 : b.length ≤ 140737488351232 := by omega
  have hlim : ¬ 8192 < b.length := by omega
  have HEQ := Aside0.mk (eq_f b (by omega))
  have ta := True.intro
  have tb := True.intro
  have e1 := True.intro
  clear hr hr2 hc hd h hA hB ha
  go_enter Try.func5, Try.ntmps5
  go_wp2_with (first | (go_at_call 21; refine (works15_ok _).mono ?_; rintro e w1 ⟨rfl, hb⟩; have m_ := Aside0.mk (HS.out.call (by repeat (first | exact Below.refl _ _ | apply below_alloc | apply pw_below_drewN | apply below_drew1 | apply bytes_step)) hb); clear HS hb ; have HS := m_; clear m_) | (have _t := ta; go_at_call 22; refine (colophonlaw15_text.calls _ A c a _ _ (HS.out.step (by repeat (first | exact Below.refl _ _ | apply below_alloc | apply pw_below_drewN | apply below_drew1 | apply bytes_step))).now.2 HCa.out HTa.out).mono ?_; rintro e w2 ⟨rfl, hd⟩; have hb := hd.below; clear hd; have m_ := Aside0.mk (HS.out.call (by repeat (first | exact Below.refl _ _ | apply below_alloc | apply pw_below_drewN | apply below_drew1 | apply bytes_step)) hb); clear HS hb ; have HS := m_; clear m_; clear ta _t) | (have _t := tb; go_at_call 22; refine (colophonlaw15_text.calls _ B d b _ _ (HS.out.step (by repeat (first | exact Below.refl _ _ | apply below_alloc | apply pw_below_drewN | apply below_drew1 | apply bytes_step))).now.1 HCb.out HTb.out).mono ?_; rintro e w3 ⟨rfl, hd⟩; have hb := hd.below; clear hd; have m_ := Aside0.mk (HS.out.call (by repeat (first | exact Below.refl _ _ | apply below_alloc | apply pw_below_drewN | apply below_drew1 | apply bytes_step)) hb); clear HS hb ; have HS := m_; clear m_; clear tb _t) | (go_at_call 18; refine (Diff_makes A B c d a b _ (HS.out.step (by repeat (first | exact Below.refl _ _ | apply below_alloc | apply pw_below_drewN | apply below_drew1 | apply bytes_step))).now.2 HCa.out (HS.out.step (by repeat (first | exact Below.refl _ _ | apply below_alloc | apply pw_below_drewN | apply below_drew1 | apply bytes_step))).now.1 HCb.out hn HAY.out HBY.out hs6 hs7 HK1.out HK2.out hlim).mono ?_; rintro e w4 ⟨⟨x0, x1, x2, x3, s, rfl, hX⟩, hb⟩; have HX := Aside0.mk hX; have g9 := hX.2.2.2.2.2.2; clear hX; have m_ := Aside0.mk (HS.out.call (by repeat (first | exact Below.refl _ _ | apply below_alloc | apply pw_below_drewN | apply below_drew1 | apply bytes_step)) hb); clear HS hb ; have HS := m_; clear m_) | (go_at_call 23; refine (One_is A c a false x0 x1 x2 x3 s _ (HS.out.step (by repeat (first | exact Below.refl _ _ | apply below_alloc | apply pw_below_drewN | apply below_drew1 | apply bytes_step))).now.2 HCa.out hn HAY.out hs6 HX.out.1 HX.out.2.1 HX.out.2.2.1).mono ?_; rintro e w5 ⟨v, rfl, hR, hb⟩; rw [HX.out.2.2.2.2.1] ; rw [HX.out.2.2.2.1] at hR; obtain ⟨A2, k2, rfl, hl2, hn2, hC2⟩ := Ap.read (.inr hR); have HLA2 := Aside0.mk hl2; have HNA2 := Aside0.mk hn2; clear hR hl2 hn2; have hbx := IsBlk.below (blk_new w4 (.cells #[.bool false, .int .i64 x0, .int .i64 x1, .int .i64 x2, .int .i64 x3, .string s] 29)) hb; have m_ := Aside0.mk (((HS.out.call (by repeat (first | exact Below.refl _ _ | apply below_alloc | apply pw_below_drewN | apply below_drew1 | apply bytes_step)) hb).add hC2 (keeps_C _ _ _ _)).add hbx (keeps_blk _ _)); clear HS hb hC2 hbx; have HS := m_; clear m_; have p0 : w5.cell? ⟨w4.heap.size, 0, none⟩ = some (.bool false) := HS.out.now.1.cell 0; have p1 : w5.cell? ⟨w4.heap.size, 1, none⟩ = some (.int .i64 x0) := HS.out.now.1.cell 1; have p2 : w5.cell? ⟨w4.heap.size, 2, none⟩ = some (.int .i64 x1) := HS.out.now.1.cell 2; have p3 : w5.cell? ⟨w4.heap.size, 3, none⟩ = some (.int .i64 x2) := HS.out.now.1.cell 3; have p4 : w5.cell? ⟨w4.heap.size, 4, none⟩ = some (.int .i64 x3) := HS.out.now.1.cell 4; have p5 : w5.cell? ⟨w4.heap.size, 5, none⟩ = some (.string s) := HS.out.now.1.cell 5) | (have _t := e1; go_at_call 20; refine (colophonref00_EqBytes.calls _ A2 k2 b B d b true _ (HS.out.step (by repeat (first | exact Below.refl _ _ | apply below_alloc | apply pw_below_drewN | apply below_drew1 | apply bytes_step))).now.2.1 HLA2.out (HS.out.step (by repeat (first | exact Below.refl _ _ | apply below_alloc | apply pw_below_drewN | apply below_drew1 | apply bytes_step))).now.2.2.1 HCb.out HEQ.out).mono ?_; rintro e wq ⟨rfl, hd⟩; have hb := hd.below; clear hd; have m_ := Aside0.mk (HS.out.call (by repeat (first | exact Below.refl _ _ | apply below_alloc | apply pw_below_drewN | apply below_drew1 | apply bytes_step)) hb); clear HS hb ; have HS := m_; clear m_; have p0 : wq.cell? ⟨w4.heap.size, 0, none⟩ = some (.bool false) := HS.out.now.1.cell 0; have p1 : wq.cell? ⟨w4.heap.size, 1, none⟩ = some (.int .i64 x0) := HS.out.now.1.cell 1; have p2 : wq.cell? ⟨w4.heap.size, 2, none⟩ = some (.int .i64 x1) := HS.out.now.1.cell 2; have p3 : wq.cell? ⟨w4.heap.size, 3, none⟩ = some (.int .i64 x2) := HS.out.now.1.cell 3; have p4 : wq.cell? ⟨w4.heap.size, 4, none⟩ = some (.int .i64 x3) := HS.out.now.1.cell 4; have p5 : wq.cell? ⟨w4.heap.size, 5, none⟩ = some (.string s) := HS.out.now.1.cell 5; clear e1 _t))
  go_ret
  exact ⟨rfl, (HS.out.step (by repeat (first | exact Below.refl _ _ | apply below_alloc | apply pw_below_drewN | apply below_drew1 | apply bytes_step))).bel⟩
theorem EditMakes_said (A : Option Addr) (n c : Nat) (zs : List Int) (B : Option Addr) (m d : Nat) (ys : List Int) (W : World) (h : IsRow .u8 W A n c zs) (hsz : n * 1 ≤ 140737488351232) (g : IsRow .u8 W B m d ys) (gsz : m * 1 ≤ 140737488351232) :
    Calls Try.prog 5 #[.slice A n c, .slice B m d] W fun e W' => e = .returned (.bool true) ∧ Below W.heap.size W W' := by
  have hn : A = none → c = 0 := fun e => by
    subst e
    rcases h with ⟨_, _, h, _⟩ | ⟨x, h, _⟩
    · exact h
    · cases h
  obtain ⟨a, rfl, hc, hC, hw⟩ := h.reads
  obtain ⟨b, rfl, hd, hD, hv⟩ := g.reads
  have hA : Bytes a := fun x hx => byte_wf (hw x hx)
  have hB : Bytes b := fun x hx => byte_wf (hv x hx)
  by_cases ha : (chk a).2 = 0 ∧ a.length ≤ 1000
  · by_cases hb : (chk b).2 = 0 ∧ b.length ≤ 1000
    · exact EditMakes_ok A B c d a b W hC hc hD hd hn hA hB ha hb
    · exact EditMakes_no2 A B c d a b W hC hc hD hd hn hA hB (by omega) ha hb
  · exact EditMakes_no1 A B c d a b W hC hc hD hd hn hA hB (by omega) ha
end Go.Proofs.Ytjebkpcekkkbkaa.B

/-
  EditBack, walked.
-/
namespace Go.Proofs.Ytjebkpcekkkbkaa.B
open Go.RowKit Go.Shelf Go.Proofs Go.Proofs.YtjebkpcekkkbkaaW.PrintWords Go.Proofs.YtjebkpcekkkbkaaW.PrintLast Go.Proofs.YtjebkpcekkkbkaaW.PrintMore Go.Proofs.Ytjebkpcekkkbkaa.FBase
set_option linter.unusedVariables false
set_option linter.unusedSimpArgs false

/-- What Back gives takes the edit back. -/
theorem Back_undoes (A : Option Addr) (c : Nat) (l : List Int) (wh : Bool) (x0 x1 x2 x3 : Int) (s : ByteArray) (w : World) (hr : Kd.C (Kd.int .u8) w A l.length l) (hc : l.length ≤ c) (hn : A = none → c = 0) (hB : Bytes l) (hx1 : x1 ≤ 9223372036854775807) (hx3 : x3 ≤ 9223372036854775807) (hs : l.length ≤ 1048576) (hs2 : s.size ≤ 140737488351232) (hl8 : l.length ≤ 8192) (her : (ech l (bytesOf s) wh x0 x1 x2 x3).2.2.2 = 0) :
    Calls Try.prog 24 #[.slice A l.length c, .agg #[.bool wh, .int .i64 x0, .int .i64 x1, .int .i64 x2, .int .i64 x3, .string s]] w fun e w' => (∃ (wb : Bool) (y0 y1 y2 y3 : Int) (sb : ByteArray), e = .returned (.tuple #[.agg #[.bool wb, .int .i64 y0, .int .i64 y1, .int .i64 y2, .int .i64 y3, .string sb], .int .i64 0]) ∧
      sb.size ≤ 140737488351232 ∧ y1 ≤ 9223372036854775807 ∧ y3 ≤ 9223372036854775807 ∧ (ech (ech l (bytesOf s) wh x0 x1 x2 x3).2.2.1 (bytesOf sb) wb y0 y1 y2 y3).2.2.1 = l ∧ (ech (ech l (bytesOf s) wh x0 x1 x2 x3).2.2.1 (bytesOf sb) wb y0 y1 y2 y3).2.2.2 = 0) ∧ Below w.heap.size w w' := by
  obtain ⟨hv, ht, hx, hxB, hxn, e3, e4, e5, e6⟩ := ech_V hB (bytesOf_B s) wh x0 x1 x2 x3 her
  have hbs : bytesOf (strOfNums l) = l := bytesOf_str l hB
  have hz : (strOfNums l).size ≤ 140737488351232 := by rw [← bytesOf_length, hbs]; omega
  have o := whole_law hxB hB hx hv hl8 0 0 0 0
  have whole : ∀ (e : Ending) (w' : World), e = .returned (.tuple #[.agg #[.bool true, .int .i64 0, .int .i64 0, .int .i64 0, .int .i64 0, .string (strOfNums l)], .int .i64 0]) ∧ Below w.heap.size w w' →
      (∃ (wb : Bool) (y0 y1 y2 y3 : Int) (sb : ByteArray), e = .returned (.tuple #[.agg #[.bool wb, .int .i64 y0, .int .i64 y1, .int .i64 y2, .int .i64 y3, .string sb], .int .i64 0]) ∧
      sb.size ≤ 140737488351232 ∧ y1 ≤ 9223372036854775807 ∧ y3 ≤ 9223372036854775807 ∧ (ech (ech l (bytesOf s) wh x0 x1 x2 x3).2.2.1 (bytesOf sb) wb y0 y1 y2 y3).2.2.1 = l ∧ (ech (ech l (bytesOf s) wh x0 x1 x2 x3).2.2.1 (bytesOf sb) wb y0 y1 y2 y3).2.2.2 = 0) ∧ Below w.heap.size w w' := by
    rintro e w' ⟨rfl, hb⟩
    refine ⟨⟨_, _, _, _, _, _, rfl, hz, by omega, by omega, ?_, ?_⟩, hb⟩
    · rw [hbs]; exact congrArg Prod.fst o
    · rw [hbs]; exact congrArg Prod.snd o
  cases hw : wh with
  | true =>
    subst hw
    exact (Back_whole A c l true x0 x1 x2 x3 s w hr hc hn hB hs hs2 hx1 hx3 rfl her).mono whole
  | false =>
    subst hw
    by_cases hp : isPb (ech l (bytesOf s) false x0 x1 x2 x3).2.2.1 (ech l (bytesOf s) false x0 x1 x2 x3).1 = false ∨ isPb (ech l (bytesOf s) false x0 x1 x2 x3).2.2.1 ((ech l (bytesOf s) false x0 x1 x2 x3).1 + s.size) = false
    · exact (Back_all A c l false x0 x1 x2 x3 s w hr hc hn hB hs hs2 hx1 hx3 rfl her hp).mono whole
    · have p1 : isPb (ech l (bytesOf s) false x0 x1 x2 x3).2.2.1 (ech l (bytesOf s) false x0 x1 x2 x3).1 = true := eq_true_of_ne_false (fun h => hp (.inl h))
      have p2 : isPb (ech l (bytesOf s) false x0 x1 x2 x3).2.2.1 ((ech l (bytesOf s) false x0 x1 x2 x3).1 + s.size) = true := eq_true_of_ne_false (fun h => hp (.inr h))
      refine (Back_ok A c l false x0 x1 x2 x3 s w hr hc hn hB hs hs2 hx1 hx3 rfl her p1 p2).mono ?_
      rintro e w' ⟨rfl, hb⟩
      have q1 := (isPb_iff _ _).1 p1
      have q2 := (isPb_iff _ _).1 p2
      have g1 := pch_range _ hxB hx (ech l (bytesOf s) false x0 x1 x2 x3).1
      have g2 := pch_range _ hxB hx ((ech l (bytesOf s) false x0 x1 x2 x3).1 + s.size)
      have hsg : Bytes ((l.take (ech l (bytesOf s) false x0 x1 x2 x3).2.1.toNat).drop (ech l (bytesOf s) false x0 x1 x2 x3).1.toNat) := (hB.take _).drop _
      have hbg := bytesOf_str _ hsg
      have o := back_law hB (bytesOf_B s) hl8 her (Int.natCast_nonneg (fnd (ech l (bytesOf s) false x0 x1 x2 x3).2.2.1 (ech l (bytesOf s) false x0 x1 x2 x3).1)) g1.1 (Int.natCast_nonneg (fnd (ech l (bytesOf s) false x0 x1 x2 x3).2.2.1 ((ech l (bytesOf s) false x0 x1 x2 x3).1 + s.size))) g2.1 (q1.trans e4) (q2.trans (by rw [e4, bytesOf_length]))
      refine ⟨⟨_, _, _, _, _, _, rfl, ?_, by omega, by omega, ?_, ?_⟩, hb⟩
      · rw [← bytesOf_length, hbg, List.length_drop, List.length_take]
        omega
      · rw [hbg, e5, e4]
        rw [e4] at o
        exact congrArg Prod.fst o
      · rw [hbg, e5, e4]
        rw [e4] at o
        exact congrArg Prod.snd o

set_option maxRecDepth 100000 in
set_option maxHeartbeats 8000000 in
theorem EditBack_no (A : Option Addr) (c : Nat) (l : List Int) (wh : Bool) (x0 x1 x2 x3 : Int) (s : ByteArray) (w : World) (hr : Kd.C (Kd.int .u8) w A l.length l) (hc : l.length ≤ c) (hn : A = none → c = 0) (hB : Bytes l) (hx1 : x1 ≤ 9223372036854775807) (hx3 : x3 ≤ 9223372036854775807) (hs : l.length ≤ 140737488351232) (h : ¬ ((chk l).2 = 0 ∧ l.length ≤ 1000)) :
    Calls Try.prog 4 #[.slice A l.length c, .agg #[.bool wh, .int .i64 x0, .int .i64 x1, .int .i64 x2, .int .i64 x3, .string s]] w fun e w' => e = .returned (.bool true) ∧ Below w.heap.size w w' := by
  have hb1 := below_alloc (Below.refl _ w) (.cells #[.bool wh, .int .i64 x0, .int .i64 x1, .int .i64 x2, .int .i64 x3, .string s] 29)
  have HS : Aside0 (Sta w (w.alloc (.cells #[.bool wh, .int .i64 x0, .int .i64 x1, .int .i64 x2, .int .i64 x3, .string s] 29)) (fun W => IsBlk W w.heap.size (.cells #[.bool wh, .int .i64 x0, .int .i64 x1, .int .i64 x2, .int .i64 x3, .string s] 29) ∧ Kd.C (Kd.int .u8) W A l.length l)) := ⟨⟨hb1, ⟨blk_new w _, Kd.C_below hr hb1⟩, keeps_and (keeps_blk _ _) (keeps_C _ _ _ _)⟩⟩
  have HCl := Aside0.mk hc
  have c0 : (w.alloc (.cells #[.bool wh, .int .i64 x0, .int .i64 x1, .int .i64 x2, .int .i64 x3, .string s] 29)).cell? ⟨w.heap.size, 0, none⟩ = some (.bool wh) := HS.out.now.1.cell 0
  have c0a := cell_alloc1 c0
  have c1 : (w.alloc (.cells #[.bool wh, .int .i64 x0, .int .i64 x1, .int .i64 x2, .int .i64 x3, .string s] 29)).cell? ⟨w.heap.size, 1, none⟩ = some (.int .i64 x0) := HS.out.now.1.cell 1
  have c1a := cell_alloc1 c1
  have c2 : (w.alloc (.cells #[.bool wh, .int .i64 x0, .int .i64 x1, .int .i64 x2, .int .i64 x3, .string s] 29)).cell? ⟨w.heap.size, 2, none⟩ = some (.int .i64 x1) := HS.out.now.1.cell 2
  have c2a := cell_alloc1 c2
  have c3 : (w.alloc (.cells #[.bool wh, .int .i64 x0, .int .i64 x1, .int .i64 x2, .int .i64 x3, .string s] 29)).cell? ⟨w.heap.size, 3, none⟩ = some (.int .i64 x2) := HS.out.now.1.cell 3
  have c3a := cell_alloc1 c3
  have c4 : (w.alloc (.cells #[.bool wh, .int .i64 x0, .int .i64 x1, .int .i64 x2, .int .i64 x3, .string s] 29)).cell? ⟨w.heap.size, 4, none⟩ = some (.int .i64 x3) := HS.out.now.1.cell 4
  have c4a := cell_alloc1 c4
  have c5 : (w.alloc (.cells #[.bool wh, .int .i64 x0, .int .i64 x1, .int .i64 x2, .int .i64 x3, .string s] 29)).cell? ⟨w.heap.size, 5, none⟩ = some (.string s) := HS.out.now.1.cell 5
  have c5a := cell_alloc1 c5
  have HT := Aside0.mk (text_no l hB hs h)
  clear hr hc h hB
  go_enter Try.func4, Try.ntmps4
  go_wp2_with (first | (go_at_call 21; refine (works15_ok _).mono ?_; rintro e w1 ⟨rfl, hb⟩; have m_ := Aside0.mk (HS.out.call (by repeat (first | exact Below.refl _ _ | apply below_alloc | apply pw_below_drewN | apply below_drew1 | apply bytes_step)) hb); clear HS hb ; have HS := m_; clear m_; have c0 : w1.cell? ⟨w.heap.size, 0, none⟩ = some (.bool wh) := HS.out.now.1.cell 0; have c0a := cell_alloc1 c0; have c1 : w1.cell? ⟨w.heap.size, 1, none⟩ = some (.int .i64 x0) := HS.out.now.1.cell 1; have c1a := cell_alloc1 c1; have c2 : w1.cell? ⟨w.heap.size, 2, none⟩ = some (.int .i64 x1) := HS.out.now.1.cell 2; have c2a := cell_alloc1 c2; have c3 : w1.cell? ⟨w.heap.size, 3, none⟩ = some (.int .i64 x2) := HS.out.now.1.cell 3; have c3a := cell_alloc1 c3; have c4 : w1.cell? ⟨w.heap.size, 4, none⟩ = some (.int .i64 x3) := HS.out.now.1.cell 4; have c4a := cell_alloc1 c4; have c5 : w1.cell? ⟨w.heap.size, 5, none⟩ = some (.string s) := HS.out.now.1.cell 5; have c5a := cell_alloc1 c5) | (go_at_call 22; refine (colophonlaw15_text.calls _ A c l _ _ (HS.out.step (by repeat (first | exact Below.refl _ _ | apply below_alloc | apply pw_below_drewN | apply below_drew1 | apply bytes_step))).now.2 HCl.out HT.out).mono ?_; rintro e w2 ⟨rfl, hd⟩; have hb := hd.below; clear hd; have m_ := Aside0.mk (HS.out.call (by repeat (first | exact Below.refl _ _ | apply below_alloc | apply pw_below_drewN | apply below_drew1 | apply bytes_step)) hb); clear HS hb ; have HS := m_; clear m_; have c0 : w2.cell? ⟨w.heap.size, 0, none⟩ = some (.bool wh) := HS.out.now.1.cell 0; have c0a := cell_alloc1 c0; have c1 : w2.cell? ⟨w.heap.size, 1, none⟩ = some (.int .i64 x0) := HS.out.now.1.cell 1; have c1a := cell_alloc1 c1; have c2 : w2.cell? ⟨w.heap.size, 2, none⟩ = some (.int .i64 x1) := HS.out.now.1.cell 2; have c2a := cell_alloc1 c2; have c3 : w2.cell? ⟨w.heap.size, 3, none⟩ = some (.int .i64 x2) := HS.out.now.1.cell 3; have c3a := cell_alloc1 c3; have c4 : w2.cell? ⟨w.heap.size, 4, none⟩ = some (.int .i64 x3) := HS.out.now.1.cell 4; have c4a := cell_alloc1 c4; have c5 : w2.cell? ⟨w.heap.size, 5, none⟩ = some (.string s) := HS.out.now.1.cell 5; have c5a := cell_alloc1 c5))
  go_ret
  exact ⟨rfl, (HS.out.step (by repeat (first | exact Below.refl _ _ | apply below_alloc | apply pw_below_drewN | apply below_drew1 | apply bytes_step))).bel⟩
set_option maxRecDepth 100000 in
set_option maxHeartbeats 8000000 in
theorem EditBack_long (A : Option Addr) (c : Nat) (l : List Int) (wh : Bool) (x0 x1 x2 x3 : Int) (s : ByteArray) (w : World) (hr : Kd.C (Kd.int .u8) w A l.length l) (hc : l.length ≤ c) (hn : A = none → c = 0) (hB : Bytes l) (hx1 : x1 ≤ 9223372036854775807) (hx3 : x3 ≤ 9223372036854775807) (hv : (chk l).2 = 0 ∧ l.length ≤ 1000) (hs2 : 1000 < s.size) (hs3 : s.size ≤ maxLen) :
    Calls Try.prog 4 #[.slice A l.length c, .agg #[.bool wh, .int .i64 x0, .int .i64 x1, .int .i64 x2, .int .i64 x3, .string s]] w fun e w' => e = .returned (.bool true) ∧ Below w.heap.size w w' := by
  have hb1 := below_alloc (Below.refl _ w) (.cells #[.bool wh, .int .i64 x0, .int .i64 x1, .int .i64 x2, .int .i64 x3, .string s] 29)
  have HS : Aside0 (Sta w (w.alloc (.cells #[.bool wh, .int .i64 x0, .int .i64 x1, .int .i64 x2, .int .i64 x3, .string s] 29)) (fun W => IsBlk W w.heap.size (.cells #[.bool wh, .int .i64 x0, .int .i64 x1, .int .i64 x2, .int .i64 x3, .string s] 29) ∧ Kd.C (Kd.int .u8) W A l.length l)) := ⟨⟨hb1, ⟨blk_new w _, Kd.C_below hr hb1⟩, keeps_and (keeps_blk _ _) (keeps_C _ _ _ _)⟩⟩
  have HCl := Aside0.mk hc
  have c0 : (w.alloc (.cells #[.bool wh, .int .i64 x0, .int .i64 x1, .int .i64 x2, .int .i64 x3, .string s] 29)).cell? ⟨w.heap.size, 0, none⟩ = some (.bool wh) := HS.out.now.1.cell 0
  have c0a := cell_alloc1 c0
  have c1 : (w.alloc (.cells #[.bool wh, .int .i64 x0, .int .i64 x1, .int .i64 x2, .int .i64 x3, .string s] 29)).cell? ⟨w.heap.size, 1, none⟩ = some (.int .i64 x0) := HS.out.now.1.cell 1
  have c1a := cell_alloc1 c1
  have c2 : (w.alloc (.cells #[.bool wh, .int .i64 x0, .int .i64 x1, .int .i64 x2, .int .i64 x3, .string s] 29)).cell? ⟨w.heap.size, 2, none⟩ = some (.int .i64 x1) := HS.out.now.1.cell 2
  have c2a := cell_alloc1 c2
  have c3 : (w.alloc (.cells #[.bool wh, .int .i64 x0, .int .i64 x1, .int .i64 x2, .int .i64 x3, .string s] 29)).cell? ⟨w.heap.size, 3, none⟩ = some (.int .i64 x2) := HS.out.now.1.cell 3
  have c3a := cell_alloc1 c3
  have c4 : (w.alloc (.cells #[.bool wh, .int .i64 x0, .int .i64 x1, .int .i64 x2, .int .i64 x3, .string s] 29)).cell? ⟨w.heap.size, 4, none⟩ = some (.int .i64 x3) := HS.out.now.1.cell 4
  have c4a := cell_alloc1 c4
  have c5 : (w.alloc (.cells #[.bool wh, .int .i64 x0, .int .i64 x1, .int .i64 x2, .int .i64 x3, .string s] 29)).cell? ⟨w.heap.size, 5, none⟩ = some (.string s) := HS.out.now.1.cell 5
  have c5a := cell_alloc1 c5
  have HT := Aside0.mk (text_yes l hB hv.1 hv.2)
  clear hr hc hv hB
  have g9 : decide (1000 < s.size) = true := decide_eq_true hs2
  have g8 : decide ((1000 : Int) < (s.size : Int)) = true := decide_eq_true (by omega)
  go_enter Try.func4, Try.ntmps4
  go_wp2_with (first | (go_at_call 21; refine (works15_ok _).mono ?_; rintro e w1 ⟨rfl, hb⟩; have m_ := Aside0.mk (HS.out.call (by repeat (first | exact Below.refl _ _ | apply below_alloc | apply pw_below_drewN | apply below_drew1 | apply bytes_step)) hb); clear HS hb ; have HS := m_; clear m_; have c0 : w1.cell? ⟨w.heap.size, 0, none⟩ = some (.bool wh) := HS.out.now.1.cell 0; have c0a := cell_alloc1 c0; have c1 : w1.cell? ⟨w.heap.size, 1, none⟩ = some (.int .i64 x0) := HS.out.now.1.cell 1; have c1a := cell_alloc1 c1; have c2 : w1.cell? ⟨w.heap.size, 2, none⟩ = some (.int .i64 x1) := HS.out.now.1.cell 2; have c2a := cell_alloc1 c2; have c3 : w1.cell? ⟨w.heap.size, 3, none⟩ = some (.int .i64 x2) := HS.out.now.1.cell 3; have c3a := cell_alloc1 c3; have c4 : w1.cell? ⟨w.heap.size, 4, none⟩ = some (.int .i64 x3) := HS.out.now.1.cell 4; have c4a := cell_alloc1 c4; have c5 : w1.cell? ⟨w.heap.size, 5, none⟩ = some (.string s) := HS.out.now.1.cell 5; have c5a := cell_alloc1 c5) | (go_at_call 22; refine (colophonlaw15_text.calls _ A c l _ _ (HS.out.step (by repeat (first | exact Below.refl _ _ | apply below_alloc | apply pw_below_drewN | apply below_drew1 | apply bytes_step))).now.2 HCl.out HT.out).mono ?_; rintro e w2 ⟨rfl, hd⟩; have hb := hd.below; clear hd; have m_ := Aside0.mk (HS.out.call (by repeat (first | exact Below.refl _ _ | apply below_alloc | apply pw_below_drewN | apply below_drew1 | apply bytes_step)) hb); clear HS hb ; have HS := m_; clear m_; have c0 : w2.cell? ⟨w.heap.size, 0, none⟩ = some (.bool wh) := HS.out.now.1.cell 0; have c0a := cell_alloc1 c0; have c1 : w2.cell? ⟨w.heap.size, 1, none⟩ = some (.int .i64 x0) := HS.out.now.1.cell 1; have c1a := cell_alloc1 c1; have c2 : w2.cell? ⟨w.heap.size, 2, none⟩ = some (.int .i64 x1) := HS.out.now.1.cell 2; have c2a := cell_alloc1 c2; have c3 : w2.cell? ⟨w.heap.size, 3, none⟩ = some (.int .i64 x2) := HS.out.now.1.cell 3; have c3a := cell_alloc1 c3; have c4 : w2.cell? ⟨w.heap.size, 4, none⟩ = some (.int .i64 x3) := HS.out.now.1.cell 4; have c4a := cell_alloc1 c4; have c5 : w2.cell? ⟨w.heap.size, 5, none⟩ = some (.string s) := HS.out.now.1.cell 5; have c5a := cell_alloc1 c5))
  go_ret
  exact ⟨rfl, (HS.out.step (by repeat (first | exact Below.refl _ _ | apply below_alloc | apply pw_below_drewN | apply below_drew1 | apply bytes_step))).bel⟩
set_option maxRecDepth 100000 in
set_option maxHeartbeats 8000000 in
theorem EditBack_err (A : Option Addr) (c : Nat) (l : List Int) (wh : Bool) (x0 x1 x2 x3 : Int) (s : ByteArray) (w : World) (hr : Kd.C (Kd.int .u8) w A l.length l) (hc : l.length ≤ c) (hn : A = none → c = 0) (hB : Bytes l) (hx1 : x1 ≤ 9223372036854775807) (hx3 : x3 ≤ 9223372036854775807) (hv : (chk l).2 = 0 ∧ l.length ≤ 1000) (hs2 : s.size ≤ 1000) (hz : (ech l (bytesOf s) wh x0 x1 x2 x3).2.2.2 ≠ 0) :
    Calls Try.prog 4 #[.slice A l.length c, .agg #[.bool wh, .int .i64 x0, .int .i64 x1, .int .i64 x2, .int .i64 x3, .string s]] w fun e w' => e = .returned (.bool true) ∧ Below w.heap.size w w' := by
  have hb1 := below_alloc (Below.refl _ w) (.cells #[.bool wh, .int .i64 x0, .int .i64 x1, .int .i64 x2, .int .i64 x3, .string s] 29)
  have HS : Aside0 (Sta w (w.alloc (.cells #[.bool wh, .int .i64 x0, .int .i64 x1, .int .i64 x2, .int .i64 x3, .string s] 29)) (fun W => IsBlk W w.heap.size (.cells #[.bool wh, .int .i64 x0, .int .i64 x1, .int .i64 x2, .int .i64 x3, .string s] 29) ∧ Kd.C (Kd.int .u8) W A l.length l)) := ⟨⟨hb1, ⟨blk_new w _, Kd.C_below hr hb1⟩, keeps_and (keeps_blk _ _) (keeps_C _ _ _ _)⟩⟩
  have HCl := Aside0.mk hc
  have c0 : (w.alloc (.cells #[.bool wh, .int .i64 x0, .int .i64 x1, .int .i64 x2, .int .i64 x3, .string s] 29)).cell? ⟨w.heap.size, 0, none⟩ = some (.bool wh) := HS.out.now.1.cell 0
  have c0a := cell_alloc1 c0
  have c1 : (w.alloc (.cells #[.bool wh, .int .i64 x0, .int .i64 x1, .int .i64 x2, .int .i64 x3, .string s] 29)).cell? ⟨w.heap.size, 1, none⟩ = some (.int .i64 x0) := HS.out.now.1.cell 1
  have c1a := cell_alloc1 c1
  have c2 : (w.alloc (.cells #[.bool wh, .int .i64 x0, .int .i64 x1, .int .i64 x2, .int .i64 x3, .string s] 29)).cell? ⟨w.heap.size, 2, none⟩ = some (.int .i64 x1) := HS.out.now.1.cell 2
  have c2a := cell_alloc1 c2
  have c3 : (w.alloc (.cells #[.bool wh, .int .i64 x0, .int .i64 x1, .int .i64 x2, .int .i64 x3, .string s] 29)).cell? ⟨w.heap.size, 3, none⟩ = some (.int .i64 x2) := HS.out.now.1.cell 3
  have c3a := cell_alloc1 c3
  have c4 : (w.alloc (.cells #[.bool wh, .int .i64 x0, .int .i64 x1, .int .i64 x2, .int .i64 x3, .string s] 29)).cell? ⟨w.heap.size, 4, none⟩ = some (.int .i64 x3) := HS.out.now.1.cell 4
  have c4a := cell_alloc1 c4
  have c5 : (w.alloc (.cells #[.bool wh, .int .i64 x0, .int .i64 x1, .int .i64 x2, .int .i64 x3, .string s] 29)).cell? ⟨w.heap.size, 5, none⟩ = some (.string s) := HS.out.now.1.cell 5
  have c5a := cell_alloc1 c5
  have HT := Aside0.mk (text_yes l hB hv.1 hv.2)
  have HBY := Aside0.mk hB
  have hs6 : l.length ≤ 1048576 := by omega
  have hs7 : s.size ≤ 140737488351232 := by omega
  have hz2 := hz
  have eo := (ech_err l (bytesOf s) wh x0 x1 x2 x3 hz).2.2
  have HNZ := Aside0.mk hz
  obtain ⟨er, hee⟩ : ∃ a, (ech l (bytesOf s) wh x0 x1 x2 x3).2.2.2 = a := ⟨_, rfl⟩
  rw [hee] at hz2
  have HEE := Aside0.mk hee
  have HEO := Aside0.mk eo
  have g9 : decide (1000 < s.size) = false := decide_eq_false (by omega)
  have g8 : decide ((1000 : Int) < (s.size : Int)) = false := decide_eq_false (by omega)
  have g7 : (er != 0) = true := bne_iff_ne.mpr hz2
  have t1 := True.intro
  clear hr hc hv hB hz hee eo
  go_enter Try.func4, Try.ntmps4
  go_wp2_with (first | (go_at_call 21; refine (works15_ok _).mono ?_; rintro e w1 ⟨rfl, hb⟩; have m_ := Aside0.mk (HS.out.call (by repeat (first | exact Below.refl _ _ | apply below_alloc | apply pw_below_drewN | apply below_drew1 | apply bytes_step)) hb); clear HS hb ; have HS := m_; clear m_; have c0 : w1.cell? ⟨w.heap.size, 0, none⟩ = some (.bool wh) := HS.out.now.1.cell 0; have c0a := cell_alloc1 c0; have c1 : w1.cell? ⟨w.heap.size, 1, none⟩ = some (.int .i64 x0) := HS.out.now.1.cell 1; have c1a := cell_alloc1 c1; have c2 : w1.cell? ⟨w.heap.size, 2, none⟩ = some (.int .i64 x1) := HS.out.now.1.cell 2; have c2a := cell_alloc1 c2; have c3 : w1.cell? ⟨w.heap.size, 3, none⟩ = some (.int .i64 x2) := HS.out.now.1.cell 3; have c3a := cell_alloc1 c3; have c4 : w1.cell? ⟨w.heap.size, 4, none⟩ = some (.int .i64 x3) := HS.out.now.1.cell 4; have c4a := cell_alloc1 c4; have c5 : w1.cell? ⟨w.heap.size, 5, none⟩ = some (.string s) := HS.out.now.1.cell 5; have c5a := cell_alloc1 c5) | (go_at_call 22; refine (colophonlaw15_text.calls _ A c l _ _ (HS.out.step (by repeat (first | exact Below.refl _ _ | apply below_alloc | apply pw_below_drewN | apply below_drew1 | apply bytes_step))).now.2 HCl.out HT.out).mono ?_; rintro e w2 ⟨rfl, hd⟩; have hb := hd.below; clear hd; have m_ := Aside0.mk (HS.out.call (by repeat (first | exact Below.refl _ _ | apply below_alloc | apply pw_below_drewN | apply below_drew1 | apply bytes_step)) hb); clear HS hb ; have HS := m_; clear m_; have c0 : w2.cell? ⟨w.heap.size, 0, none⟩ = some (.bool wh) := HS.out.now.1.cell 0; have c0a := cell_alloc1 c0; have c1 : w2.cell? ⟨w.heap.size, 1, none⟩ = some (.int .i64 x0) := HS.out.now.1.cell 1; have c1a := cell_alloc1 c1; have c2 : w2.cell? ⟨w.heap.size, 2, none⟩ = some (.int .i64 x1) := HS.out.now.1.cell 2; have c2a := cell_alloc1 c2; have c3 : w2.cell? ⟨w.heap.size, 3, none⟩ = some (.int .i64 x2) := HS.out.now.1.cell 3; have c3a := cell_alloc1 c3; have c4 : w2.cell? ⟨w.heap.size, 4, none⟩ = some (.int .i64 x3) := HS.out.now.1.cell 4; have c4a := cell_alloc1 c4; have c5 : w2.cell? ⟨w.heap.size, 5, none⟩ = some (.string s) := HS.out.now.1.cell 5; have c5a := cell_alloc1 c5) | (have _t := t1; go_at_call 23; refine (One_is A c l wh x0 x1 x2 x3 s _ (HS.out.step (by repeat (first | exact Below.refl _ _ | apply below_alloc | apply pw_below_drewN | apply below_drew1 | apply bytes_step))).now.2 HCl.out hn HBY.out hs6 hs7 hx1 hx3).mono ?_; rintro e w3 ⟨v, rfl, hR, hb⟩; rw [HEE.out] ; rw [HEO.out] at hR; obtain ⟨A2, k2, rfl, hl2, hn2, hC2⟩ := Ap.read (.inr hR); have HLA2 := Aside0.mk hl2; have HNA2 := Aside0.mk hn2; clear hR hl2 hn2; have m_ := Aside0.mk ((HS.out.call (by repeat (first | exact Below.refl _ _ | apply below_alloc | apply pw_below_drewN | apply below_drew1 | apply bytes_step)) hb).add hC2 (keeps_C _ _ _ _)); clear HS hb hC2; have HS := m_; clear m_; have c0 : w3.cell? ⟨w.heap.size, 0, none⟩ = some (.bool wh) := HS.out.now.2.1.cell 0; have c0a := cell_alloc1 c0; have c1 : w3.cell? ⟨w.heap.size, 1, none⟩ = some (.int .i64 x0) := HS.out.now.2.1.cell 1; have c1a := cell_alloc1 c1; have c2 : w3.cell? ⟨w.heap.size, 2, none⟩ = some (.int .i64 x1) := HS.out.now.2.1.cell 2; have c2a := cell_alloc1 c2; have c3 : w3.cell? ⟨w.heap.size, 3, none⟩ = some (.int .i64 x2) := HS.out.now.2.1.cell 3; have c3a := cell_alloc1 c3; have c4 : w3.cell? ⟨w.heap.size, 4, none⟩ = some (.int .i64 x3) := HS.out.now.2.1.cell 4; have c4a := cell_alloc1 c4; have c5 : w3.cell? ⟨w.heap.size, 5, none⟩ = some (.string s) := HS.out.now.2.1.cell 5; have c5a := cell_alloc1 c5; clear t1 _t) | (go_at_call 24; refine (Back_err A c l wh x0 x1 x2 x3 s _ (HS.out.step (by repeat (first | exact Below.refl _ _ | apply below_alloc | apply pw_below_drewN | apply below_drew1 | apply bytes_step))).now.2.2 HCl.out hn HBY.out hs6 hs7 hx1 hx3 HNZ.out).mono ?_; rintro e w4 ⟨rfl, hb⟩; rw [HEE.out]; have m_ := Aside0.mk (HS.out.call (by repeat (first | exact Below.refl _ _ | apply below_alloc | apply pw_below_drewN | apply below_drew1 | apply bytes_step)) hb); clear HS hb ; have HS := m_; clear m_))
  go_ret
  exact ⟨rfl, (HS.out.step (by repeat (first | exact Below.refl _ _ | apply below_alloc | apply pw_below_drewN | apply below_drew1 | apply bytes_step))).bel⟩
set_option maxRecDepth 100000 in
set_option maxHeartbeats 8000000 in
theorem EditBack_ok (A : Option Addr) (c : Nat) (l : List Int) (wh : Bool) (x0 x1 x2 x3 : Int) (s : ByteArray) (w : World) (hr : Kd.C (Kd.int .u8) w A l.length l) (hc : l.length ≤ c) (hn : A = none → c = 0) (hB : Bytes l) (hx1 : x1 ≤ 9223372036854775807) (hx3 : x3 ≤ 9223372036854775807) (hv : (chk l).2 = 0 ∧ l.length ≤ 1000) (hs2 : s.size ≤ 1000) (hz : (ech l (bytesOf s) wh x0 x1 x2 x3).2.2.2 = 0) :
    Calls Try.prog 4 #[.slice A l.length c, .agg #[.bool wh, .int .i64 x0, .int .i64 x1, .int .i64 x2, .int .i64 x3, .string s]] w fun e w' => e = .returned (.bool true) ∧ Below w.heap.size w w' := by
  have hb1 := below_alloc (Below.refl _ w) (.cells #[.bool wh, .int .i64 x0, .int .i64 x1, .int .i64 x2, .int .i64 x3, .string s] 29)
  have HS : Aside0 (Sta w (w.alloc (.cells #[.bool wh, .int .i64 x0, .int .i64 x1, .int .i64 x2, .int .i64 x3, .string s] 29)) (fun W => IsBlk W w.heap.size (.cells #[.bool wh, .int .i64 x0, .int .i64 x1, .int .i64 x2, .int .i64 x3, .string s] 29) ∧ Kd.C (Kd.int .u8) W A l.length l)) := ⟨⟨hb1, ⟨blk_new w _, Kd.C_below hr hb1⟩, keeps_and (keeps_blk _ _) (keeps_C _ _ _ _)⟩⟩
  have HCl := Aside0.mk hc
  have c0 : (w.alloc (.cells #[.bool wh, .int .i64 x0, .int .i64 x1, .int .i64 x2, .int .i64 x3, .string s] 29)).cell? ⟨w.heap.size, 0, none⟩ = some (.bool wh) := HS.out.now.1.cell 0
  have c0a := cell_alloc1 c0
  have c1 : (w.alloc (.cells #[.bool wh, .int .i64 x0, .int .i64 x1, .int .i64 x2, .int .i64 x3, .string s] 29)).cell? ⟨w.heap.size, 1, none⟩ = some (.int .i64 x0) := HS.out.now.1.cell 1
  have c1a := cell_alloc1 c1
  have c2 : (w.alloc (.cells #[.bool wh, .int .i64 x0, .int .i64 x1, .int .i64 x2, .int .i64 x3, .string s] 29)).cell? ⟨w.heap.size, 2, none⟩ = some (.int .i64 x1) := HS.out.now.1.cell 2
  have c2a := cell_alloc1 c2
  have c3 : (w.alloc (.cells #[.bool wh, .int .i64 x0, .int .i64 x1, .int .i64 x2, .int .i64 x3, .string s] 29)).cell? ⟨w.heap.size, 3, none⟩ = some (.int .i64 x2) := HS.out.now.1.cell 3
  have c3a := cell_alloc1 c3
  have c4 : (w.alloc (.cells #[.bool wh, .int .i64 x0, .int .i64 x1, .int .i64 x2, .int .i64 x3, .string s] 29)).cell? ⟨w.heap.size, 4, none⟩ = some (.int .i64 x3) := HS.out.now.1.cell 4
  have c4a := cell_alloc1 c4
  have c5 : (w.alloc (.cells #[.bool wh, .int .i64 x0, .int .i64 x1, .int .i64 x2, .int .i64 x3, .string s] 29)).cell? ⟨w.heap.size, 5, none⟩ = some (.string s) := HS.out.now.1.cell 5
  have c5a := cell_alloc1 c5
  have HT := Aside0.mk (text_yes l hB hv.1 hv.2)
  have HBY := Aside0.mk hB
  have hs6 : l.length ≤ 1048576 := by omega
  have hl8 : l.length ≤ 8192 := by omega
  have hs7 : s.size ≤ 140737488351232 := by omega
  have HEE := Aside0.mk hz
  have HEZ := Aside0.mk hz
  have HEQ := Aside0.mk (eq_f l (by omega))
  obtain ⟨-, -, -, hxB, hxn, -⟩ := ech_V hB (bytesOf_B s) wh x0 x1 x2 x3 hz
  obtain ⟨out, heo⟩ : ∃ a, (ech l (bytesOf s) wh x0 x1 x2 x3).2.2.1 = a := ⟨_, rfl⟩
  rw [heo] at hxB hxn
  have HEO := Aside0.mk heo
  have HOB := Aside0.mk hxB
  have hs8 : out.length ≤ 1048576 := by omega
  have g9 : decide (1000 < s.size) = false := decide_eq_false (by omega)
  have g8 : decide ((1000 : Int) < (s.size : Int)) = false := decide_eq_false (by omega)
  have t1 := True.intro
  have t2 := True.intro
  clear hr hc hv hB hz heo hxB
  go_enter Try.func4, Try.ntmps4
  go_wp2_with (first | (go_at_call 21; refine (works15_ok _).mono ?_; rintro e w1 ⟨rfl, hb⟩; have m_ := Aside0.mk (HS.out.call (by repeat (first | exact Below.refl _ _ | apply below_alloc | apply pw_below_drewN | apply below_drew1 | apply bytes_step)) hb); clear HS hb ; have HS := m_; clear m_; have c0 : w1.cell? ⟨w.heap.size, 0, none⟩ = some (.bool wh) := HS.out.now.1.cell 0; have c0a := cell_alloc1 c0; have c1 : w1.cell? ⟨w.heap.size, 1, none⟩ = some (.int .i64 x0) := HS.out.now.1.cell 1; have c1a := cell_alloc1 c1; have c2 : w1.cell? ⟨w.heap.size, 2, none⟩ = some (.int .i64 x1) := HS.out.now.1.cell 2; have c2a := cell_alloc1 c2; have c3 : w1.cell? ⟨w.heap.size, 3, none⟩ = some (.int .i64 x2) := HS.out.now.1.cell 3; have c3a := cell_alloc1 c3; have c4 : w1.cell? ⟨w.heap.size, 4, none⟩ = some (.int .i64 x3) := HS.out.now.1.cell 4; have c4a := cell_alloc1 c4; have c5 : w1.cell? ⟨w.heap.size, 5, none⟩ = some (.string s) := HS.out.now.1.cell 5; have c5a := cell_alloc1 c5) | (go_at_call 22; refine (colophonlaw15_text.calls _ A c l _ _ (HS.out.step (by repeat (first | exact Below.refl _ _ | apply below_alloc | apply pw_below_drewN | apply below_drew1 | apply bytes_step))).now.2 HCl.out HT.out).mono ?_; rintro e w2 ⟨rfl, hd⟩; have hb := hd.below; clear hd; have m_ := Aside0.mk (HS.out.call (by repeat (first | exact Below.refl _ _ | apply below_alloc | apply pw_below_drewN | apply below_drew1 | apply bytes_step)) hb); clear HS hb ; have HS := m_; clear m_; have c0 : w2.cell? ⟨w.heap.size, 0, none⟩ = some (.bool wh) := HS.out.now.1.cell 0; have c0a := cell_alloc1 c0; have c1 : w2.cell? ⟨w.heap.size, 1, none⟩ = some (.int .i64 x0) := HS.out.now.1.cell 1; have c1a := cell_alloc1 c1; have c2 : w2.cell? ⟨w.heap.size, 2, none⟩ = some (.int .i64 x1) := HS.out.now.1.cell 2; have c2a := cell_alloc1 c2; have c3 : w2.cell? ⟨w.heap.size, 3, none⟩ = some (.int .i64 x2) := HS.out.now.1.cell 3; have c3a := cell_alloc1 c3; have c4 : w2.cell? ⟨w.heap.size, 4, none⟩ = some (.int .i64 x3) := HS.out.now.1.cell 4; have c4a := cell_alloc1 c4; have c5 : w2.cell? ⟨w.heap.size, 5, none⟩ = some (.string s) := HS.out.now.1.cell 5; have c5a := cell_alloc1 c5) | (have _t := t1; go_at_call 23; refine (One_is A c l wh x0 x1 x2 x3 s _ (HS.out.step (by repeat (first | exact Below.refl _ _ | apply below_alloc | apply pw_below_drewN | apply below_drew1 | apply bytes_step))).now.2 HCl.out hn HBY.out hs6 hs7 hx1 hx3).mono ?_; rintro e w3 ⟨v, rfl, hR, hb⟩; rw [HEE.out] ; rw [HEO.out] at hR; obtain ⟨A2, k2, rfl, hl2, hn2, hC2⟩ := Ap.read (.inr hR); have HLA2 := Aside0.mk hl2; have HNA2 := Aside0.mk hn2; clear hR hl2 hn2; have m_ := Aside0.mk ((HS.out.call (by repeat (first | exact Below.refl _ _ | apply below_alloc | apply pw_below_drewN | apply below_drew1 | apply bytes_step)) hb).add hC2 (keeps_C _ _ _ _)); clear HS hb hC2; have HS := m_; clear m_; have c0 : w3.cell? ⟨w.heap.size, 0, none⟩ = some (.bool wh) := HS.out.now.2.1.cell 0; have c0a := cell_alloc1 c0; have c1 : w3.cell? ⟨w.heap.size, 1, none⟩ = some (.int .i64 x0) := HS.out.now.2.1.cell 1; have c1a := cell_alloc1 c1; have c2 : w3.cell? ⟨w.heap.size, 2, none⟩ = some (.int .i64 x1) := HS.out.now.2.1.cell 2; have c2a := cell_alloc1 c2; have c3 : w3.cell? ⟨w.heap.size, 3, none⟩ = some (.int .i64 x2) := HS.out.now.2.1.cell 3; have c3a := cell_alloc1 c3; have c4 : w3.cell? ⟨w.heap.size, 4, none⟩ = some (.int .i64 x3) := HS.out.now.2.1.cell 4; have c4a := cell_alloc1 c4; have c5 : w3.cell? ⟨w.heap.size, 5, none⟩ = some (.string s) := HS.out.now.2.1.cell 5; have c5a := cell_alloc1 c5; clear t1 _t) | (go_at_call 24; refine (Back_undoes A c l wh x0 x1 x2 x3 s _ (HS.out.step (by repeat (first | exact Below.refl _ _ | apply below_alloc | apply pw_below_drewN | apply below_drew1 | apply bytes_step))).now.2.2 HCl.out hn HBY.out hx1 hx3 hs6 hs7 hl8 HEZ.out).mono ?_; rintro e w4 ⟨⟨wb, y0, y1, y2, y3, sb, rfl, hX⟩, hb⟩; rw [HEO.out] at hX; have HX := Aside0.mk hX; clear hX; have m_ := Aside0.mk (HS.out.call (by repeat (first | exact Below.refl _ _ | apply below_alloc | apply pw_below_drewN | apply below_drew1 | apply bytes_step)) hb); clear HS hb ; have HS := m_; clear m_) | (have _t := t2; go_at_call 23; refine (One_is A2 k2 out wb y0 y1 y2 y3 sb _ (HS.out.step (by repeat (first | exact Below.refl _ _ | apply below_alloc | apply pw_below_drewN | apply below_drew1 | apply bytes_step))).now.1 HLA2.out HNA2.out HOB.out hs8 HX.out.1 HX.out.2.1 HX.out.2.2.1).mono ?_; rintro e w5 ⟨v, rfl, hR, hb⟩; rw [HX.out.2.2.2.2] ; rw [HX.out.2.2.2.1] at hR; obtain ⟨A3, k3, rfl, hl2, hn2, hC2⟩ := Ap.read (.inr hR); have HLA3 := Aside0.mk hl2; have HNA3 := Aside0.mk hn2; clear hR hl2 hn2; have m_ := Aside0.mk ((HS.out.call (by repeat (first | exact Below.refl _ _ | apply below_alloc | apply pw_below_drewN | apply below_drew1 | apply bytes_step)) hb).add hC2 (keeps_C _ _ _ _)); clear HS hb hC2; have HS := m_; clear m_; clear t2 _t) | (go_at_call 20; refine (colophonref00_EqBytes.calls _ A3 k3 l A c l true _ (HS.out.step (by repeat (first | exact Below.refl _ _ | apply below_alloc | apply pw_below_drewN | apply below_drew1 | apply bytes_step))).now.1 HLA3.out (HS.out.step (by repeat (first | exact Below.refl _ _ | apply below_alloc | apply pw_below_drewN | apply below_drew1 | apply bytes_step))).now.2.2.2 HCl.out HEQ.out).mono ?_; rintro e wq ⟨rfl, hd⟩; have hb := hd.below; clear hd; have m_ := Aside0.mk (HS.out.call (by repeat (first | exact Below.refl _ _ | apply below_alloc | apply pw_below_drewN | apply below_drew1 | apply bytes_step)) hb); clear HS hb ; have HS := m_; clear m_))
  go_ret
  exact ⟨rfl, (HS.out.step (by repeat (first | exact Below.refl _ _ | apply below_alloc | apply pw_below_drewN | apply below_drew1 | apply bytes_step))).bel⟩
theorem EditBack_said (A : Option Addr) (n c : Nat) (zs : List Int) (wh : Bool) (x0 x1 x2 x3 : Int) (s : ByteArray) (W : World) (h : IsRow .u8 W A n c zs) (hsz : n * 1 ≤ 140737488351232) (_h0 : (Lit.int .i64 x0).wf = true) (h1 : (Lit.int .i64 x1).wf = true) (_h2 : (Lit.int .i64 x2).wf = true) (h3 : (Lit.int .i64 x3).wf = true) (hs : s.size ≤ maxLen) :
    Calls Try.prog 4 #[.slice A n c, .agg #[.bool wh, .int .i64 x0, .int .i64 x1, .int .i64 x2, .int .i64 x3, .string s]] W fun e W' => e = .returned (.bool true) ∧ Below W.heap.size W W' := by
  have hn : A = none → c = 0 := fun e => by
    subst e
    rcases h with ⟨_, _, h, _⟩ | ⟨x, h, _⟩
    · exact h
    · cases h
  obtain ⟨l, rfl, hc, hC, hw⟩ := h.reads
  have hB : Bytes l := fun x hx => byte_wf (hw x hx)
  have i1 := (int_wf h1).2
  have i3 := (int_wf h3).2
  by_cases hz : (chk l).2 = 0 ∧ l.length ≤ 1000
  · by_cases hl : s.size ≤ 1000
    · by_cases hr : (ech l (bytesOf s) wh x0 x1 x2 x3).2.2.2 = 0
      · exact EditBack_ok A c l wh x0 x1 x2 x3 s W hC hc hn hB i1 i3 hz hl hr
      · exact EditBack_err A c l wh x0 x1 x2 x3 s W hC hc hn hB i1 i3 hz hl hr
    · exact EditBack_long A c l wh x0 x1 x2 x3 s W hC hc hn hB i1 i3 hz (by omega) hs
  · exact EditBack_no A c l wh x0 x1 x2 x3 s W hC hc hn hB i1 i3 (by omega) hz
end Go.Proofs.Ytjebkpcekkkbkaa.B

/-
  A quiet region (loads and calls that leave the memory as it is) in the body of a range over a function: one walk in the order of the text serves every order.
-/
namespace Go.Proofs.Ytjebkpcekkkbkaa.B
open Go Go.RowKit Go.Proofs.YtjebkpcekkkbkaaW.PrintWords Go.Proofs.YtjebkpcekkkbkaaW.PrintLast Go.Proofs.YtjebkpcekkkbkaaW.PrintMore Go.Proofs.Ytjebkpcekkkbkaa.FBase
theorem quiet_drawn {P : Program} {f : FuncId} {args : Array Value} {v : Value} {n : Nat} {w : World} (h : Calls P f args (w.drewN n) fun e w' => e = .returned v ∧ Drawn0 (w.drewN n) w') : Calls P f args (w.drewN n) fun e w' => e = .returned v ∧ ∃ m, w' = w.drewN m :=
  h.mono fun e w' ⟨he, m, hm⟩ => ⟨he, n + m, by rw [← World.drewN_drewN]; first | exact hm | exact hm.symm⟩
section
variable {F : Fence} {n : Nat} {P : Program} {ops : Array Oper} {C : World → Prop} {md : Region.Mode}
end
end Go.Proofs.Ytjebkpcekkkbkaa.B

/-
  EditStays, walked.
-/
namespace Go.Proofs.Ytjebkpcekkkbkaa.B
open Go.RowKit Go.Shelf Go.Proofs Go.Proofs.YtjebkpcekkkbkaaW.PrintWords Go.Proofs.YtjebkpcekkkbkaaW.PrintLast Go.Proofs.YtjebkpcekkkbkaaW.PrintMore Go.Proofs.Ytjebkpcekkkbkaa.FBase
set_option linter.unusedVariables false
set_option linter.unusedSimpArgs false

theorem str_bytes (s : ByteArray) : strOfNums (bytesOf s) = s := by
  unfold bytesOf strOfNums
  cases s with
  | mk d =>
    congr 1
    apply Array.ext'
    rw [List.map_map]
    show List.map _ d.toList = d.toList
    conv => rhs; rw [← List.map_id d.toList]
    refine List.map_congr_left fun x _ => ?_
    simp

set_option maxRecDepth 100000 in
set_option maxHeartbeats 8000000 in
theorem EditStays_no (A : Option Addr) (c : Nat) (l : List Int) (wh : Bool) (x0 x1 x2 x3 : Int) (s : ByteArray) (w : World) (hr : Kd.C (Kd.int .u8) w A l.length l) (hc : l.length ≤ c) (hn : A = none → c = 0) (hB : Bytes l) (hx1 : x1 ≤ 9223372036854775807) (hx3 : x3 ≤ 9223372036854775807) (hs : l.length ≤ 140737488351232) (h : ¬ ((chk l).2 = 0 ∧ l.length ≤ 1000)) :
    Calls Try.prog 6 #[.slice A l.length c, .agg #[.bool wh, .int .i64 x0, .int .i64 x1, .int .i64 x2, .int .i64 x3, .string s]] w fun e w' => e = .returned (.bool true) ∧ Below w.heap.size w w' := by
  have hb1 := below_alloc (Below.refl _ w) (.cells #[.bool wh, .int .i64 x0, .int .i64 x1, .int .i64 x2, .int .i64 x3, .string s] 29)
  have HS : Aside0 (Sta w (w.alloc (.cells #[.bool wh, .int .i64 x0, .int .i64 x1, .int .i64 x2, .int .i64 x3, .string s] 29)) (fun W => IsBlk W w.heap.size (.cells #[.bool wh, .int .i64 x0, .int .i64 x1, .int .i64 x2, .int .i64 x3, .string s] 29) ∧ Kd.C (Kd.int .u8) W A l.length l)) := ⟨⟨hb1, ⟨blk_new w _, Kd.C_below hr hb1⟩, keeps_and (keeps_blk _ _) (keeps_C _ _ _ _)⟩⟩
  have HCl := Aside0.mk hc
  have c0 : (w.alloc (.cells #[.bool wh, .int .i64 x0, .int .i64 x1, .int .i64 x2, .int .i64 x3, .string s] 29)).cell? ⟨w.heap.size, 0, none⟩ = some (.bool wh) := HS.out.now.1.cell 0
  have c0a := cell_alloc1 c0
  have c1 : (w.alloc (.cells #[.bool wh, .int .i64 x0, .int .i64 x1, .int .i64 x2, .int .i64 x3, .string s] 29)).cell? ⟨w.heap.size, 1, none⟩ = some (.int .i64 x0) := HS.out.now.1.cell 1
  have c1a := cell_alloc1 c1
  have c2 : (w.alloc (.cells #[.bool wh, .int .i64 x0, .int .i64 x1, .int .i64 x2, .int .i64 x3, .string s] 29)).cell? ⟨w.heap.size, 2, none⟩ = some (.int .i64 x1) := HS.out.now.1.cell 2
  have c2a := cell_alloc1 c2
  have c3 : (w.alloc (.cells #[.bool wh, .int .i64 x0, .int .i64 x1, .int .i64 x2, .int .i64 x3, .string s] 29)).cell? ⟨w.heap.size, 3, none⟩ = some (.int .i64 x2) := HS.out.now.1.cell 3
  have c3a := cell_alloc1 c3
  have c4 : (w.alloc (.cells #[.bool wh, .int .i64 x0, .int .i64 x1, .int .i64 x2, .int .i64 x3, .string s] 29)).cell? ⟨w.heap.size, 4, none⟩ = some (.int .i64 x3) := HS.out.now.1.cell 4
  have c4a := cell_alloc1 c4
  have c5 : (w.alloc (.cells #[.bool wh, .int .i64 x0, .int .i64 x1, .int .i64 x2, .int .i64 x3, .string s] 29)).cell? ⟨w.heap.size, 5, none⟩ = some (.string s) := HS.out.now.1.cell 5
  have c5a := cell_alloc1 c5
  have HT := Aside0.mk (text_no l hB hs h)
  clear hr hc h hB
  go_enter Try.func6, Try.ntmps6
  go_wp2_with (first | (go_at_call 21; refine (works15_ok _).mono ?_; rintro e w1 ⟨rfl, hb⟩; have m_ := Aside0.mk (HS.out.call (by repeat (first | exact Below.refl _ _ | apply below_alloc | apply pw_below_drewN | apply below_drew1 | apply bytes_step)) hb); clear HS hb ; have HS := m_; clear m_; have c0 : w1.cell? ⟨w.heap.size, 0, none⟩ = some (.bool wh) := HS.out.now.1.cell 0; have c0a := cell_alloc1 c0; have c1 : w1.cell? ⟨w.heap.size, 1, none⟩ = some (.int .i64 x0) := HS.out.now.1.cell 1; have c1a := cell_alloc1 c1; have c2 : w1.cell? ⟨w.heap.size, 2, none⟩ = some (.int .i64 x1) := HS.out.now.1.cell 2; have c2a := cell_alloc1 c2; have c3 : w1.cell? ⟨w.heap.size, 3, none⟩ = some (.int .i64 x2) := HS.out.now.1.cell 3; have c3a := cell_alloc1 c3; have c4 : w1.cell? ⟨w.heap.size, 4, none⟩ = some (.int .i64 x3) := HS.out.now.1.cell 4; have c4a := cell_alloc1 c4; have c5 : w1.cell? ⟨w.heap.size, 5, none⟩ = some (.string s) := HS.out.now.1.cell 5; have c5a := cell_alloc1 c5) | (go_at_call 22; refine (colophonlaw15_text.calls _ A c l _ _ (HS.out.step (by repeat (first | exact Below.refl _ _ | apply below_alloc | apply pw_below_drewN | apply below_drew1 | apply bytes_step))).now.2 HCl.out HT.out).mono ?_; rintro e w2 ⟨rfl, hd⟩; have hb := hd.below; clear hd; have m_ := Aside0.mk (HS.out.call (by repeat (first | exact Below.refl _ _ | apply below_alloc | apply pw_below_drewN | apply below_drew1 | apply bytes_step)) hb); clear HS hb ; have HS := m_; clear m_; have c0 : w2.cell? ⟨w.heap.size, 0, none⟩ = some (.bool wh) := HS.out.now.1.cell 0; have c0a := cell_alloc1 c0; have c1 : w2.cell? ⟨w.heap.size, 1, none⟩ = some (.int .i64 x0) := HS.out.now.1.cell 1; have c1a := cell_alloc1 c1; have c2 : w2.cell? ⟨w.heap.size, 2, none⟩ = some (.int .i64 x1) := HS.out.now.1.cell 2; have c2a := cell_alloc1 c2; have c3 : w2.cell? ⟨w.heap.size, 3, none⟩ = some (.int .i64 x2) := HS.out.now.1.cell 3; have c3a := cell_alloc1 c3; have c4 : w2.cell? ⟨w.heap.size, 4, none⟩ = some (.int .i64 x3) := HS.out.now.1.cell 4; have c4a := cell_alloc1 c4; have c5 : w2.cell? ⟨w.heap.size, 5, none⟩ = some (.string s) := HS.out.now.1.cell 5; have c5a := cell_alloc1 c5))
  go_ret
  exact ⟨rfl, (HS.out.step (by repeat (first | exact Below.refl _ _ | apply below_alloc | apply pw_below_drewN | apply below_drew1 | apply bytes_step))).bel⟩
set_option maxRecDepth 100000 in
set_option maxHeartbeats 8000000 in
theorem EditStays_long (A : Option Addr) (c : Nat) (l : List Int) (wh : Bool) (x0 x1 x2 x3 : Int) (s : ByteArray) (w : World) (hr : Kd.C (Kd.int .u8) w A l.length l) (hc : l.length ≤ c) (hn : A = none → c = 0) (hB : Bytes l) (hx1 : x1 ≤ 9223372036854775807) (hx3 : x3 ≤ 9223372036854775807) (hv : (chk l).2 = 0 ∧ l.length ≤ 1000) (hs2 : 1000 < s.size) (hs3 : s.size ≤ maxLen) :
    Calls Try.prog 6 #[.slice A l.length c, .agg #[.bool wh, .int .i64 x0, .int .i64 x1, .int .i64 x2, .int .i64 x3, .string s]] w fun e w' => e = .returned (.bool true) ∧ Below w.heap.size w w' := by
  have hb1 := below_alloc (Below.refl _ w) (.cells #[.bool wh, .int .i64 x0, .int .i64 x1, .int .i64 x2, .int .i64 x3, .string s] 29)
  have HS : Aside0 (Sta w (w.alloc (.cells #[.bool wh, .int .i64 x0, .int .i64 x1, .int .i64 x2, .int .i64 x3, .string s] 29)) (fun W => IsBlk W w.heap.size (.cells #[.bool wh, .int .i64 x0, .int .i64 x1, .int .i64 x2, .int .i64 x3, .string s] 29) ∧ Kd.C (Kd.int .u8) W A l.length l)) := ⟨⟨hb1, ⟨blk_new w _, Kd.C_below hr hb1⟩, keeps_and (keeps_blk _ _) (keeps_C _ _ _ _)⟩⟩
  have HCl := Aside0.mk hc
  have c0 : (w.alloc (.cells #[.bool wh, .int .i64 x0, .int .i64 x1, .int .i64 x2, .int .i64 x3, .string s] 29)).cell? ⟨w.heap.size, 0, none⟩ = some (.bool wh) := HS.out.now.1.cell 0
  have c0a := cell_alloc1 c0
  have c1 : (w.alloc (.cells #[.bool wh, .int .i64 x0, .int .i64 x1, .int .i64 x2, .int .i64 x3, .string s] 29)).cell? ⟨w.heap.size, 1, none⟩ = some (.int .i64 x0) := HS.out.now.1.cell 1
  have c1a := cell_alloc1 c1
  have c2 : (w.alloc (.cells #[.bool wh, .int .i64 x0, .int .i64 x1, .int .i64 x2, .int .i64 x3, .string s] 29)).cell? ⟨w.heap.size, 2, none⟩ = some (.int .i64 x1) := HS.out.now.1.cell 2
  have c2a := cell_alloc1 c2
  have c3 : (w.alloc (.cells #[.bool wh, .int .i64 x0, .int .i64 x1, .int .i64 x2, .int .i64 x3, .string s] 29)).cell? ⟨w.heap.size, 3, none⟩ = some (.int .i64 x2) := HS.out.now.1.cell 3
  have c3a := cell_alloc1 c3
  have c4 : (w.alloc (.cells #[.bool wh, .int .i64 x0, .int .i64 x1, .int .i64 x2, .int .i64 x3, .string s] 29)).cell? ⟨w.heap.size, 4, none⟩ = some (.int .i64 x3) := HS.out.now.1.cell 4
  have c4a := cell_alloc1 c4
  have c5 : (w.alloc (.cells #[.bool wh, .int .i64 x0, .int .i64 x1, .int .i64 x2, .int .i64 x3, .string s] 29)).cell? ⟨w.heap.size, 5, none⟩ = some (.string s) := HS.out.now.1.cell 5
  have c5a := cell_alloc1 c5
  have HT := Aside0.mk (text_yes l hB hv.1 hv.2)
  clear hr hc hv hB
  have g9 : decide (1000 < s.size) = true := decide_eq_true hs2
  have g8 : decide ((1000 : Int) < (s.size : Int)) = true := decide_eq_true (by omega)
  go_enter Try.func6, Try.ntmps6
  go_wp2_with (first | (go_at_call 21; refine (works15_ok _).mono ?_; rintro e w1 ⟨rfl, hb⟩; have m_ := Aside0.mk (HS.out.call (by repeat (first | exact Below.refl _ _ | apply below_alloc | apply pw_below_drewN | apply below_drew1 | apply bytes_step)) hb); clear HS hb ; have HS := m_; clear m_; have c0 : w1.cell? ⟨w.heap.size, 0, none⟩ = some (.bool wh) := HS.out.now.1.cell 0; have c0a := cell_alloc1 c0; have c1 : w1.cell? ⟨w.heap.size, 1, none⟩ = some (.int .i64 x0) := HS.out.now.1.cell 1; have c1a := cell_alloc1 c1; have c2 : w1.cell? ⟨w.heap.size, 2, none⟩ = some (.int .i64 x1) := HS.out.now.1.cell 2; have c2a := cell_alloc1 c2; have c3 : w1.cell? ⟨w.heap.size, 3, none⟩ = some (.int .i64 x2) := HS.out.now.1.cell 3; have c3a := cell_alloc1 c3; have c4 : w1.cell? ⟨w.heap.size, 4, none⟩ = some (.int .i64 x3) := HS.out.now.1.cell 4; have c4a := cell_alloc1 c4; have c5 : w1.cell? ⟨w.heap.size, 5, none⟩ = some (.string s) := HS.out.now.1.cell 5; have c5a := cell_alloc1 c5) | (go_at_call 22; refine (colophonlaw15_text.calls _ A c l _ _ (HS.out.step (by repeat (first | exact Below.refl _ _ | apply below_alloc | apply pw_below_drewN | apply below_drew1 | apply bytes_step))).now.2 HCl.out HT.out).mono ?_; rintro e w2 ⟨rfl, hd⟩; have hb := hd.below; clear hd; have m_ := Aside0.mk (HS.out.call (by repeat (first | exact Below.refl _ _ | apply below_alloc | apply pw_below_drewN | apply below_drew1 | apply bytes_step)) hb); clear HS hb ; have HS := m_; clear m_; have c0 : w2.cell? ⟨w.heap.size, 0, none⟩ = some (.bool wh) := HS.out.now.1.cell 0; have c0a := cell_alloc1 c0; have c1 : w2.cell? ⟨w.heap.size, 1, none⟩ = some (.int .i64 x0) := HS.out.now.1.cell 1; have c1a := cell_alloc1 c1; have c2 : w2.cell? ⟨w.heap.size, 2, none⟩ = some (.int .i64 x1) := HS.out.now.1.cell 2; have c2a := cell_alloc1 c2; have c3 : w2.cell? ⟨w.heap.size, 3, none⟩ = some (.int .i64 x2) := HS.out.now.1.cell 3; have c3a := cell_alloc1 c3; have c4 : w2.cell? ⟨w.heap.size, 4, none⟩ = some (.int .i64 x3) := HS.out.now.1.cell 4; have c4a := cell_alloc1 c4; have c5 : w2.cell? ⟨w.heap.size, 5, none⟩ = some (.string s) := HS.out.now.1.cell 5; have c5a := cell_alloc1 c5))
  go_ret
  exact ⟨rfl, (HS.out.step (by repeat (first | exact Below.refl _ _ | apply below_alloc | apply pw_below_drewN | apply below_drew1 | apply bytes_step))).bel⟩
set_option maxRecDepth 100000 in
set_option maxHeartbeats 8000000 in
theorem EditStays_whole (A : Option Addr) (c : Nat) (l : List Int) (wh : Bool) (x0 x1 x2 x3 : Int) (s : ByteArray) (w : World) (hr : Kd.C (Kd.int .u8) w A l.length l) (hc : l.length ≤ c) (hn : A = none → c = 0) (hB : Bytes l) (hx1 : x1 ≤ 9223372036854775807) (hx3 : x3 ≤ 9223372036854775807) (hv : (chk l).2 = 0 ∧ l.length ≤ 1000) (hs2 : s.size ≤ 1000) (hw : wh = true) :
    Calls Try.prog 6 #[.slice A l.length c, .agg #[.bool wh, .int .i64 x0, .int .i64 x1, .int .i64 x2, .int .i64 x3, .string s]] w fun e w' => e = .returned (.bool true) ∧ Below w.heap.size w w' := by
  subst hw
  have hb1 := below_alloc (Below.refl _ w) (.cells #[.bool true, .int .i64 x0, .int .i64 x1, .int .i64 x2, .int .i64 x3, .string s] 29)
  have HS : Aside0 (Sta w (w.alloc (.cells #[.bool true, .int .i64 x0, .int .i64 x1, .int .i64 x2, .int .i64 x3, .string s] 29)) (fun W => IsBlk W w.heap.size (.cells #[.bool true, .int .i64 x0, .int .i64 x1, .int .i64 x2, .int .i64 x3, .string s] 29) ∧ Kd.C (Kd.int .u8) W A l.length l)) := ⟨⟨hb1, ⟨blk_new w _, Kd.C_below hr hb1⟩, keeps_and (keeps_blk _ _) (keeps_C _ _ _ _)⟩⟩
  have HCl := Aside0.mk hc
  have c0 : (w.alloc (.cells #[.bool true, .int .i64 x0, .int .i64 x1, .int .i64 x2, .int .i64 x3, .string s] 29)).cell? ⟨w.heap.size, 0, none⟩ = some (.bool true) := HS.out.now.1.cell 0
  have c0a := cell_alloc1 c0
  have c1 : (w.alloc (.cells #[.bool true, .int .i64 x0, .int .i64 x1, .int .i64 x2, .int .i64 x3, .string s] 29)).cell? ⟨w.heap.size, 1, none⟩ = some (.int .i64 x0) := HS.out.now.1.cell 1
  have c1a := cell_alloc1 c1
  have c2 : (w.alloc (.cells #[.bool true, .int .i64 x0, .int .i64 x1, .int .i64 x2, .int .i64 x3, .string s] 29)).cell? ⟨w.heap.size, 2, none⟩ = some (.int .i64 x1) := HS.out.now.1.cell 2
  have c2a := cell_alloc1 c2
  have c3 : (w.alloc (.cells #[.bool true, .int .i64 x0, .int .i64 x1, .int .i64 x2, .int .i64 x3, .string s] 29)).cell? ⟨w.heap.size, 3, none⟩ = some (.int .i64 x2) := HS.out.now.1.cell 3
  have c3a := cell_alloc1 c3
  have c4 : (w.alloc (.cells #[.bool true, .int .i64 x0, .int .i64 x1, .int .i64 x2, .int .i64 x3, .string s] 29)).cell? ⟨w.heap.size, 4, none⟩ = some (.int .i64 x3) := HS.out.now.1.cell 4
  have c4a := cell_alloc1 c4
  have c5 : (w.alloc (.cells #[.bool true, .int .i64 x0, .int .i64 x1, .int .i64 x2, .int .i64 x3, .string s] 29)).cell? ⟨w.heap.size, 5, none⟩ = some (.string s) := HS.out.now.1.cell 5
  have c5a := cell_alloc1 c5
  have HT := Aside0.mk (text_yes l hB hv.1 hv.2)
  clear hr hc hv hB
  have g9 : decide (1000 < s.size) = false := decide_eq_false (by omega)
  have g8 : decide ((1000 : Int) < (s.size : Int)) = false := decide_eq_false (by omega)
  go_enter Try.func6, Try.ntmps6
  go_wp2_with (first | (go_at_call 21; refine (works15_ok _).mono ?_; rintro e w1 ⟨rfl, hb⟩; have m_ := Aside0.mk (HS.out.call (by repeat (first | exact Below.refl _ _ | apply below_alloc | apply pw_below_drewN | apply below_drew1 | apply bytes_step)) hb); clear HS hb ; have HS := m_; clear m_; have c0 : w1.cell? ⟨w.heap.size, 0, none⟩ = some (.bool true) := HS.out.now.1.cell 0; have c0a := cell_alloc1 c0; have c1 : w1.cell? ⟨w.heap.size, 1, none⟩ = some (.int .i64 x0) := HS.out.now.1.cell 1; have c1a := cell_alloc1 c1; have c2 : w1.cell? ⟨w.heap.size, 2, none⟩ = some (.int .i64 x1) := HS.out.now.1.cell 2; have c2a := cell_alloc1 c2; have c3 : w1.cell? ⟨w.heap.size, 3, none⟩ = some (.int .i64 x2) := HS.out.now.1.cell 3; have c3a := cell_alloc1 c3; have c4 : w1.cell? ⟨w.heap.size, 4, none⟩ = some (.int .i64 x3) := HS.out.now.1.cell 4; have c4a := cell_alloc1 c4; have c5 : w1.cell? ⟨w.heap.size, 5, none⟩ = some (.string s) := HS.out.now.1.cell 5; have c5a := cell_alloc1 c5) | (go_at_call 22; refine (colophonlaw15_text.calls _ A c l _ _ (HS.out.step (by repeat (first | exact Below.refl _ _ | apply below_alloc | apply pw_below_drewN | apply below_drew1 | apply bytes_step))).now.2 HCl.out HT.out).mono ?_; rintro e w2 ⟨rfl, hd⟩; have hb := hd.below; clear hd; have m_ := Aside0.mk (HS.out.call (by repeat (first | exact Below.refl _ _ | apply below_alloc | apply pw_below_drewN | apply below_drew1 | apply bytes_step)) hb); clear HS hb ; have HS := m_; clear m_; have c0 : w2.cell? ⟨w.heap.size, 0, none⟩ = some (.bool true) := HS.out.now.1.cell 0; have c0a := cell_alloc1 c0; have c1 : w2.cell? ⟨w.heap.size, 1, none⟩ = some (.int .i64 x0) := HS.out.now.1.cell 1; have c1a := cell_alloc1 c1; have c2 : w2.cell? ⟨w.heap.size, 2, none⟩ = some (.int .i64 x1) := HS.out.now.1.cell 2; have c2a := cell_alloc1 c2; have c3 : w2.cell? ⟨w.heap.size, 3, none⟩ = some (.int .i64 x2) := HS.out.now.1.cell 3; have c3a := cell_alloc1 c3; have c4 : w2.cell? ⟨w.heap.size, 4, none⟩ = some (.int .i64 x3) := HS.out.now.1.cell 4; have c4a := cell_alloc1 c4; have c5 : w2.cell? ⟨w.heap.size, 5, none⟩ = some (.string s) := HS.out.now.1.cell 5; have c5a := cell_alloc1 c5))
  go_ret
  exact ⟨rfl, (HS.out.step (by repeat (first | exact Below.refl _ _ | apply below_alloc | apply pw_below_drewN | apply below_drew1 | apply bytes_step))).bel⟩
set_option maxRecDepth 100000 in
set_option maxHeartbeats 8000000 in
theorem EditStays_err (A : Option Addr) (c : Nat) (l : List Int) (wh : Bool) (x0 x1 x2 x3 : Int) (s : ByteArray) (w : World) (hr : Kd.C (Kd.int .u8) w A l.length l) (hc : l.length ≤ c) (hn : A = none → c = 0) (hB : Bytes l) (hx1 : x1 ≤ 9223372036854775807) (hx3 : x3 ≤ 9223372036854775807) (hv : (chk l).2 = 0 ∧ l.length ≤ 1000) (hs2 : s.size ≤ 1000) (hw : wh = false) (hz : (ech l (bytesOf s) wh x0 x1 x2 x3).2.2.2 ≠ 0) :
    Calls Try.prog 6 #[.slice A l.length c, .agg #[.bool wh, .int .i64 x0, .int .i64 x1, .int .i64 x2, .int .i64 x3, .string s]] w fun e w' => e = .returned (.bool true) ∧ Below w.heap.size w w' := by
  subst hw
  have hb1 := below_alloc (Below.refl _ w) (.cells #[.bool false, .int .i64 x0, .int .i64 x1, .int .i64 x2, .int .i64 x3, .string s] 29)
  have HS : Aside0 (Sta w (w.alloc (.cells #[.bool false, .int .i64 x0, .int .i64 x1, .int .i64 x2, .int .i64 x3, .string s] 29)) (fun W => IsBlk W w.heap.size (.cells #[.bool false, .int .i64 x0, .int .i64 x1, .int .i64 x2, .int .i64 x3, .string s] 29) ∧ Kd.C (Kd.int .u8) W A l.length l)) := ⟨⟨hb1, ⟨blk_new w _, Kd.C_below hr hb1⟩, keeps_and (keeps_blk _ _) (keeps_C _ _ _ _)⟩⟩
  have HCl := Aside0.mk hc
  have c0 : (w.alloc (.cells #[.bool false, .int .i64 x0, .int .i64 x1, .int .i64 x2, .int .i64 x3, .string s] 29)).cell? ⟨w.heap.size, 0, none⟩ = some (.bool false) := HS.out.now.1.cell 0
  have c0a := cell_alloc1 c0
  have c1 : (w.alloc (.cells #[.bool false, .int .i64 x0, .int .i64 x1, .int .i64 x2, .int .i64 x3, .string s] 29)).cell? ⟨w.heap.size, 1, none⟩ = some (.int .i64 x0) := HS.out.now.1.cell 1
  have c1a := cell_alloc1 c1
  have c2 : (w.alloc (.cells #[.bool false, .int .i64 x0, .int .i64 x1, .int .i64 x2, .int .i64 x3, .string s] 29)).cell? ⟨w.heap.size, 2, none⟩ = some (.int .i64 x1) := HS.out.now.1.cell 2
  have c2a := cell_alloc1 c2
  have c3 : (w.alloc (.cells #[.bool false, .int .i64 x0, .int .i64 x1, .int .i64 x2, .int .i64 x3, .string s] 29)).cell? ⟨w.heap.size, 3, none⟩ = some (.int .i64 x2) := HS.out.now.1.cell 3
  have c3a := cell_alloc1 c3
  have c4 : (w.alloc (.cells #[.bool false, .int .i64 x0, .int .i64 x1, .int .i64 x2, .int .i64 x3, .string s] 29)).cell? ⟨w.heap.size, 4, none⟩ = some (.int .i64 x3) := HS.out.now.1.cell 4
  have c4a := cell_alloc1 c4
  have c5 : (w.alloc (.cells #[.bool false, .int .i64 x0, .int .i64 x1, .int .i64 x2, .int .i64 x3, .string s] 29)).cell? ⟨w.heap.size, 5, none⟩ = some (.string s) := HS.out.now.1.cell 5
  have c5a := cell_alloc1 c5
  have HT := Aside0.mk (text_yes l hB hv.1 hv.2)
  have HBY := Aside0.mk hB
  have hs6 : l.length ≤ 1048576 := by omega
  have hs7 : s.size ≤ 140737488351232 := by omega
  have hkk := Check_f l hB hs6 (Nat.lt_succ_self _)
  rw [show chk l = ((chk l).1, 0) from Prod.ext rfl hv.1] at hkk
  have HK := Aside0.mk hkk
  have eo := (ech_err l (bytesOf s) false x0 x1 x2 x3 hz).2.2
  obtain ⟨er, hee⟩ : ∃ a, (ech l (bytesOf s) false x0 x1 x2 x3).2.2.2 = a := ⟨_, rfl⟩
  rw [hee] at hz
  have HEE := Aside0.mk hee
  have HEO := Aside0.mk eo
  have g9 : decide (1000 < s.size) = false := decide_eq_false (by omega)
  have g8 : decide ((1000 : Int) < (s.size : Int)) = false := decide_eq_false (by omega)
  have g7 : (er != 0) = true := bne_iff_ne.mpr hz
  clear hr hc hv hB hz hee eo hkk
  go_enter Try.func6, Try.ntmps6
  go_wp2_with (first | (go_at_call 21; refine (works15_ok _).mono ?_; rintro e w1 ⟨rfl, hb⟩; have m_ := Aside0.mk (HS.out.call (by repeat (first | exact Below.refl _ _ | apply below_alloc | apply pw_below_drewN | apply below_drew1 | apply bytes_step)) hb); clear HS hb ; have HS := m_; clear m_; have c0 : w1.cell? ⟨w.heap.size, 0, none⟩ = some (.bool false) := HS.out.now.1.cell 0; have c0a := cell_alloc1 c0; have c1 : w1.cell? ⟨w.heap.size, 1, none⟩ = some (.int .i64 x0) := HS.out.now.1.cell 1; have c1a := cell_alloc1 c1; have c2 : w1.cell? ⟨w.heap.size, 2, none⟩ = some (.int .i64 x1) := HS.out.now.1.cell 2; have c2a := cell_alloc1 c2; have c3 : w1.cell? ⟨w.heap.size, 3, none⟩ = some (.int .i64 x2) := HS.out.now.1.cell 3; have c3a := cell_alloc1 c3; have c4 : w1.cell? ⟨w.heap.size, 4, none⟩ = some (.int .i64 x3) := HS.out.now.1.cell 4; have c4a := cell_alloc1 c4; have c5 : w1.cell? ⟨w.heap.size, 5, none⟩ = some (.string s) := HS.out.now.1.cell 5; have c5a := cell_alloc1 c5) | (go_at_call 22; refine (colophonlaw15_text.calls _ A c l _ _ (HS.out.step (by repeat (first | exact Below.refl _ _ | apply below_alloc | apply pw_below_drewN | apply below_drew1 | apply bytes_step))).now.2 HCl.out HT.out).mono ?_; rintro e w2 ⟨rfl, hd⟩; have hb := hd.below; clear hd; have m_ := Aside0.mk (HS.out.call (by repeat (first | exact Below.refl _ _ | apply below_alloc | apply pw_below_drewN | apply below_drew1 | apply bytes_step)) hb); clear HS hb ; have HS := m_; clear m_; have c0 : w2.cell? ⟨w.heap.size, 0, none⟩ = some (.bool false) := HS.out.now.1.cell 0; have c0a := cell_alloc1 c0; have c1 : w2.cell? ⟨w.heap.size, 1, none⟩ = some (.int .i64 x0) := HS.out.now.1.cell 1; have c1a := cell_alloc1 c1; have c2 : w2.cell? ⟨w.heap.size, 2, none⟩ = some (.int .i64 x1) := HS.out.now.1.cell 2; have c2a := cell_alloc1 c2; have c3 : w2.cell? ⟨w.heap.size, 3, none⟩ = some (.int .i64 x2) := HS.out.now.1.cell 3; have c3a := cell_alloc1 c3; have c4 : w2.cell? ⟨w.heap.size, 4, none⟩ = some (.int .i64 x3) := HS.out.now.1.cell 4; have c4a := cell_alloc1 c4; have c5 : w2.cell? ⟨w.heap.size, 5, none⟩ = some (.string s) := HS.out.now.1.cell 5; have c5a := cell_alloc1 c5) | (go_at_call 25; refine (MNew_ok _ A c l _ _ (HS.out.step (by repeat (first | exact Below.refl _ _ | apply below_alloc | apply pw_below_drewN | apply below_drew1 | apply bytes_step))).now.2 HCl.out hn HK.out hs6).mono ?_; rintro e w3 ⟨m, rfl, hM, hb⟩; have m_ := Aside0.mk ((HS.out.call (by repeat (first | exact Below.refl _ _ | apply below_alloc | apply pw_below_drewN | apply below_drew1 | apply bytes_step)) hb).add hM (keeps_map _ _)); clear HS hb hM; have HS := m_; clear m_; have c0 : w3.cell? ⟨w.heap.size, 0, none⟩ = some (.bool false) := HS.out.now.2.1.cell 0; have c0a := cell_alloc1 c0; have c1 : w3.cell? ⟨w.heap.size, 1, none⟩ = some (.int .i64 x0) := HS.out.now.2.1.cell 1; have c1a := cell_alloc1 c1; have c2 : w3.cell? ⟨w.heap.size, 2, none⟩ = some (.int .i64 x1) := HS.out.now.2.1.cell 2; have c2a := cell_alloc1 c2; have c3 : w3.cell? ⟨w.heap.size, 3, none⟩ = some (.int .i64 x2) := HS.out.now.2.1.cell 3; have c3a := cell_alloc1 c3; have c4 : w3.cell? ⟨w.heap.size, 4, none⟩ = some (.int .i64 x3) := HS.out.now.2.1.cell 4; have c4a := cell_alloc1 c4; have c5 : w3.cell? ⟨w.heap.size, 5, none⟩ = some (.string s) := HS.out.now.2.1.cell 5; have c5a := cell_alloc1 c5) | (go_at_call 23; refine (One_is A c l false x0 x1 x2 x3 s _ (HS.out.step (by repeat (first | exact Below.refl _ _ | apply below_alloc | apply pw_below_drewN | apply below_drew1 | apply bytes_step))).now.2.2 HCl.out hn HBY.out hs6 hs7 hx1 hx3).mono ?_; rintro e w4 ⟨v, rfl, hR, hb⟩; rw [HEE.out] ; rw [HEO.out] at hR; obtain ⟨A2, k2, rfl, hl2, hn2, hC2⟩ := Ap.read (.inr hR); have HLA2 := Aside0.mk hl2; have HNA2 := Aside0.mk hn2; clear hR hl2 hn2; have m_ := Aside0.mk ((HS.out.call (by repeat (first | exact Below.refl _ _ | apply below_alloc | apply pw_below_drewN | apply below_drew1 | apply bytes_step)) hb).add hC2 (keeps_C _ _ _ _)); clear HS hb hC2; have HS := m_; clear m_; have c0 : w4.cell? ⟨w.heap.size, 0, none⟩ = some (.bool false) := HS.out.now.2.2.1.cell 0; have c0a := cell_alloc1 c0; have c1 : w4.cell? ⟨w.heap.size, 1, none⟩ = some (.int .i64 x0) := HS.out.now.2.2.1.cell 1; have c1a := cell_alloc1 c1; have c2 : w4.cell? ⟨w.heap.size, 2, none⟩ = some (.int .i64 x1) := HS.out.now.2.2.1.cell 2; have c2a := cell_alloc1 c2; have c3 : w4.cell? ⟨w.heap.size, 3, none⟩ = some (.int .i64 x2) := HS.out.now.2.2.1.cell 3; have c3a := cell_alloc1 c3; have c4 : w4.cell? ⟨w.heap.size, 4, none⟩ = some (.int .i64 x3) := HS.out.now.2.2.1.cell 4; have c4a := cell_alloc1 c4; have c5 : w4.cell? ⟨w.heap.size, 5, none⟩ = some (.string s) := HS.out.now.2.2.1.cell 5; have c5a := cell_alloc1 c5))
  go_ret
  exact ⟨rfl, (HS.out.step (by repeat (first | exact Below.refl _ _ | apply below_alloc | apply pw_below_drewN | apply below_drew1 | apply bytes_step))).bel⟩
end Go.Proofs.Ytjebkpcekkkbkaa.B

/-
  Rows: how an edit, by value, and a slice of edits that came in are read.
-/
namespace Go.Proofs.Ytjebkpcekkkbkaa.B
open Go.RowKit Go.ChangeShapes Go.WideShapes Go.Joins Go.Deep Go.Proofs.YtjebkpcekkkbkaaW.PrintWords Go.Proofs.Ytjebkpcekkkbkaa.FBase
set_option linter.unusedVariables false
section
variable {H : Type} {enc : TypeId × Value → H} {P : Program} {W : World} {base : Nat} {spare : Nat → Bool} {held : Bool} {r : Reach} {b0 : Nat}
/-- A struct of two ints (cells). -/
theorem trod_two {tp : TypeId} {g0 g1 : Field} (hp : P.underlying tp = some (.struct #[g0, g1])) (i0 : P.underlying g0.type = some (.int .i64)) (i1 : P.underlying g1.type = some (.int .i64)) (p0 : g0.offset = 0) (p1 : g1.offset = 1) (k0 : P.cellsOf g0.type = 1) (k1 : P.cellsOf g1.type = 1) (hC : P.cellsOf tp = 2)
    {fuel : Nat} {cs : List Value} {x : DataW H × List MemPlace} (h : DataW.trod enc P W base spare held fuel tp cs = some x) :
    ∃ x0 x1 : Int, cs = [.int .i64 x0, .int .i64 x1] ∧ x = (.agg [.lit (.int .i64 x0), .lit (.int .i64 x1)], []) ∧ (Lit.int .i64 x0).wf = true ∧ (Lit.int .i64 x1).wf = true := by
  obtain ⟨y0, y1, n, hx, hl, h0, h1⟩ := trod_struct2 hp h
  match cs, hl.trans hC with
  | [c0, c1], _ =>
    simp [k0, k1, p0, p1] at h0 h1
    obtain ⟨x0, e0, rfl, w0⟩ := DataW.trod_int i0 h0
    obtain ⟨x1, e1, rfl, w1⟩ := DataW.trod_int i1 h1
    cases e0
    cases e1
    exact ⟨x0, x1, rfl, by simpa using hx, w0, w1⟩
/-- A struct of two of these. -/
theorem trod_four {tr tp : TypeId} {f0 f1 g0 g1 : Field} (hr : P.underlying tr = some (.struct #[f0, f1])) (e0 : f0.type = tp) (e1 : f1.type = tp) (o0 : f0.offset = 0) (o1 : f1.offset = 2) (hR : P.cellsOf tr = 4)
    (hp : P.underlying tp = some (.struct #[g0, g1])) (i0 : P.underlying g0.type = some (.int .i64)) (i1 : P.underlying g1.type = some (.int .i64)) (p0 : g0.offset = 0) (p1 : g1.offset = 1) (k0 : P.cellsOf g0.type = 1) (k1 : P.cellsOf g1.type = 1) (hC : P.cellsOf tp = 2)
    {fuel : Nat} {cs : List Value} {x : DataW H × List MemPlace} (h : DataW.trod enc P W base spare held fuel tr cs = some x) :
    ∃ x0 x1 x2 x3 : Int, cs = [.int .i64 x0, .int .i64 x1, .int .i64 x2, .int .i64 x3] ∧ x.2 = [] ∧ (Lit.int .i64 x0).wf = true ∧ (Lit.int .i64 x1).wf = true ∧ (Lit.int .i64 x2).wf = true ∧ (Lit.int .i64 x3).wf = true := by
  obtain ⟨y0, y1, n, hx, hl, h0, h1⟩ := trod_struct2 hr h
  rw [e0] at h0
  rw [e1] at h1
  match cs, hl.trans hR with
  | [c0, c1, c2, c3], _ =>
    simp [o0, o1, hC] at h0 h1
    obtain ⟨x0, x1, e0, rfl, w0, w1⟩ := trod_two hp i0 i1 p0 p1 k0 k1 hC h0
    obtain ⟨x2, x3, e1, rfl, w2, w3⟩ := trod_two hp i0 i1 p0 p1 k0 k1 hC h1
    cases e0
    cases e1
    exact ⟨x0, x1, x2, x3, rfl, by rw [hx]; rfl, w0, w1, w2, w3⟩
theorem trod_edit_of {te tr tp : TypeId} {u0 u1 u2 f0 f1 g0 g1 : Field} (he : P.underlying te = some (.struct #[u0, u1, u2])) (hE : P.cellsOf te = 6) (a0 : u0.offset = 0) (a1 : u1.offset = 1) (a2 : u2.offset = 5) (b0 : P.underlying u0.type = some .bool) (b1 : u1.type = tr) (b2 : P.underlying u2.type = some .string) (c0 : P.cellsOf u0.type = 1) (c2 : P.cellsOf u2.type = 1)
    (hr : P.underlying tr = some (.struct #[f0, f1])) (e0 : f0.type = tp) (e1 : f1.type = tp) (o0 : f0.offset = 0) (o1 : f1.offset = 2) (hR : P.cellsOf tr = 4)
    (hp : P.underlying tp = some (.struct #[g0, g1])) (i0 : P.underlying g0.type = some (.int .i64)) (i1 : P.underlying g1.type = some (.int .i64)) (p0 : g0.offset = 0) (p1 : g1.offset = 1) (k0 : P.cellsOf g0.type = 1) (k1 : P.cellsOf g1.type = 1) (hC : P.cellsOf tp = 2)
    {fuel : Nat} {cs : List Value} {x : DataW H × List MemPlace} (h : DataW.trod enc P W base spare held fuel te cs = some x) :
    ∃ (b : Bool) (x0 x1 x2 x3 : Int) (s : ByteArray) (y : DataW H), cs = [.bool b, .int .i64 x0, .int .i64 x1, .int .i64 x2, .int .i64 x3, .string s] ∧ x = (.agg [.lit (.bool b), y, .lit (.string s.data.toList)], []) ∧
      (Lit.int .i64 x0).wf = true ∧ (Lit.int .i64 x1).wf = true ∧ (Lit.int .i64 x2).wf = true ∧ (Lit.int .i64 x3).wf = true ∧ s.size ≤ maxLen := by
  obtain ⟨y0, y1, y2, n, hx, hl, h0, h1, h2⟩ := trod_struct3 he h
  rw [b1] at h1
  match cs, hl.trans hE with
  | [v0, v1, v2, v3, v4, v5], _ =>
    simp [a0, a1, a2, c0, c2, hR] at h0 h1 h2
    obtain ⟨b, q0, rfl⟩ := DataW.trod_bool b0 h0
    obtain ⟨x0, x1, x2, x3, q1, hy, w0, w1, w2, w3⟩ := trod_four hr e0 e1 o0 o1 hR hp i0 i1 p0 p1 k0 k1 hC h1
    obtain ⟨s, q2, rfl, hs⟩ := DataW.trod_string b2 h2
    cases q0
    cases q1
    cases q2
    refine ⟨b, x0, x1, x2, x3, s, y1.1, rfl, ?_, w0, w1, w2, w3, hs⟩
    rw [hx, hy]
    simp
theorem trod_edit {fuel : Nat} {cs : List Value} {x : DataW H × List MemPlace} (h : DataW.trod enc Try.prog W base spare held fuel 29 cs = some x) :
    ∃ (b : Bool) (x0 x1 x2 x3 : Int) (s : ByteArray) (y : DataW H), cs = [.bool b, .int .i64 x0, .int .i64 x1, .int .i64 x2, .int .i64 x3, .string s] ∧ x = (.agg [.lit (.bool b), y, .lit (.string s.data.toList)], []) ∧
      (Lit.int .i64 x0).wf = true ∧ (Lit.int .i64 x1).wf = true ∧ (Lit.int .i64 x2).wf = true ∧ (Lit.int .i64 x3).wf = true ∧ s.size ≤ maxLen :=
  trod_edit_of Try.underlying29 (by kernel_rfl) rfl rfl rfl Try.underlying4 rfl Try.underlying9 (by kernel_rfl) (by kernel_rfl) Try.underlying27 rfl rfl rfl rfl (by kernel_rfl) Try.underlying25 Try.underlying3 Try.underlying3 rfl rfl (by kernel_rfl) (by kernel_rfl) (by kernel_rfl) h
theorem agg_of_cells {cs : Array Value} {l : List Value} (h : (Value.agg cs).cells.toList = l) : cs = l.toArray := by
  apply Array.ext'
  simpa [Value.cells] using h
set_option maxRecDepth 100000 in
theorem open_edit {v : Value} {d : DataW H} {p : List MemPlace} (hv : Value.okWide Try.prog W r b0 29 v) (h : DataW.Trod enc Try.prog W base spare held 29 v d p) :
    ∃ (b : Bool) (x0 x1 x2 x3 : Int) (s : ByteArray) (y : DataW H), v = .agg #[.bool b, .int .i64 x0, .int .i64 x1, .int .i64 x2, .int .i64 x3, .string s] ∧ d = .agg [.lit (.bool b), y, .lit (.string s.data.toList)] ∧ p = [] ∧
      (Lit.int .i64 x0).wf = true ∧ (Lit.int .i64 x1).wf = true ∧ (Lit.int .i64 x2).wf = true ∧ (Lit.int .i64 x3).wf = true ∧ s.size ≤ maxLen := by
  obtain ⟨cs, rfl, hsz⟩ := okWide_struct Try.underlying29 hv
  obtain ⟨fuel, hf⟩ := h
  obtain ⟨b, x0, x1, x2, x3, s, y, hcs, hx, w0, w1, w2, w3, hs⟩ := trod_edit hf
  have hc2 := agg_of_cells hcs
  obtain ⟨hx1, hx2⟩ := Prod.mk.inj hx
  exact ⟨b, x0, x1, x2, x3, s, y, by rw [hc2], hx1, hx2, w0, w1, w2, w3, hs⟩
end
end Go.Proofs.Ytjebkpcekkkbkaa.B

/-
  Rows: how a slice of edits that came in is read, where what is read is of small bulk.
-/
namespace Go.Proofs.Ytjebkpcekkkbkaa.B
open Go.RowKit Go.ChangeShapes Go.WideShapes Go.Joins Go.Deep Go.Proofs.YtjebkpcekkkbkaaW.PrintWords Go.Proofs.Ytjebkpcekkkbkaa.FBase
set_option linter.unusedVariables false
/-- Edits that came in. -/
def IsEds (W : World) (E : Option Addr) (len cap : Nat) (es : List S29) : Prop :=
  es.length = len ∧ len ≤ cap ∧ len ≤ 1048576 ∧ (E = none → cap = 0) ∧ Kd.C k29 W E es.length es ∧ ∀ x ∈ es, x.f2.size ≤ 1048576 ∧ x.f1.f0.f1 ≤ 9223372036854775807 ∧ x.f1.f1.f1 ≤ 9223372036854775807
section
variable {H : Type} {enc : TypeId × Value → H} {W : World} {base : Nat} {spare : Nat → Bool} {held : Bool}
theorem addr_add (a : Addr) (i j : Nat) : (a.add i).add j = a.add (i + j) := Go.Deep.add_add a i j
set_option maxRecDepth 100000 in
theorem open_eds {fuel : Nat} {E : Option Addr} {len cap : Nat} {x : DataW H × List MemPlace} (h : DataW.trod enc Try.prog W base spare held fuel 47 [.slice E len cap] = some x) (hk : Rows.uptoBulk x.1 ≤ 1048576) :
    ∃ es, IsEds W E len cap es := by
  rcases open_slice Try.underlying47 h with ⟨hcs, _⟩ | ⟨a, len', cap', m, n, D, Pl, hcs, hb, hl, hm, hmm, rfl, hx⟩
  · obtain ⟨rfl, rfl, rfl⟩ : E = none ∧ len = 0 ∧ cap = 0 := by simpa using hcs
    exact ⟨[], rfl, Nat.le_refl _, by decide, fun _ => rfl, Kd.C_nil _ _, fun x hx => nomatch hx⟩
  · obtain ⟨rfl, rfl, rfl⟩ : E = some a ∧ len = len' ∧ cap = cap' := by simpa using hcs
    clear hcs
    have hlm : len ≤ m := by rw [hmm]; split <;> omega
    have h6 : Try.prog.cellsOf 29 = 6 := by kernel_rfl
    have hsl := bulks.slice_le (H := H) ((List.range len).map D) ((List.range (m - len)).map fun j => D (len + j))
    have hse := bulks.slice_elems (H := H) ((List.range len).map D) ((List.range (m - len)).map fun j => D (len + j))
    simp only [List.length_map, List.length_range] at hsl
    have key : ∀ i, i < len → ∃ x : S29, (∀ j u, [Value.bool x.f0, .int .i64 x.f1.f0.f0, .int .i64 x.f1.f0.f1, .int .i64 x.f1.f1.f0, .int .i64 x.f1.f1.f1, .string x.f2][j]? = some u → W.cell? (a.add (i * 6 + j)) = some u) ∧ x.f2.size ≤ 1048576 ∧ x.f1.f0.f1 ≤ 9223372036854775807 ∧ x.f1.f1.f1 ≤ 9223372036854775807 := by
      intro i hi
      obtain ⟨cs', h1, h2⟩ := hx i (by omega)
      obtain ⟨b, x0, x1, x2, x3, s, y, rfl, hd, w0, w1, w2, w3, hs⟩ := trod_edit h2
      obtain ⟨_, hlen, hcell⟩ := World.cells?_some h1
      refine ⟨⟨b, ⟨⟨x0, x1⟩, ⟨x2, x3⟩⟩, s⟩, fun j u hj => ?_, ?_, (int_wf w1).2, (int_wf w3).2⟩
      · have hj6 : j < 6 := by
          have := (List.getElem?_eq_some_iff.1 hj).1
          simpa using this
        have := hcell j (by rw [h6]; exact hj6)
        rw [addr_add, h6] at this
        rw [this]
        exact hj
      · have hD : D i ∈ (List.range len).map D := List.mem_map.2 ⟨i, List.mem_range.2 hi, rfl⟩
        have p1 := bulks.part_le hD
        rw [(Prod.mk.inj hd).1] at p1
        have p2 : Rows.uptoBulkAll [DataW.lit (H := H) (.bool b), y, .lit (.string s.data.toList)] ≤ Rows.uptoBulk (.agg [DataW.lit (H := H) (.bool b), y, .lit (.string s.data.toList)]) := by simp [Rows.uptoBulk]
        have p3 := bulks.part_le (H := H) (d := .lit (.string s.data.toList)) (l := [DataW.lit (H := H) (.bool b), y, .lit (.string s.data.toList)]) (by simp)
        rw [bulks.string_eq] at p3
        have p4 : s.data.toList.length = s.size := Array.length_toList
        simp only at hk
        show s.size ≤ 1048576
        omega
    haveI : Inhabited S29 := ⟨z29⟩
    obtain ⟨V, hV⟩ := choose_lt key
    have hel : ((List.range len).map V).length = len := by simp
    refine ⟨(List.range len).map V, hel, hl, by simp only at hk; omega, fun e => (by cases e), ⟨rfl, by rw [hel]; unfold maxLen at hm; omega, fun _ => ⟨a, rfl, fun j p hj => ?_⟩⟩, fun x hxm => ?_⟩
    · obtain ⟨hj1, rfl⟩ := List.getElem?_eq_some_iff.1 hj
      have hj2 : j < len := by simpa using hj1
      refine ⟨_, ?_, k29_mk W _, fun i u hu => ?_⟩
      · rfl
      · simp only [List.getElem_map, List.getElem_range] at hu
        exact (hV j hj2).1 i u hu
    · obtain ⟨i, hi, rfl⟩ := List.mem_map.1 hxm
      exact (hV i (List.mem_range.1 hi)).2
end
/-- Edits cut at a place. -/
theorem cutE_pre (W : World) (E : Option Addr) (c : Nat) (es : List S29) (x1 : Int) (hC : Kd.C k29 W E es.length es) (hc : es.length ≤ c) (h0 : 0 ≤ x1) (h2 : x1 ≤ es.length) :
    (∀ W1 : World, (Instr.slice 47 (.slice E es.length c) none (some (.int .i64 x1)) none).run Try.prog W1 = .ok (.slice E (es.take x1.toNat).length c) W1) ∧
      Kd.C k29 W E (es.take x1.toNat).length (es.take x1.toNat) := by
  obtain ⟨i0, hi0, _, hsz, _⟩ := info_parts info29
  have hcut := cut_to (P := Try.prog) 47 29 .i64 Try.underlying47 hi0 E es.length c x1 h0 h2 hc
  have hmid := Kd.C_take hC (m := x1.toNat) (by omega)
  have hml : (es.take x1.toNat).length = x1.toNat := by rw [List.length_take]; omega
  refine ⟨fun W1 => ?_, hmid⟩
  rw [hml]; exact hcut W1
theorem cutE_suf (W : World) (E : Option Addr) (c : Nat) (es : List S29) (x0 : Int) (hC : Kd.C k29 W E es.length es) (hc : es.length ≤ c) (h0 : 0 ≤ x0) (h2 : x0 ≤ es.length) :
    ∃ B d, (∀ W1 : World, (Instr.slice 47 (.slice E es.length c) (some (.int .i64 x0)) none none).run Try.prog W1 = .ok (.slice B (es.drop x0.toNat).length d) W1) ∧
      Kd.C k29 W B (es.drop x0.toNat).length (es.drop x0.toNat) := by
  obtain ⟨i0, hi0, _, hsz, _⟩ := info_parts info29
  have hcut := cut_from (P := Try.prog) 47 29 .i64 Try.underlying47 hi0 6 hsz E es.length c x0 h0 h2
  have hml : (es.drop x0.toNat).length = es.length - x0.toNat := List.length_drop
  refine ⟨_, c - x0.toNat, fun W1 => ?_, Kd.C_drop hC (m := x0.toNat) (c := c) (by omega) hc⟩
  rw [hml]; exact hcut W1
end Go.Proofs.Ytjebkpcekkkbkaa.B

/-
  EditList, walked.
-/
namespace Go.Proofs.Ytjebkpcekkkbkaa.B
open Go.RowKit Go.Shelf Go.Proofs Go.Proofs.YtjebkpcekkkbkaaW.PrintWords Go.Proofs.YtjebkpcekkkbkaaW.PrintLast Go.Proofs.YtjebkpcekkkbkaaW.PrintMore Go.Proofs.Ytjebkpcekkkbkaa.FBase
set_option linter.unusedVariables false
set_option linter.unusedSimpArgs false

theorem eall_len : ∀ (es : List Ed) (l : List Int), Bytes l → V l → l.length ≤ 8192 → (∀ e ∈ es, Bytes e.t) → (eall l es).1.length ≤ 8192
  | [], l, _, _, hn, _ => by simpa [eall] using hn
  | e :: es, l, hB, hV, hn, hT => by
    unfold eall
    by_cases h : (eone l e).2 = 0
    · have hv := eone_V hB (hT e (by simp)) h
      have := eall_len es (eone l e).1 hv.2.1 hv.1 hv.2.2 (fun x hx => hT x (by simp [hx]))
      simp only [h]
      simpa using this
    · simp [h]
theorem eapp_len (l : List Int) (es : List Ed) (hB : Bytes l) (hn : l.length ≤ 8192) (hT : ∀ e ∈ es, Bytes e.t) : (eapp l es).1.length ≤ 8192 := by
  unfold eapp
  by_cases h1 : (chk l).2 ≠ 0
  · rw [if_pos h1]; simp
  · rw [if_neg h1]
    by_cases h2 : 32 < es.length
    · rw [if_pos h2]; simp
    · rw [if_neg h2]
      exact eall_len es l hB ((chk_V hB).1 (by omega)) hn hT
theorem eds_T (es : List S29) : ∀ e ∈ es.map edOf, Bytes e.t := by
  intro e he
  obtain ⟨x, _, rfl⟩ := List.mem_map.1 he
  exact bytesOf_B _

set_option maxRecDepth 100000 in
set_option maxHeartbeats 8000000 in
theorem EditList_no (A E : Option Addr) (c d : Nat) (l : List Int) (es : List S29) (cut : Int) (w : World) (hr : Kd.C (Kd.int .u8) w A l.length l) (hc : l.length ≤ c) (hn : A = none → c = 0) (hB : Bytes l) (hre : Kd.C k29 w E es.length es) (hd : es.length ≤ d) (he : ∀ x ∈ es, x.f2.size ≤ 140737488351232 ∧ x.f1.f0.f1 ≤ 9223372036854775807 ∧ x.f1.f1.f1 ≤ 9223372036854775807) (hs : l.length ≤ 140737488351232) (h : ¬ ((chk l).2 = 0 ∧ l.length ≤ 1000)) :
    Calls Try.prog 8 #[.slice A l.length c, .slice E es.length d, .int .i64 cut] w fun e w' => e = .returned (.bool true) ∧ Below w.heap.size w w' := by
  have HS := Aside0.mk (((Sta.start w).only hr (keeps_C _ _ _ _)).add hre (keeps_C _ _ _ _))
  have HCl := Aside0.mk hc
  have HCe := Aside0.mk hd
  have HT := Aside0.mk (text_no l hB hs h)
  clear hr hc h hB hre hd he
  go_enter Try.func8, Try.ntmps8
  go_wp2_with (first | (go_at_call 21; refine (works15_ok _).mono ?_; rintro e w1 ⟨rfl, hb⟩; have m_ := Aside0.mk (HS.out.call (by repeat (first | exact Below.refl _ _ | apply below_alloc | apply pw_below_drewN | apply below_drew1 | apply bytes_step)) hb); clear HS hb ; have HS := m_; clear m_) | (go_at_call 22; refine (colophonlaw15_text.calls _ A c l _ _ (HS.out.step (by repeat (first | exact Below.refl _ _ | apply below_alloc | apply pw_below_drewN | apply below_drew1 | apply bytes_step))).now.2 HCl.out HT.out).mono ?_; rintro e w2 ⟨rfl, hd⟩; have hb := hd.below; clear hd; have m_ := Aside0.mk (HS.out.call (by repeat (first | exact Below.refl _ _ | apply below_alloc | apply pw_below_drewN | apply below_drew1 | apply bytes_step)) hb); clear HS hb ; have HS := m_; clear m_))
  go_ret
  exact ⟨rfl, (HS.out.step (by repeat (first | exact Below.refl _ _ | apply below_alloc | apply pw_below_drewN | apply below_drew1 | apply bytes_step))).bel⟩
set_option maxRecDepth 100000 in
set_option maxHeartbeats 8000000 in
theorem EditList_many (A E : Option Addr) (c d : Nat) (l : List Int) (es : List S29) (cut : Int) (w : World) (hr : Kd.C (Kd.int .u8) w A l.length l) (hc : l.length ≤ c) (hn : A = none → c = 0) (hB : Bytes l) (hre : Kd.C k29 w E es.length es) (hd : es.length ≤ d) (he : ∀ x ∈ es, x.f2.size ≤ 140737488351232 ∧ x.f1.f0.f1 ≤ 9223372036854775807 ∧ x.f1.f1.f1 ≤ 9223372036854775807) (hv : (chk l).2 = 0 ∧ l.length ≤ 1000) (h : 32 < es.length) :
    Calls Try.prog 8 #[.slice A l.length c, .slice E es.length d, .int .i64 cut] w fun e w' => e = .returned (.bool true) ∧ Below w.heap.size w w' := by
  have HS := Aside0.mk (((Sta.start w).only hr (keeps_C _ _ _ _)).add hre (keeps_C _ _ _ _))
  have HCl := Aside0.mk hc
  have HCe := Aside0.mk hd
  have HT := Aside0.mk (text_yes l hB hv.1 hv.2)
  have g9 : decide (32 < es.length) = true := decide_eq_true h
  have g8 : decide ((32 : Int) < (es.length : Int)) = true := decide_eq_true (by omega)
  clear hr hc h hB hre hd he
  go_enter Try.func8, Try.ntmps8
  go_wp2_with (first | (go_at_call 21; refine (works15_ok _).mono ?_; rintro e w1 ⟨rfl, hb⟩; have m_ := Aside0.mk (HS.out.call (by repeat (first | exact Below.refl _ _ | apply below_alloc | apply pw_below_drewN | apply below_drew1 | apply bytes_step)) hb); clear HS hb ; have HS := m_; clear m_) | (go_at_call 22; refine (colophonlaw15_text.calls _ A c l _ _ (HS.out.step (by repeat (first | exact Below.refl _ _ | apply below_alloc | apply pw_below_drewN | apply below_drew1 | apply bytes_step))).now.2 HCl.out HT.out).mono ?_; rintro e w2 ⟨rfl, hd⟩; have hb := hd.below; clear hd; have m_ := Aside0.mk (HS.out.call (by repeat (first | exact Below.refl _ _ | apply below_alloc | apply pw_below_drewN | apply below_drew1 | apply bytes_step)) hb); clear HS hb ; have HS := m_; clear m_))
  go_ret
  exact ⟨rfl, (HS.out.step (by repeat (first | exact Below.refl _ _ | apply below_alloc | apply pw_below_drewN | apply below_drew1 | apply bytes_step))).bel⟩
set_option maxRecDepth 100000 in
set_option maxHeartbeats 8000000 in
theorem EditList_ok (A E : Option Addr) (c d : Nat) (l : List Int) (es : List S29) (cut : Int) (w : World) (hr : Kd.C (Kd.int .u8) w A l.length l) (hc : l.length ≤ c) (hn : A = none → c = 0) (hB : Bytes l) (hre : Kd.C k29 w E es.length es) (hd : es.length ≤ d) (he : ∀ x ∈ es, x.f2.size ≤ 140737488351232 ∧ x.f1.f0.f1 ≤ 9223372036854775807 ∧ x.f1.f1.f1 ≤ 9223372036854775807) (hv : (chk l).2 = 0 ∧ l.length ≤ 1000) (h : es.length ≤ 32) :
    Calls Try.prog 8 #[.slice A l.length c, .slice E es.length d, .int .i64 cut] w fun e w' => e = .returned (.bool true) ∧ Below w.heap.size w w' := by
  have HT := Aside0.mk (text_yes l hB hv.1 hv.2)
  have g9 : decide (32 < es.length) = false := decide_eq_false (by omega)
  have g8 : decide ((32 : Int) < (es.length : Int)) = false := decide_eq_false (by omega)
  have v1 : IntKind.i64.wrap ((es.length : Int) + 1) = (es.length : Int) + 1 := IntWalk.i64_in _ (by omega)
  have HBR := Aside0.mk (bring_f cut ((es.length : Int) + 1) (by omega) (by omega))
  have b0 := Int.emod_nonneg cut (show ((es.length : Int) + 1) ≠ 0 by omega)
  have b1 := Int.emod_lt_of_pos cut (show (0 : Int) < (es.length : Int) + 1 by omega)
  generalize cut % ((es.length : Int) + 1) = b at *
  have hlaw := eapp_list l (es.map edOf) b.toNat hB (eds_T es) hv.1 (by rw [List.length_map]; exact h) (by rw [List.length_map]; omega)
  rw [← List.map_take, ← List.map_drop] at hlaw
  obtain ⟨E1, CA0⟩ := cutE_pre w E d es b hre hd b0 (by omega)
  obtain ⟨B5, d5, E2, CB0⟩ := cutE_suf w E d es b hre hd b0 (by omega)
  have HEa : Aside0 (∀ x ∈ es.take b.toNat, x.f2.size ≤ 140737488351232 ∧ x.f1.f0.f1 ≤ 9223372036854775807 ∧ x.f1.f1.f1 ≤ 9223372036854775807) := ⟨fun x hx => he x (List.mem_of_mem_take hx)⟩
  have HEb : Aside0 (∀ x ∈ es.drop b.toNat, x.f2.size ≤ 140737488351232 ∧ x.f1.f0.f1 ≤ 9223372036854775807 ∧ x.f1.f1.f1 ≤ 9223372036854775807) := ⟨fun x hx => he x (List.mem_of_mem_drop hx)⟩
  have HS := Aside0.mk (((Sta.start w).only hr (keeps_C _ _ _ _)).add hre (keeps_C _ _ _ _))
  have HCl := Aside0.mk hc
  have HCe := Aside0.mk hd
  have HE := Aside0.mk he
  have HBY := Aside0.mk hB
  have hs6 : l.length ≤ 1048576 := by omega
  have y8 := eapp_len l (es.map edOf) hB (by omega) (eds_T es)
  have x8 := eapp_len l ((es.take b.toNat).map edOf) hB (by omega) (eds_T _)
  have hxB : (eapp l ((es.take b.toNat).map edOf)).2 = 0 → Bytes (eapp l ((es.take b.toNat).map edOf)).1 := by
    intro h0
    have e0 : eapp l ((es.take b.toNat).map edOf) = eall l ((es.take b.toNat).map edOf) := by unfold eapp; rw [if_neg (by omega), if_neg (by rw [List.length_map, List.length_take]; omega)]
    rw [e0] at h0 ⊢
    exact (eall_V _ l hB ((chk_V hB).1 hv.1) (eds_T _) h0).2
  generalize es.take b.toNat = ea at *
  generalize es.drop b.toNat = eb at *
  have CA : Aside0 (∀ W, Below w.heap.size w W → Kd.C k29 W E ea.length ea) := ⟨fun W hW => Kd.C_below CA0 hW⟩
  have CB : Aside0 (∀ W, Below w.heap.size w W → Kd.C k29 W B5 eb.length eb) := ⟨fun W hW => Kd.C_below CB0 hW⟩
  obtain ⟨y, hy⟩ : ∃ y, (eapp l (es.map edOf)).1 = y := ⟨_, rfl⟩
  obtain ⟨r, hr1⟩ : ∃ y, (eapp l (es.map edOf)).2 = y := ⟨_, rfl⟩
  obtain ⟨x, hx⟩ : ∃ y, (eapp l (ea.map edOf)).1 = y := ⟨_, rfl⟩
  obtain ⟨q, hq⟩ : ∃ y, (eapp l (ea.map edOf)).2 = y := ⟨_, rfl⟩
  have HR1 := Aside0.mk hy
  have HR2 := Aside0.mk hr1
  have HQ1 := Aside0.mk hx
  have HQ2 := Aside0.mk hq
  rw [hy] at y8
  rw [hx] at x8
  rw [hx, hq] at hxB
  rw [hx, hq, hy, hr1] at hlaw
  have t1 := True.intro
  have t2 := True.intro
  have t3 := True.intro
  by_cases hz : q = 0
  · subst hz
    have HXB := Aside0.mk (hxB rfl)
    have h9 := hlaw.2 rfl
    have HP1 : Aside0 ((eapp x (eb.map edOf)).1 = y) := ⟨by rw [← h9]; exact hy⟩
    have HP2 : Aside0 ((eapp x (eb.map edOf)).2 = r) := ⟨by rw [← h9]; exact hr1⟩
    have hs7 : x.length ≤ 1048576 := by omega
    have HEQ := Aside0.mk (eq_f y (by omega))
    clear hr hc hB hre hd he hv hlaw hxB CA0 CB0 h9 hy hr1 hx hq
    go_enter Try.func8, Try.ntmps8
    go_wp2_with (first | (go_at_call 21; refine (works15_ok _).mono ?_; rintro e w1 ⟨rfl, hb⟩; have m_ := Aside0.mk (HS.out.call (by repeat (first | exact Below.refl _ _ | apply below_alloc | apply pw_below_drewN | apply below_drew1 | apply bytes_step)) hb); clear HS hb ; have HS := m_; clear m_) | (go_at_call 22; refine (colophonlaw15_text.calls _ A c l _ _ (HS.out.step (by repeat (first | exact Below.refl _ _ | apply below_alloc | apply pw_below_drewN | apply below_drew1 | apply bytes_step))).now.2 HCl.out HT.out).mono ?_; rintro e w2 ⟨rfl, hd⟩; have hb := hd.below; clear hd; have m_ := Aside0.mk (HS.out.call (by repeat (first | exact Below.refl _ _ | apply below_alloc | apply pw_below_drewN | apply below_drew1 | apply bytes_step)) hb); clear HS hb ; have HS := m_; clear m_) | (go_at_call 29; refine (colophonref00_Bring.calls cut _ _ _ HBR.out).mono ?_; rintro e w3 ⟨rfl, nb, rfl⟩) | (have _t := t1; go_at_call 27; refine (Apply_is A E c d l es _ (HS.out.step (by repeat (first | exact Below.refl _ _ | apply below_alloc | apply pw_below_drewN | apply below_drew1 | apply bytes_step))).now.2 HCl.out hn (HS.out.step (by repeat (first | exact Below.refl _ _ | apply below_alloc | apply pw_below_drewN | apply below_drew1 | apply bytes_step))).now.1 HBY.out hs6 HE.out).mono ?_; rintro e w4 ⟨v, rfl, hR, hb⟩; rw [HR2.out]; rw [HR1.out] at hR; obtain ⟨A2, k2, rfl, hl2, hn2, hC2⟩ := Ap.read (.inr hR); have HLA2 := Aside0.mk hl2; have HNA2 := Aside0.mk hn2; clear hR hl2 hn2; have m_ := Aside0.mk ((HS.out.call (by repeat (first | exact Below.refl _ _ | apply below_alloc | apply pw_below_drewN | apply below_drew1 | apply bytes_step)) hb).add hC2 (keeps_C _ _ _ _)); clear HS hb hC2; have HS := m_; clear m_; clear t1 _t) | (have _t := t2; go_at_call 27; refine (Apply_is A E c d l ea _ (HS.out.step (by repeat (first | exact Below.refl _ _ | apply below_alloc | apply pw_below_drewN | apply below_drew1 | apply bytes_step))).now.2.2 HCl.out hn (CA.out _ HS.out.bel) HBY.out hs6 HEa.out).mono ?_; rintro e w5 ⟨v, rfl, hR, hb⟩; rw [HQ2.out]; rw [HQ1.out] at hR; obtain ⟨A3, k3, rfl, hl2, hn2, hC2⟩ := Ap.read (.inr hR); have HLA3 := Aside0.mk hl2; have HNA3 := Aside0.mk hn2; clear hR hl2 hn2; have m_ := Aside0.mk ((HS.out.call (by repeat (first | exact Below.refl _ _ | apply below_alloc | apply pw_below_drewN | apply below_drew1 | apply bytes_step)) hb).add hC2 (keeps_C _ _ _ _)); clear HS hb hC2; have HS := m_; clear m_; clear t2 _t) | (have _t := t3; go_at_call 27; refine (Apply_is A3 B5 k3 d5 x eb _ (HS.out.step (by repeat (first | exact Below.refl _ _ | apply below_alloc | apply pw_below_drewN | apply below_drew1 | apply bytes_step))).now.1 HLA3.out HNA3.out (CB.out _ HS.out.bel) HXB.out hs7 HEb.out).mono ?_; rintro e w6 ⟨v, rfl, hR, hb⟩; rw [HP2.out]; rw [HP1.out] at hR; obtain ⟨A4, k4, rfl, hl2, hn2, hC2⟩ := Ap.read (.inr hR); have HLA4 := Aside0.mk hl2; have HNA4 := Aside0.mk hn2; clear hR hl2 hn2; have m_ := Aside0.mk ((HS.out.call (by repeat (first | exact Below.refl _ _ | apply below_alloc | apply pw_below_drewN | apply below_drew1 | apply bytes_step)) hb).add hC2 (keeps_C _ _ _ _)); clear HS hb hC2; have HS := m_; clear m_; clear t3 _t) | (go_at_call 20; refine (colophonref00_EqBytes.calls _ A2 k2 y A4 k4 y true _ (HS.out.step (by repeat (first | exact Below.refl _ _ | apply below_alloc | apply pw_below_drewN | apply below_drew1 | apply bytes_step))).now.2.2.1 HLA2.out (HS.out.step (by repeat (first | exact Below.refl _ _ | apply below_alloc | apply pw_below_drewN | apply below_drew1 | apply bytes_step))).now.1 HLA4.out HEQ.out).mono ?_; rintro e wq ⟨rfl, hd⟩; have hb := hd.below; clear hd; have m_ := Aside0.mk (HS.out.call (by repeat (first | exact Below.refl _ _ | apply below_alloc | apply pw_below_drewN | apply below_drew1 | apply bytes_step)) hb); clear HS hb ; have HS := m_; clear m_))
    go_ret
    exact ⟨rfl, (HS.out.step (by repeat (first | exact Below.refl _ _ | apply below_alloc | apply pw_below_drewN | apply below_drew1 | apply bytes_step))).bel⟩
  · have h9 := hlaw.1 hz
    obtain ⟨rfl, rfl⟩ := h9
    have g7 : (r != 0) = true := bne_iff_ne.mpr hz
    clear hr hc hB hre hd he hv hlaw hxB CA0 CB0 hy hr1 hx hq
    go_enter Try.func8, Try.ntmps8
    go_wp2_with (first | (go_at_call 21; refine (works15_ok _).mono ?_; rintro e w1 ⟨rfl, hb⟩; have m_ := Aside0.mk (HS.out.call (by repeat (first | exact Below.refl _ _ | apply below_alloc | apply pw_below_drewN | apply below_drew1 | apply bytes_step)) hb); clear HS hb ; have HS := m_; clear m_) | (go_at_call 22; refine (colophonlaw15_text.calls _ A c l _ _ (HS.out.step (by repeat (first | exact Below.refl _ _ | apply below_alloc | apply pw_below_drewN | apply below_drew1 | apply bytes_step))).now.2 HCl.out HT.out).mono ?_; rintro e w2 ⟨rfl, hd⟩; have hb := hd.below; clear hd; have m_ := Aside0.mk (HS.out.call (by repeat (first | exact Below.refl _ _ | apply below_alloc | apply pw_below_drewN | apply below_drew1 | apply bytes_step)) hb); clear HS hb ; have HS := m_; clear m_) | (go_at_call 29; refine (colophonref00_Bring.calls cut _ _ _ HBR.out).mono ?_; rintro e w3 ⟨rfl, nb, rfl⟩) | (have _t := t1; go_at_call 27; refine (Apply_is A E c d l es _ (HS.out.step (by repeat (first | exact Below.refl _ _ | apply below_alloc | apply pw_below_drewN | apply below_drew1 | apply bytes_step))).now.2 HCl.out hn (HS.out.step (by repeat (first | exact Below.refl _ _ | apply below_alloc | apply pw_below_drewN | apply below_drew1 | apply bytes_step))).now.1 HBY.out hs6 HE.out).mono ?_; rintro e w4 ⟨v, rfl, hR, hb⟩; rw [HR2.out]; rw [HR1.out] at hR; obtain ⟨A2, k2, rfl, hl2, hn2, hC2⟩ := Ap.read (.inr hR); have HLA2 := Aside0.mk hl2; have HNA2 := Aside0.mk hn2; clear hR hl2 hn2; have m_ := Aside0.mk ((HS.out.call (by repeat (first | exact Below.refl _ _ | apply below_alloc | apply pw_below_drewN | apply below_drew1 | apply bytes_step)) hb).add hC2 (keeps_C _ _ _ _)); clear HS hb hC2; have HS := m_; clear m_; clear t1 _t) | (have _t := t2; go_at_call 27; refine (Apply_is A E c d l ea _ (HS.out.step (by repeat (first | exact Below.refl _ _ | apply below_alloc | apply pw_below_drewN | apply below_drew1 | apply bytes_step))).now.2.2 HCl.out hn (CA.out _ HS.out.bel) HBY.out hs6 HEa.out).mono ?_; rintro e w5 ⟨v, rfl, hR, hb⟩; rw [HQ2.out]; rw [HQ1.out] at hR; obtain ⟨A3, k3, rfl, hl2, hn2, hC2⟩ := Ap.read (.inr hR); have HLA3 := Aside0.mk hl2; have HNA3 := Aside0.mk hn2; clear hR hl2 hn2; have m_ := Aside0.mk ((HS.out.call (by repeat (first | exact Below.refl _ _ | apply below_alloc | apply pw_below_drewN | apply below_drew1 | apply bytes_step)) hb).add hC2 (keeps_C _ _ _ _)); clear HS hb hC2; have HS := m_; clear m_; clear t2 _t))
    go_ret
    exact ⟨rfl, (HS.out.step (by repeat (first | exact Below.refl _ _ | apply below_alloc | apply pw_below_drewN | apply below_drew1 | apply bytes_step))).bel⟩
theorem EditList_row (A : Option Addr) (n c : Nat) (zs : List Int) (E : Option Addr) (m d : Nat) (es : List S29) (cut : Int) (W : World) (h : IsRow .u8 W A n c zs) (hb : c ≤ 1048576) (g : IsEds W E m d es) (_hi : (Lit.int .i64 cut).wf = true) :
    Calls Try.prog 8 #[.slice A n c, .slice E m d, .int .i64 cut] W fun e W' => e = .returned (.bool true) ∧ Below W.heap.size W W' := by
  have hn : A = none → c = 0 := fun e => by
    subst e
    rcases h with ⟨_, _, h, _⟩ | ⟨x, h, _⟩
    · exact h
    · cases h
  obtain ⟨l, rfl, hc, hC, hw⟩ := h.reads
  obtain ⟨rfl, hd, hm, _, hre, he⟩ := g
  have hB : Bytes l := fun x hx => byte_wf (hw x hx)
  have he2 : ∀ x ∈ es, x.f2.size ≤ 140737488351232 ∧ x.f1.f0.f1 ≤ 9223372036854775807 ∧ x.f1.f1.f1 ≤ 9223372036854775807 := fun x hx => ⟨by have := (he x hx).1; omega, (he x hx).2⟩
  by_cases hz : (chk l).2 = 0 ∧ l.length ≤ 1000
  · by_cases h2 : es.length ≤ 32
    · exact EditList_ok A E c d l es cut W hC hc hn hB hre hd he2 hz h2
    · exact EditList_many A E c d l es cut W hC hc hn hB hre hd he2 hz (by omega)
  · exact EditList_no A E c d l es cut W hC hc hn hB hre hd he2 (by omega) hz
end Go.Proofs.Ytjebkpcekkkbkaa.B

namespace Go.Proofs.Ytjebkpcekkkbkaa.editList
open Go.ChangeShapes Go.WideShapes Go.ChangeAt Go.RowKit Go.Proofs.Ytjebkpcekkkbkaa.B
set_option linter.unusedVariables false
theorem own : ownKnob Try.prog.godebug = none := by kernel_rfl
theorem laidOut : laidOutB Try.prog = true := by kernel_rfl
set_option maxRecDepth 100000 in
theorem contract (H : Type) (enc : TypeId × Value → H) (W : World) (base : Nat) (args : Array Value) (ds gs : List (DataW H)) (before : List MemPlace)
    (hval0 : ∀ (j : Nat) t v, Try.f8.params[j]? = some t → args[j]? = some v → Value.okWide Try.prog W .any base t v)
    (hW : DataW.Whole enc Try.prog Try.f8.params.toList Rows.editListSpec.vars false W args.toList ds gs before) (hk : Rows.uptoSmall H (ds ++ gs) = true) :
    Calls Try.prog 8 args W fun e W' => ∃ v, e = .returned v ∧ Rows.editListSpec.post enc Try.prog Try.f8 false true false false W args v W' := by
  have hW' := hW
  obtain ⟨p, q, hA0, hV, rfl, hfz, hnd⟩ := hW
  have hA : DataW.TrodAll enc Try.prog W 0 (fun _ => true) true Try.f8.params.toList args.toList ds p := hA0
  have hval : ∀ (j : Nat) t v, Try.f8.params[j]? = some t → args[j]? = some v → Value.okWide Try.prog W .any base t v := hval0
  rw [Try.params8] at hA hval
  obtain ⟨v0, vs0, d0, ds0, p0, q0, hargs, rfl, rfl, h0, r0⟩ := trodAll_cons hA
  obtain ⟨v1, vs1, d1, ds1, p1, q1, rfl, rfl, rfl, h1, r1⟩ := trodAll_cons r0
  obtain ⟨v2, vs2, d2, ds2, p2, q2, rfl, rfl, rfl, h2, r2⟩ := trodAll_cons r1
  obtain ⟨rfl, rfl, rfl⟩ := trodAll_nil r2
  obtain rfl : args = #[v0, v1, v2] := by cases args; simp_all
  obtain ⟨rfl, rfl⟩ := trodVars_none hV
  have hbulk := bulks.bound hk
  obtain ⟨a0, len0, cap0, rfl⟩ := okWide_slice Try.underlying22 (hval 0 22 v0 rfl rfl)
  have k0 := h0
  have lt0 : ∀ x ∈ p0, x.block < W.heap.size := by obtain ⟨m, hm⟩ := k0; exact DataW.trod_lt m _ _ _ hm
  obtain ⟨z0, w0, b0⟩ : ∃ zs, IsRow .u8 W a0 len0 cap0 zs ∧ cap0 ≤ 1048576 := by
    obtain ⟨fuel, hf⟩ := h0
    rcases open_ints Try.underlying22 Try.underlying5 (by kernel_rfl) hf with ⟨hcs, _⟩ | ⟨x, l, c, zs, hcs, _, hl, hm, hz, hd, hcell, hwz⟩
    · simp [Value.cells] at hcs
      obtain ⟨rfl, rfl, rfl⟩ := hcs
      exact ⟨[], .inl ⟨rfl, rfl, rfl, rfl⟩, by decide⟩
    · simp [Value.cells] at hcs
      obtain ⟨rfl, rfl, rfl⟩ := hcs
      refine ⟨zs, .inr ⟨_, rfl, hl, hm, by simpa using hz, hcell, hwz⟩, ?_⟩
      injection hd with hd _
      have hp : d0 ∈ _ := (show d0 ∈ ([d0, d1, d2] : List (DataW H)) ++ [] from by simp)
      have h1 := bulks.part_le hp
      rw [hd] at h1
      have h2 := bulks.slice_le (H := H) (lits .u8 (zs.take len0)) (lits .u8 (zs.drop len0))
      rw [hd] at hbulk
      have hz' : zs.length = cap0 := by simpa using hz
      simp [lits] at h1 h2 hbulk
      omega
  obtain ⟨a1, len1, cap1, rfl⟩ := okWide_slice Try.underlying47 (hval 1 47 v1 rfl rfl)
  have k1 := h1
  have lt1 : ∀ x ∈ p1, x.block < W.heap.size := by obtain ⟨m, hm⟩ := k1; exact DataW.trod_lt m _ _ _ hm
  obtain ⟨z1, w1⟩ : ∃ es, IsEds W a1 len1 cap1 es := by
    obtain ⟨fuel, hf⟩ := h1
    have hp : d1 ∈ _ := (show d1 ∈ ([d0, d1, d2] : List (DataW H)) ++ [] from by simp)
    exact open_eds hf (Nat.le_trans (bulks.part_le hp) hbulk)
  obtain ⟨a2, rfl, rfl, rfl, w2⟩ := open_int Try.underlying3 (hval 2 3 v2 rfl rfl) h2
  clear hA0 hval0
  refine (EditList_row a0 len0 cap0 z0 a1 len1 cap1 z1 a2 W w0 b0 w1 w2).mono fun e W' ⟨he, bel⟩ => ?_
  subst he
  exact ⟨_, rfl, _, _, _, [], _, [], hW', trodAll_mk1 (shut_bool Try.underlying4 _), (trodAll_cons_mk (Below.trod laidOut (by kernel_rfl) (of_decide_eq_true (by kernel_rfl)) k0 bel lt0) (trodAll_cons_mk (Below.trod laidOut (by kernel_rfl) (of_decide_eq_true (by kernel_rfl)) k1 bel lt1) (trodAll_cons_mk (shut_int Try.underlying3 w2) trodAll_mk0))), rfl, bel.frame _, fun h => by cases h⟩
set_option maxRecDepth 100000 in
theorem lifted (os : Os) (started : os.Started) (H : Type) (enc : TypeId × Value → H) (F : Stop.Interp) :
    ReturnsInHanded {} Try.checked os 8 .any ((Rows.OpenSpec.upto Rows.editListSpec).pre6 enc Try.prog Try.f8 Rows.editListUptoRow.domain false) (((Rows.OpenSpec.upto Rows.editListSpec).at F).post enc Try.prog Try.f8 false true false false) := by
  refine returnsInHanded_of_cond (C := Try.checked) (s := Rows.OpenSpec.upto Rows.editListSpec) (k := Rows.uptoSmall) rfl own started (by kernel_rfl) Try.func8
    (OpenSpec.witness (enc := enc) (C := Try.checked) (s := Rows.OpenSpec.upto Rows.editListSpec) (k := Rows.uptoSmall) rfl false ⟨#[], #[.slice none 0 0, .slice none 0 0, .int .i64 0], []⟩ 8 (by kernel_rfl) (by kernel_rfl) (by kernel_rfl)
      (x := ([.nil, .nil, .lit (.int .i64 0)], [], [])) (by kernel_rfl) rfl (by kernel_rfl)) ?_
  intro W base args ds gs before hval hW _ hk _
  exact contract H enc W base args ds gs before hval hW hk
theorem proved : Rows.EditListUptoSaid :=
  OpenClaim.holds_of_cond 8 Try.f8 rfl rfl rfl rfl rfl rfl rfl ⟨rfl, rfl, rfl, rfl, rfl⟩ rfl rfl rfl rfl rfl (by kernel_rfl) Try.func8 (by kernel_rfl)
    (of_decide_eq_true (by kernel_rfl)) (by unfold Func.isWrapper; first | (rw [if_pos (by decide +kernel)]; kernel_rfl) | (rw [if_neg (by decide +kernel)]; exact ⟨rfl, rfl⟩))
    (fun os started H enc _ F => lifted os started H enc F)
#print axioms proved
end Go.Proofs.Ytjebkpcekkkbkaa.editList
namespace Go.Proofs.Ytjebkpcekkkbkaa
/-- The row, under a short name, for the claim. -/
theorem editListUpto_holds : Rows.EditListUptoSaid := editList.proved
end Go.Proofs.Ytjebkpcekkkbkaa
