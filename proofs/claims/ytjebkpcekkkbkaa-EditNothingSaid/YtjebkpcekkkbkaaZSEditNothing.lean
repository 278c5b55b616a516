/-
  The row of EditNothing, in its full form: for every input the call answers true, and the input reads as it did.
-/
import Derived.RangeFuncNested
import Derived.RangeFuncBound
import Derived.RangeFuncCalls
import Derived.RangeFuncLeaves
import Derived.RangeFuncBox
import Derived.Shelf.Abstract
import Derived.Shelf.RegionOpen
import Derived.OwnWalkIn
import Derived.TacticsInMore
import Derived.LoopNIn
import Derived.LoopIn
import Derived.Test.YtjebkpcekkkbkaaProg
import Derived.Below
import Derived.Deep.Draws
import Derived.Deep.AppendLies
import Derived.Maps.AppendAt
import Derived.OwnWalk
import Derived.Laws.BytesArg
import Derived.Laws.MakeOwn
import Derived.Laws.OwnMore
import Derived.Deep.OwnRows
import Derived.Tactics
import Derived.Lib.ConvBytes
import Derived.Laws.Slices
import Derived.WalkKit
import Derived.KernelRfl
import Derived.RowKit3
import Derived.Deep.LoopGhost
import Derived.Deep.QuietTactic
import Derived.BigQuiet
import Derived.WideLaws
import Derived.Deep.DeepCutAuto
import Derived.Deep.CutBlock
import Derived.Deep.RegionHeld3
import Derived.Laws.Rows
import Derived.Lib.AppendStr
import Derived.ArgAppend
import Derived.Laws.IdiomCopy
import Derived.OrdersHeld
import Derived.Laws.BitsLemmas
import Derived.RowKit
import Derived.Test.YtjebkpcekkkbkaaWWords
import Derived.Test.YtjebkpcekkkbkaaWLast
import Derived.Test.YtjebkpcekkkbkaaWTab
import Derived.Test.YtjebkpcekkkbkaaWFour
import Derived.Test.YtjebkpcekkkbkaaWQPut
import Derived.Test.YtjebkpcekkkbkaaWApart
import Derived.Test.YtjebkpcekkkbkaaWArr
import Derived.Test.YtjebkpcekkkbkaaWZeros
import Derived.Test.YtjebkpcekkkbkaaWFoot
import Derived.Test.YtjebkpcekkkbkaaWKept
import Derived.Test.YtjebkpcekkkbkaaWShare
import Derived.Test.YtjebkpcekkkbkaaWN
import Derived.Test.YtjebkpcekkkbkaaWFootNe
import Derived.Test.YtjebkpcekkkbkaaWAt
import Derived.Test.YtjebkpcekkkbkaaWEqStruct
import Derived.Test.YtjebkpcekkkbkaaWRepsOne
import Derived.Test.YtjebkpcekkkbkaaWInv
import Derived.Test.YtjebkpcekkkbkaaWInvWords
import Derived.Test.YtjebkpcekkkbkaaWGuard
import Derived.Test.YtjebkpcekkkbkaaWNEv
import Derived.Test.YtjebkpcekkkbkaaWMore
import Derived.Deep.DeepFit
import Derived.Test.YtjebkpcekkkbkaaBulk
import Derived.ChangeShapes
import Derived.WalkMore
import Derived.WalkSpells
import Derived.Deep.CutRange
import Derived.IntWalk
import Derived.Lib.SlBytesConst
import Derived.Test.YtjebkpcekkkbkaaWSized
import Derived.ProofKit
import Derived.OpenShut
import Derived.ShutString
import Derived.ChangeOld
import Derived.SizedLaws
import Derived.JoinedCond
import Derived.Test.YtjebkpcekkkbkaaZN13
set_option linter.unusedSimpArgs false
set_option linter.unusedVariables false
/-
  EditNothing, walked.
-/
namespace Go.Proofs.Ytjebkpcekkkbkaa.B
open Go.RowKit Go.Shelf Go.Proofs Go.Proofs.YtjebkpcekkkbkaaW.PrintWords Go.Proofs.YtjebkpcekkkbkaaW.PrintLast Go.Proofs.YtjebkpcekkkbkaaW.PrintMore Go.Proofs.Ytjebkpcekkkbkaa.FBase
set_option linter.unusedVariables false
set_option linter.unusedSimpArgs false

theorem text_f (l : List Int) (hB : Bytes l) (hl : l.length ≤ 140737488351232) : colophonlaw15_text.f (l.length + 9) l = some (if (chk l).2 = 0 then decide ((l.length : Int) ≤ 1000) else false) := by
  unfold colophonlaw15_text.f
  rw [Check_F l hB (by omega) (by omega)]
  simp only [Option.bind_some]
  split <;> rfl
theorem text_yes (l : List Int) (hB : Bytes l) (hv : (chk l).2 = 0) (hl : l.length ≤ 1000) : colophonlaw15_text.f (l.length + 9) l = some true := by
  rw [text_f l hB (by omega), if_pos hv, decide_eq_true (by omega)]
theorem text_no (l : List Int) (hB : Bytes l) (hl : l.length ≤ 140737488351232) (h : ¬ ((chk l).2 = 0 ∧ l.length ≤ 1000)) : colophonlaw15_text.f (l.length + 9) l = some false := by
  rw [text_f l hB hl]
  by_cases hv : (chk l).2 = 0
  · rw [if_pos hv, decide_eq_false (by omega)]
  · rw [if_neg hv]
theorem eq_f (l : List Int) (hl : l.length ≤ 1048576) : colophonref00_EqBytes.f (l.length + 1) l l = some true := by
  rw [EqBytes_f l l hl (Nat.lt_succ_self _)]
  simp
theorem other_B : Bytes [111, 116, 104, 101, 114] := by intro x hx; simp at hx; omega
theorem other_V : V [111, 116, 104, 101, 114] := (csF_ok 20 (r := [(1, 1), (1, 1), (1, 1), (1, 1), (1, 1)]) (by decide +kernel)).v

set_option maxRecDepth 100000 in
set_option maxHeartbeats 8000000 in
theorem EditNothing_no (A : Option Addr) (c : Nat) (l : List Int) (line char : Int) (w : World) (hr : Kd.C (Kd.int .u8) w A l.length l) (hc : l.length ≤ c) (hB : Bytes l) (hs : l.length ≤ 140737488351232) (h : ¬ ((chk l).2 = 0 ∧ l.length ≤ 1000)) :
    Calls Try.prog 9 #[.slice A l.length c, .int .i64 line, .int .i64 char] w fun e w' => e = .returned (.bool true) ∧ Below w.heap.size w w' := by
  have HS := Aside0.mk ((Sta.start w).only hr (keeps_C _ _ _ _))
  have HCl := Aside0.mk hc
  have HT := Aside0.mk (text_no l hB hs h)
  clear hr hc h hB
  go_enter Try.func9, Try.ntmps9
  go_wp2_with (first | (go_at_call 21; refine (works15_ok _).mono ?_; rintro e w1 ⟨rfl, hb⟩; have m_ := Aside0.mk (HS.out.call (by repeat (first | exact Below.refl _ _ | apply below_alloc | apply pw_below_drewN | apply below_drew1 | apply bytes_step)) hb); clear HS hb ; have HS := m_; clear m_) | (go_at_call 22; refine (colophonlaw15_text.calls _ A c l _ _ (HS.out.step (by repeat (first | exact Below.refl _ _ | apply below_alloc | apply pw_below_drewN | apply below_drew1 | apply bytes_step))).now HCl.out HT.out).mono ?_; rintro e w2 ⟨rfl, hd⟩; have hb := hd.below; clear hd; have m_ := Aside0.mk (HS.out.call (by repeat (first | exact Below.refl _ _ | apply below_alloc | apply pw_below_drewN | apply below_drew1 | apply bytes_step)) hb); clear HS hb ; have HS := m_; clear m_))
  go_ret
  exact ⟨rfl, (HS.out.step (by repeat (first | exact Below.refl _ _ | apply below_alloc | apply pw_below_drewN | apply below_drew1 | apply bytes_step))).bel⟩

set_option maxRecDepth 100000 in
set_option maxHeartbeats 8000000 in
theorem EditNothing_ok (A : Option Addr) (c : Nat) (l : List Int) (line char : Int) (w : World) (hr : Kd.C (Kd.int .u8) w A l.length l) (hc : l.length ≤ c) (hn : A = none → c = 0) (hB : Bytes l) (hv : (chk l).2 = 0) (hs : l.length ≤ 1000) :
    Calls Try.prog 9 #[.slice A l.length c, .int .i64 line, .int .i64 char] w fun e w' => e = .returned (.bool true) ∧ Below w.heap.size w w' := by
  have hV := (chk_V hB).1 hv
  have HS := Aside0.mk ((Sta.start w).only hr (keeps_C _ _ _ _))
  have HCl := Aside0.mk hc
  have HBY := Aside0.mk hB
  have HT := Aside0.mk (text_yes l hB hv hs)
  have HEQ := Aside0.mk (eq_f l (by omega))
  have hs6 : l.length ≤ 1048576 := by omega
  have Bline := Aside0.mk (bring_f line 1099511627776 (by decide) (by decide))
  have Bchar := Aside0.mk (bring_f char 1099511627776 (by decide) (by decide))
  have x00 := Int.emod_nonneg line (show (1099511627776 : Int) ≠ 0 by decide)
  have x10 := Int.emod_nonneg char (show (1099511627776 : Int) ≠ 0 by decide)
  have x01 := Int.emod_lt_of_pos line (show (0 : Int) < 1099511627776 by decide)
  have x11 := Int.emod_lt_of_pos char (show (0 : Int) < 1099511627776 by decide)
  generalize line % 1099511627776 = x0 at *
  generalize char % 1099511627776 = x1 at *
  obtain ⟨sb, hsb'⟩ : ∃ sb, strOfNums l = sb := ⟨_, rfl⟩
  have hbs : bytesOf sb = l := by rw [← hsb']; exact bytesOf_str l hB
  have hsb : sb.size ≤ 140737488351232 := by rw [← bytesOf_length, hbs]; omega
  have o1 := nothing_law hB hV (by omega) x0 x1 x00 x10
  have o2 := whole_law other_B (hbs ▸ hB) other_V (hbs ▸ hV) (by rw [bytesOf_length]; rw [← bytesOf_length, hbs]; omega) 0 0 0 0
  have HO1 : Aside0 ((ech l (bytesOf ⟨#[]⟩) false x0 x1 x0 x1).2.2.1 = l ∧ (ech l (bytesOf ⟨#[]⟩) false x0 x1 x0 x1).2.2.2 = 0) := ⟨congrArg Prod.fst o1, congrArg Prod.snd o1⟩
  have HO2 : Aside0 ((ech [111, 116, 104, 101, 114] (bytesOf sb) true 0 0 0 0).2.2.1 = l ∧ (ech [111, 116, 104, 101, 114] (bytesOf sb) true 0 0 0 0).2.2.2 = 0) := ⟨(congrArg Prod.fst o2).trans hbs, congrArg Prod.snd o2⟩
  have o3 : eapp l (([] : List S29).map edOf) = (l, 0) := by unfold eapp; rw [if_neg (by omega), if_neg (by simp)]; rfl
  have HO3 : Aside0 ((eapp l (([] : List S29).map edOf)).1 = l ∧ (eapp l (([] : List S29).map edOf)).2 = 0) := ⟨congrArg Prod.fst o3, congrArg Prod.snd o3⟩
  have HKS := Aside0.mk (fun (W : World) (h : Kd.C (Kd.int .u8) W A l.length l) => Kd.C_string (P := Try.prog) (w := W) (src := 22) (dst := 9) (e := 5) (c := c) Try.underlying22 Try.underlying5 Try.underlying9 h)
  have HSB := Aside0.mk hsb'
  have kc := conv_lit
  clear hr hc hB hv hV o1 o2 o3 hbs hsb'
  have tline := True.intro
  have tchar := True.intro
  have to1 := True.intro
  have to2 := True.intro
  have e1 := True.intro
  have e2 := True.intro
  have e3 := True.intro
  go_enter Try.func9, Try.ntmps9
  go_upto_region 7 with (first | (go_at_call 21; refine (works15_ok _).mono ?_; rintro e w1 ⟨rfl, hb⟩; have m_ := Aside0.mk (HS.out.call (by repeat (first | exact Below.refl _ _ | apply below_alloc | apply pw_below_drewN | apply below_drew1 | apply bytes_step)) hb); clear HS hb ; have HS := m_; clear m_) | (go_at_call 22; refine (colophonlaw15_text.calls _ A c l _ _ (HS.out.step (by repeat (first | exact Below.refl _ _ | apply below_alloc | apply pw_below_drewN | apply below_drew1 | apply bytes_step))).now HCl.out HT.out).mono ?_; rintro e w2 ⟨rfl, hd⟩; have hb := hd.below; clear hd; have m_ := Aside0.mk (HS.out.call (by repeat (first | exact Below.refl _ _ | apply below_alloc | apply pw_below_drewN | apply below_drew1 | apply bytes_step)) hb); clear HS hb ; have HS := m_; clear m_) | (have _t := tline; go_at_call 29; refine (colophonref00_Bring.calls line _ _ _ Bline.out).mono ?_; rintro e w3 ⟨rfl, nb, rfl⟩; clear tline _t) | (have _t := tchar; go_at_call 29; refine (colophonref00_Bring.calls char _ _ _ Bchar.out).mono ?_; rintro e w3 ⟨rfl, nb, rfl⟩; clear tchar _t) | (go_at_call 30; refine (colophonlaw15_at.calls x0 x1 x0 x1 ⟨#[]⟩ _ _ _ _ _ _ _ rfl).mono ?_; rintro e w4 ⟨rfl, hb⟩; have m_ := Aside0.mk (HS.out.call (by repeat (first | exact Below.refl _ _ | apply below_alloc | apply pw_below_drewN | apply below_drew1 | apply bytes_step)) hb); clear HS hb ; have HS := m_; clear m_) | (have _t := to1; go_at_call 23; refine (One_is A c l false x0 x1 x0 x1 ⟨#[]⟩ _ (HS.out.step (by repeat (first | exact Below.refl _ _ | apply below_alloc | apply pw_below_drewN | apply below_drew1 | apply bytes_step))).now HCl.out hn HBY.out hs6 (by decide) (by omega) (by omega)).mono ?_; rintro e w5 ⟨v, rfl, hR, hb⟩; rw [HO1.out.2] ; rw [HO1.out.1] at hR; obtain ⟨A2, k2, rfl, hl2, hn2, hC2⟩ := Ap.read (.inr hR); have HLA2 := Aside0.mk hl2; have HNA2 := Aside0.mk hn2; clear hR hl2 hn2; have m_ := Aside0.mk ((HS.out.call (by repeat (first | exact Below.refl _ _ | apply below_alloc | apply pw_below_drewN | apply below_drew1 | apply bytes_step)) hb).add hC2 (keeps_C _ _ _ _)); clear HS hb hC2; have HS := m_; clear m_; clear to1 _t))
  have ks := HKS.out (w5.alloc (.cells #[.int .u8 111, .int .u8 116, .int .u8 104, .int .u8 101, .int .u8 114] 5 (5, 6))) (HS.out.step (by repeat (first | exact Below.refl _ _ | apply below_alloc | apply pw_below_drewN | apply below_drew1 | apply bytes_step))).now.2
  rw [HSB.out] at ks
  go_wp2_with (first | (have _t := to2; go_at_call 23; refine (One_is _ 5 [111, 116, 104, 101, 114] true 0 0 0 0 sb _ (lit_mark _ _ [111, 116, 104, 101, 114] #[.int .u8 111, .int .u8 116, .int .u8 104, .int .u8 101, .int .u8 114] 5 (5, 6) (by simp) rfl (by decide)) (by decide) (fun e => nomatch e) other_B (by decide) hsb (by decide) (by decide)).mono ?_; rintro e w6 ⟨v, rfl, hR, hb⟩; rw [HO2.out.2] ; rw [HO2.out.1] at hR; obtain ⟨A3, k3, rfl, hl2, hn2, hC2⟩ := Ap.read (.inr hR); have HLA3 := Aside0.mk hl2; have HNA3 := Aside0.mk hn2; clear hR hl2 hn2; have m_ := Aside0.mk ((HS.out.call (by repeat (first | exact Below.refl _ _ | apply below_alloc | apply pw_below_drewN | apply below_drew1 | apply bytes_step)) hb).add hC2 (keeps_C _ _ _ _)); clear HS hb hC2; have HS := m_; clear m_; clear to2 _t) | (go_at_call 27; refine (Apply_is A none c 0 l [] _ (HS.out.step (by repeat (first | exact Below.refl _ _ | apply below_alloc | apply pw_below_drewN | apply below_drew1 | apply bytes_step))).now.2.2 HCl.out hn (Kd.C_nil _ _) HBY.out hs6 (fun x hx => nomatch hx)).mono ?_; rintro e w7 ⟨v, rfl, hR, hb⟩; rw [HO3.out.2] ; rw [HO3.out.1] at hR; obtain ⟨A4, k4, rfl, hl2, hn2, hC2⟩ := Ap.read (.inr hR); have HLA4 := Aside0.mk hl2; have HNA4 := Aside0.mk hn2; clear hR hl2 hn2; have m_ := Aside0.mk ((HS.out.call (by repeat (first | exact Below.refl _ _ | apply below_alloc | apply pw_below_drewN | apply below_drew1 | apply bytes_step)) hb).add hC2 (keeps_C _ _ _ _)); clear HS hb hC2; have HS := m_; clear m_) | (have _t := e1; go_at_call 20; refine (colophonref00_EqBytes.calls _ A2 k2 l A c l true _ (HS.out.step (by repeat (first | exact Below.refl _ _ | apply below_alloc | apply pw_below_drewN | apply below_drew1 | apply bytes_step))).now.2.2.1 HLA2.out (HS.out.step (by repeat (first | exact Below.refl _ _ | apply below_alloc | apply pw_below_drewN | apply below_drew1 | apply bytes_step))).now.2.2.2 HCl.out HEQ.out).mono ?_; rintro e wq ⟨rfl, hd⟩; have hb := hd.below; clear hd; have m_ := Aside0.mk (HS.out.call (by repeat (first | exact Below.refl _ _ | apply below_alloc | apply pw_below_drewN | apply below_drew1 | apply bytes_step)) hb); clear HS hb ; have HS := m_; clear m_; clear e1 _t) | (have _t := e2; go_at_call 20; refine (colophonref00_EqBytes.calls _ A3 k3 l A c l true _ (HS.out.step (by repeat (first | exact Below.refl _ _ | apply below_alloc | apply pw_below_drewN | apply below_drew1 | apply bytes_step))).now.2.1 HLA3.out (HS.out.step (by repeat (first | exact Below.refl _ _ | apply below_alloc | apply pw_below_drewN | apply below_drew1 | apply bytes_step))).now.2.2.2 HCl.out HEQ.out).mono ?_; rintro e wq ⟨rfl, hd⟩; have hb := hd.below; clear hd; have m_ := Aside0.mk (HS.out.call (by repeat (first | exact Below.refl _ _ | apply below_alloc | apply pw_below_drewN | apply below_drew1 | apply bytes_step)) hb); clear HS hb ; have HS := m_; clear m_; clear e2 _t) | (have _t := e3; go_at_call 20; refine (colophonref00_EqBytes.calls _ A4 k4 l A c l true _ (HS.out.step (by repeat (first | exact Below.refl _ _ | apply below_alloc | apply pw_below_drewN | apply below_drew1 | apply bytes_step))).now.1 HLA4.out (HS.out.step (by repeat (first | exact Below.refl _ _ | apply below_alloc | apply pw_below_drewN | apply below_drew1 | apply bytes_step))).now.2.2.2 HCl.out HEQ.out).mono ?_; rintro e wq ⟨rfl, hd⟩; have hb := hd.below; clear hd; have m_ := Aside0.mk (HS.out.call (by repeat (first | exact Below.refl _ _ | apply below_alloc | apply pw_below_drewN | apply below_drew1 | apply bytes_step)) hb); clear HS hb ; have HS := m_; clear m_; clear e3 _t))
  go_ret
  exact ⟨rfl, (HS.out.step (by repeat (first | exact Below.refl _ _ | apply below_alloc | apply pw_below_drewN | apply below_drew1 | apply bytes_step))).bel⟩
theorem EditNothing_said (A : Option Addr) (n c : Nat) (zs : List Int) (line char : Int) (W : World) (h : IsRow .u8 W A n c zs) (hsz : n * 1 ≤ 140737488351232) (_h1 : (Lit.int .i64 line).wf = true) (_h2 : (Lit.int .i64 char).wf = true) :
    Calls Try.prog 9 #[.slice A n c, .int .i64 line, .int .i64 char] W fun e W' => e = .returned (.bool true) ∧ Below W.heap.size W W' := by
  have hn : A = none → c = 0 := fun e => by
    subst e
    rcases h with ⟨_, _, h, _⟩ | ⟨x, h, _⟩
    · exact h
    · cases h
  obtain ⟨l, rfl, hc, hC, hw⟩ := h.reads
  have hB : Bytes l := fun x hx => byte_wf (hw x hx)
  by_cases hz : (chk l).2 = 0 ∧ l.length ≤ 1000
  · exact EditNothing_ok A c l line char W hC hc hn hB hz.1 hz.2
  · exact EditNothing_no A c l line char W hC hc hB (by omega) hz
end Go.Proofs.Ytjebkpcekkkbkaa.B

namespace Go.Proofs.Ytjebkpcekkkbkaa.editNothing
open Go.ChangeShapes Go.WideShapes Go.ChangeAt Go.RowKit Go.Proofs.Ytjebkpcekkkbkaa.B
set_option linter.unusedVariables false
theorem own : ownKnob Try.prog.godebug = none := by kernel_rfl
theorem laidOut : laidOutB Try.prog = true := by kernel_rfl
set_option maxRecDepth 100000 in
theorem lifted (os : Os) (started : os.Started) (H : Type) (enc : TypeId × Value → H) :
    ReturnsInHanded {} Try.checked os 9 .any (Rows.editNothingSpec.pre6 enc Try.prog Try.f9 Rows.editNothingRow.domain false) (Rows.editNothingSpec.post enc Try.prog Try.f9 false true false false) := by
  refine returnsInHanded_of_change_sized (C := Try.checked) own started (by kernel_rfl) Try.func9
    (ChangeSpec.witness6 (enc := enc) (C := Try.checked) false ⟨#[], #[.slice none 0 0, .int .i64 0, .int .i64 0], []⟩ 8 (by kernel_rfl) (by kernel_rfl) (by kernel_rfl) (by kernel_rfl)) ?_
  intro W base args ds gs before hval0 hW hcnd hsz0 _
  have hsz : (DataW.weightsEach Try.prog (Try.f9.params.toList ++ Rows.editNothingSpec.plain.varTypes Try.prog) (ds ++ gs)).all (· ≤ reachBytes) = true := hsz0
  have hval : ∀ (j : Nat) t v, Try.f9.params[j]? = some t → args[j]? = some v → Value.okWide Try.prog W .any base t v := hval0
  have hW' := hW
  obtain ⟨p, q, hA0, hV, rfl, hfz, hnd⟩ := hW
  have hA : DataW.TrodAll enc Try.prog W 0 (fun _ => true) true Try.f9.params.toList args.toList ds p := hA0
  rw [Try.params9] at hA hval hsz
  obtain ⟨v0, vs0, d0, ds0, p0, q0, hargs, rfl, rfl, h0, r0⟩ := trodAll_cons hA
  obtain ⟨v1, vs1, d1, ds1, p1, q1, rfl, rfl, rfl, h1, r1⟩ := trodAll_cons r0
  obtain ⟨v2, vs2, d2, ds2, p2, q2, rfl, rfl, rfl, h2, r2⟩ := trodAll_cons r1
  obtain ⟨rfl, rfl, rfl⟩ := trodAll_nil r2
  obtain rfl : args = #[v0, v1, v2] := by cases args; simp_all
  obtain ⟨rfl, rfl⟩ := trodVars_none hV
  obtain ⟨a0, len0, cap0, rfl⟩ := okWide_slice Try.underlying22 (hval 0 22 v0 rfl rfl)
  have k0 := h0
  have lt0 : ∀ x ∈ p0, x.block < W.heap.size := by obtain ⟨m, hm⟩ := k0; exact DataW.trod_lt m _ _ _ hm
  obtain ⟨z0, w0⟩ : ∃ zs, IsRow .u8 W a0 len0 cap0 zs := by
    obtain ⟨fuel, hf⟩ := h0
    rcases open_ints Try.underlying22 Try.underlying5 (by kernel_rfl) hf with ⟨hcs, _⟩ | ⟨x, l, c, zs, hcs, _, hl, hm, hz, _, hcell, hwz⟩
    · simp [Value.cells] at hcs
      obtain ⟨rfl, rfl, rfl⟩ := hcs
      exact ⟨[], .inl ⟨rfl, rfl, rfl, rfl⟩⟩
    · simp [Value.cells] at hcs
      obtain ⟨rfl, rfl, rfl⟩ := hcs
      exact ⟨zs, .inr ⟨_, rfl, hl, hm, by simpa using hz, hcell, hwz⟩⟩
  have y0 : len0 * 1 ≤ 140737488351232 := Go.Proofs.YtjebkpcekkkbkaaW.PrintWords.sized_ints hsz (j := 0) (t := 22) rfl rfl Try.underlying22 Try.underlying5 (by kernel_rfl) (by kernel_rfl) h0
  obtain ⟨a1, rfl, rfl, rfl, w1⟩ := open_int Try.underlying3 (hval 1 3 v1 rfl rfl) h1
  obtain ⟨a2, rfl, rfl, rfl, w2⟩ := open_int Try.underlying3 (hval 2 3 v2 rfl rfl) h2
  clear hA0 hval0 hsz0 hsz
  refine (EditNothing_said a0 len0 cap0 z0 a1 a2 W w0 y0 w1 w2).mono fun e W' ⟨he, bel⟩ => ?_
  subst he
  exact ⟨_, rfl, _, _, _, [], _, [], hW', trodAll_mk1 (shut_bool Try.underlying4 _), (trodAll_cons_mk (Below.trod laidOut (by kernel_rfl) (of_decide_eq_true (by kernel_rfl)) k0 bel lt0) (trodAll_cons_mk (shut_int Try.underlying3 w1) (trodAll_cons_mk (shut_int Try.underlying3 w2) trodAll_mk0))), rfl, bel.frame _, fun h => by cases h⟩
theorem over : Rows.editNothingRow.holds Try.pinned (OpenSpec.ofChange Rows.editNothingSpec) :=
  OpenClaim.holds_of_wide 9 Try.f9 rfl rfl rfl rfl rfl rfl rfl ⟨rfl, rfl, rfl, rfl, rfl⟩ rfl rfl rfl rfl rfl (by kernel_rfl) Try.func9 (by kernel_rfl)
    (of_decide_eq_true (by kernel_rfl)) (by unfold Func.isWrapper; first | (rw [if_pos (by decide +kernel)]; kernel_rfl) | (rw [if_neg (by decide +kernel)]; exact ⟨rfl, rfl⟩))
    (fun os started H enc _ => lifted os started H enc)
theorem proved : Rows.EditNothingSaid := over
#print axioms proved
end Go.Proofs.Ytjebkpcekkkbkaa.editNothing
namespace Go.Proofs.Ytjebkpcekkkbkaa
/-- The row, under a short name, for the claim. -/
theorem editNothing_holds : Rows.EditNothingSaid := editNothing.proved
end Go.Proofs.Ytjebkpcekkkbkaa
