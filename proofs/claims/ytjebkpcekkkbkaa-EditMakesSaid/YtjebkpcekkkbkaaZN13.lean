/-
  Chapter 15's statements: works.
-/
import Derived.RangeFuncNested
import Derived.RangeFuncBound
import Derived.RangeFuncCalls
import Derived.RangeFuncLeaves
import Derived.RangeFuncBox
import Derived.Shelf.Abstract
import Derived.Shelf.RegionOpen
import Derived.OwnWalkIn
import Derived.TacticsInMore
import Derived.LoopNIn
import Derived.LoopIn
import Derived.Test.YtjebkpcekkkbkaaProg
import Derived.Below
import Derived.Deep.Draws
import Derived.Deep.AppendLies
import Derived.Maps.AppendAt
import Derived.OwnWalk
import Derived.Laws.BytesArg
import Derived.Laws.MakeOwn
import Derived.Laws.OwnMore
import Derived.Deep.OwnRows
import Derived.Tactics
import Derived.Lib.ConvBytes
import Derived.Laws.Slices
import Derived.WalkKit
import Derived.KernelRfl
import Derived.RowKit3
import Derived.Deep.LoopGhost
import Derived.Deep.QuietTactic
import Derived.BigQuiet
import Derived.WideLaws
import Derived.Deep.DeepCutAuto
import Derived.Deep.CutBlock
import Derived.Deep.RegionHeld3
import Derived.Laws.Rows
import Derived.Lib.AppendStr
import Derived.ArgAppend
import Derived.Laws.IdiomCopy
import Derived.OrdersHeld
import Derived.Laws.BitsLemmas
import Derived.RowKit
import Derived.Test.YtjebkpcekkkbkaaWWords
import Derived.Test.YtjebkpcekkkbkaaWLast
import Derived.Test.YtjebkpcekkkbkaaWTab
import Derived.Test.YtjebkpcekkkbkaaWFour
import Derived.Test.YtjebkpcekkkbkaaWQPut
import Derived.Test.YtjebkpcekkkbkaaWApart
import Derived.Test.YtjebkpcekkkbkaaWArr
import Derived.Test.YtjebkpcekkkbkaaWZeros
import Derived.Test.YtjebkpcekkkbkaaWFoot
import Derived.Test.YtjebkpcekkkbkaaWKept
import Derived.Test.YtjebkpcekkkbkaaWShare
import Derived.Test.YtjebkpcekkkbkaaWN
import Derived.Test.YtjebkpcekkkbkaaWFootNe
import Derived.Test.YtjebkpcekkkbkaaWAt
import Derived.Test.YtjebkpcekkkbkaaWEqStruct
import Derived.Test.YtjebkpcekkkbkaaWRepsOne
import Derived.Test.YtjebkpcekkkbkaaWInv
import Derived.Test.YtjebkpcekkkbkaaWInvWords
import Derived.Test.YtjebkpcekkkbkaaWGuard
import Derived.Test.YtjebkpcekkkbkaaWNEv
import Derived.Test.YtjebkpcekkkbkaaWMore
import Derived.Deep.DeepFit
import Derived.Test.YtjebkpcekkkbkaaBulk
import Derived.ChangeShapes
import Derived.WalkMore
import Derived.WalkSpells
import Derived.Deep.CutRange
import Derived.IntWalk
import Derived.Lib.SlBytesConst
import Derived.Test.YtjebkpcekkkbkaaZN133
set_option linter.unusedSimpArgs false
set_option linter.unusedVariables false
/-
  edit: Apply.
-/
namespace Go.Proofs.Ytjebkpcekkkbkaa.B
open Go.RowKit Go.Shelf Go.Proofs Go.Proofs.YtjebkpcekkkbkaaW.PrintWords Go.Proofs.YtjebkpcekkkbkaaW.PrintLast Go.Proofs.YtjebkpcekkkbkaaW.PrintMore Go.Proofs.Ytjebkpcekkkbkaa.FBase
set_option linter.unusedVariables false
set_option linter.unusedSimpArgs false

/-- An edit, as the plain laws have it. -/
def edOf (x : S29) : Ed := ⟨x.f0, x.f1.f0.f0, x.f1.f0.f1, x.f1.f1.f0, x.f1.f1.f1, bytesOf x.f2⟩
theorem eall_snoc (l : List Int) (a : List Ed) (e : Ed) (cur : List Int) (h : eall l a = (cur, 0)) : eall l (a ++ [e]) = if (eone cur e).2 ≠ 0 then ([], (eone cur e).2) else ((eone cur e).1, 0) := by
  rw [eall_app, h, if_neg (by simp)]
  simp [eall]
theorem eall_stop (l : List Int) (a b : List Ed) (h : (eall l a).2 ≠ 0) : eall l (a ++ b) = ([], (eall l a).2) := by
  rw [eall_app, if_pos h]

set_option maxRecDepth 100000 in
set_option maxHeartbeats 4000000 in
theorem Apply_bad (A E : Option Addr) (c d : Nat) (l : List Int) (es : List S29) (w : World) (hr : Kd.C (Kd.int .u8) w A l.length l) (hc : l.length ≤ c) (hn : A = none → c = 0) (hre : Kd.C k29 w E es.length es) (hB : Bytes l) (hs : l.length ≤ 1048576) (hz : (chk l).2 ≠ 0) :
    Calls Try.prog 27 #[.slice A l.length c, .slice E es.length d] w fun e w' => ∃ v : Value, e = .returned (.tuple #[v, .int .i64 (chk l).2]) ∧ Kd.R (Kd.int .u8) 5 w' w.heap.size (fun _ => True) v [] ∧ Below w.heap.size w w' := by
  have HS : Aside0 (Sta w w (fun W => Kd.C (Kd.int .u8) W A l.length l ∧ Kd.C k29 W E es.length es)) := ⟨⟨Below.refl _ _, ⟨hr, hre⟩, keeps_and (keeps_C _ _ _ _) (keeps_C _ _ _ _)⟩⟩
  have HC := Aside0.mk hc
  have HBY := Aside0.mk hB
  have HT := Aside0.mk (texts1_f l hB hs)
  obtain ⟨r, hk⟩ : ∃ r, (chk l).2 = r := ⟨_, rfl⟩
  rw [hk] at HT hz ⊢
  have hz1 : (r != 0) = true := bne_iff_ne.mpr hz
  clear hz hk hB hr hre hc
  go_enter Try.func27, Try.ntmps27
  go_wp2_with (go_at_call 51; refine (edit_texts.calls _ _ _ [l] _ _ (row1_at _ _ (by simp) _ _ l (HS.out.step (by repeat (first | exact Below.refl _ _ | apply below_alloc | apply pw_below_drewN | apply below_drew1 | apply bytes_step))).now.1 HC.out _) (Nat.le_refl _) HT.out).mono ?_; rintro e w1 ⟨rfl, hd⟩; have hb := hd.below; clear hd; have m_ := Aside0.mk (HS.out.call (by repeat (first | exact Below.refl _ _ | apply below_alloc | apply pw_below_drewN | apply below_drew1 | apply bytes_step)) hb); clear HS hb ; have HS := m_; clear m_)
  go_ret2
  exact ⟨_, rfl, Kd.R_nil _ _ _ _ _, HS.out.bel⟩

set_option maxRecDepth 100000 in
set_option maxHeartbeats 4000000 in
theorem Apply_many (A E : Option Addr) (c d : Nat) (l : List Int) (es : List S29) (w : World) (hr : Kd.C (Kd.int .u8) w A l.length l) (hc : l.length ≤ c) (hn : A = none → c = 0) (hre : Kd.C k29 w E es.length es) (hB : Bytes l) (hs : l.length ≤ 1048576) (hz : (chk l).2 = 0) (hm : 32 < es.length) :
    Calls Try.prog 27 #[.slice A l.length c, .slice E es.length d] w fun e w' => ∃ v : Value, e = .returned (.tuple #[v, .int .i64 5]) ∧ Kd.R (Kd.int .u8) 5 w' w.heap.size (fun _ => True) v [] ∧ Below w.heap.size w w' := by
  have HS : Aside0 (Sta w w (fun W => Kd.C (Kd.int .u8) W A l.length l ∧ Kd.C k29 W E es.length es)) := ⟨⟨Below.refl _ _, ⟨hr, hre⟩, keeps_and (keeps_C _ _ _ _) (keeps_C _ _ _ _)⟩⟩
  have HC := Aside0.mk hc
  have HBY := Aside0.mk hB
  have HT := Aside0.mk (texts1_f l hB hs)
  rw [hz] at HT
  have g1 : decide (32 < (es.length : Int)) = true := decide_eq_true (by omega)
  clear hz hB hr hre hc
  go_enter Try.func27, Try.ntmps27
  go_wp2_with (go_at_call 51; refine (edit_texts.calls _ _ _ [l] _ _ (row1_at _ _ (by simp) _ _ l (HS.out.step (by repeat (first | exact Below.refl _ _ | apply below_alloc | apply pw_below_drewN | apply below_drew1 | apply bytes_step))).now.1 HC.out _) (Nat.le_refl _) HT.out).mono ?_; rintro e w1 ⟨rfl, hd⟩; have hb := hd.below; clear hd; have m_ := Aside0.mk (HS.out.call (by repeat (first | exact Below.refl _ _ | apply below_alloc | apply pw_below_drewN | apply below_drew1 | apply bytes_step)) hb); clear HS hb ; have HS := m_; clear m_)
  go_ret2
  exact ⟨_, rfl, Kd.R_nil _ _ _ _ _, HS.out.bel⟩

set_option maxRecDepth 100000 in
set_option maxHeartbeats 4000000 in
theorem Apply_ok (A E : Option Addr) (c d : Nat) (l : List Int) (es : List S29) (w : World) (hr : Kd.C (Kd.int .u8) w A l.length l) (hc : l.length ≤ c) (hn : A = none → c = 0) (hre : Kd.C k29 w E es.length es) (hB : Bytes l) (hs : l.length ≤ 1048576) (he : ∀ x ∈ es, x.f2.size ≤ 140737488351232 ∧ x.f1.f0.f1 ≤ 9223372036854775807 ∧ x.f1.f1.f1 ≤ 9223372036854775807) (hz : (chk l).2 = 0) (hm : ¬ 32 < es.length) :
    Calls Try.prog 27 #[.slice A l.length c, .slice E es.length d] w fun e w' => ∃ v : Value, e = .returned (.tuple #[v, .int .i64 (eall l (es.map edOf)).2]) ∧ Kd.R (Kd.int .u8) 5 w' w.heap.size (fun _ => True) v (eall l (es.map edOf)).1 ∧ Below w.heap.size w w' := by
  have HS : Aside0 (Sta w w (fun W => Kd.C (Kd.int .u8) W A l.length l ∧ Kd.C k29 W E es.length es)) := ⟨⟨Below.refl _ _, ⟨hr, hre⟩, keeps_and (keeps_C _ _ _ _) (keeps_C _ _ _ _)⟩⟩
  have HC := Aside0.mk hc
  have HBY := Aside0.mk hB
  have HT := Aside0.mk (texts1_f l hB hs)
  rw [hz] at HT
  have hv := (chk_V hB).1 hz
  have g1 : decide (32 < (es.length : Int)) = false := decide_eq_false (by omega)
  have HV := Aside0.mk hv
  have HE := Aside0.mk he
  clear hz hB hr hre hc hv he
  go_enter Try.func27, Try.ntmps27
  go_wp2_with (first | (go_at_call 51; refine (edit_texts.calls _ _ _ [l] _ _ (row1_at _ _ (by simp) _ _ l (HS.out.step (by repeat (first | exact Below.refl _ _ | apply below_alloc | apply pw_below_drewN | apply below_drew1 | apply bytes_step))).now.1 HC.out _) (Nat.le_refl _) HT.out).mono ?_; rintro e w1 ⟨rfl, hd⟩; have hb := hd.below; clear hd; have m_ := Aside0.mk (HS.out.call (by repeat (first | exact Below.refl _ _ | apply below_alloc | apply pw_below_drewN | apply below_drew1 | apply bytes_step)) hb); clear HS hb ; have HS := m_; clear m_) | (go_at_call 63; refine (BClone_ok A c l _ (HS.out.step (by repeat (first | exact Below.refl _ _ | apply below_alloc | apply pw_below_drewN | apply below_drew1 | apply bytes_step))).now.1 HC.out hn (by omega)).mono ?_; rintro e w2 ⟨v, rfl, hR, hb⟩; have hR2 := Kd.R_lower hR (HS.out.step (by repeat (first | exact Below.refl _ _ | apply below_alloc | apply pw_below_drewN | apply below_drew1 | apply bytes_step))).bel.size; clear hR; obtain ⟨A2, c2, rfl, hl2, hn2, hC2⟩ := Ap.read (.inr hR2); clear hC2; have HL2 := Aside0.mk hl2; have HN2 := Aside0.mk hn2; clear hl2 hn2; have m_ := Aside0.mk ((HS.out.call (by repeat (first | exact Below.refl _ _ | apply below_alloc | apply pw_below_drewN | apply below_drew1 | apply bytes_step)) hb).add hR2 (keeps_R _ _ _ _ _ _)); clear HS hb hR2; have HS := m_; clear m_))
  go_loopw [7, 25] (fun s7 s25 W => ∃ (k : Nat) (A2 : Option Addr) (c2 : Nat) (cur : List Int), s25 = .int .i64 k ∧ s7 = .slice A2 cur.length c2 ∧ k ≤ es.length ∧ cur.length ≤ 1048576 ∧ Aside0 (cur.length ≤ c2) ∧ Aside0 (A2 = none → c2 = 0) ∧ Aside0 (Bytes cur) ∧ Aside0 (V cur) ∧ Aside0 (eall l ((es.take k).map edOf) = (cur, 0)) ∧ Aside0 (Sta w W (fun W => Kd.R (Kd.int .u8) 5 W w.heap.size (fun _ => True) (.slice A2 cur.length c2) cur ∧ Kd.C (Kd.int .u8) W A l.length l ∧ Kd.C k29 W E es.length es))) (fun _ s25 _ => es.length - (intOf s25).toNat)
  case atStart => exact ⟨0, A2, c2, l, rfl, rfl, Nat.zero_le _, hs, HL2, HN2, HBY, HV, ⟨rfl⟩, HS⟩
  case round =>
    clear HS HL2 HN2
    obtain ⟨k, A2, c2, cur, rfl, rfl, hk, hcl, HL2, HN2, HBC, HVC, HEA, HS⟩ := hrel
    by_cases h1 : k < es.length
    · have g2 : decide (k < es.length) = true := decide_eq_true h1
      obtain ⟨ad, e1, y0, y1, y2, y3, y4, y5⟩ := at_T29 HS.out.now.2.2 (k : Int) (by omega) (by omega)
      cases e1
      rw [Int.toNat_natCast] at y0 y1 y2 y3 y4 y5
      have hx : rd_T29 es (k : Int) ∈ es := by
        have : rd_T29 es (k : Int) = es[k] := by simp [rd_T29, List.getD, h1]
        rw [this]
        exact List.getElem_mem _
      have htk : (es.take (k + 1)).map edOf = (es.take k).map edOf ++ [edOf (rd_T29 es (k : Int))] := by
        rw [List.take_succ_eq_append_getElem h1, List.map_append]
        simp [rd_T29, List.getD, h1]
      obtain ⟨hx0, hx1, hx2⟩ := HE.out _ hx
      have hsn := eall_snoc l _ (edOf (rd_T29 es (k : Int))) cur HEA.out
      rw [← htk] at hsn
      generalize rd_T29 es (k : Int) = x at *
      obtain ⟨out, hout⟩ : ∃ o, (ech cur (bytesOf x.f2) x.f0 x.f1.f0.f0 x.f1.f0.f1 x.f1.f1.f0 x.f1.f1.f1).2.2.1 = o := ⟨_, rfl⟩
      obtain ⟨er, her⟩ : ∃ o, (ech cur (bytesOf x.f2) x.f0 x.f1.f0.f0 x.f1.f0.f1 x.f1.f1.f0 x.f1.f1.f1).2.2.2 = o := ⟨_, rfl⟩
      have e2 : eone cur (edOf x) = (out, er) := Prod.ext hout her
      rw [e2] at hsn
      have HEO := Aside0.mk hout
      have HEE := Aside0.mk her
      by_cases hz : er = 0
      · rw [if_neg (by simpa using hz)] at hsn
        subst hz
        have hV2 := eone_V (e := edOf x) HBC.out (bytesOf_B _) (by rw [e2])
        rw [e2] at hV2
        have HB3 := Aside0.mk hV2.2.1
        have HV3 := Aside0.mk hV2.1
        have hl3 : out.length ≤ 8192 := hV2.2.2
        have HE3 := Aside0.mk hsn
        clear hsn hV2 e2 hout her hx htk
        go_wp2_with (go_at_call 23; refine (One_is A2 c2 cur x.f0 x.f1.f0.f0 x.f1.f0.f1 x.f1.f1.f0 x.f1.f1.f1 x.f2 _ (Kd.R_reads' (HS.out.step (by repeat (first | exact Below.refl _ _ | apply below_alloc | apply pw_below_drewN | apply below_drew1 | apply bytes_step))).now.1).2.2 HL2.out HN2.out HBC.out hcl hx0 hx1 hx2).mono ?_; rintro e w5 ⟨v, rfl, hR, hb⟩; rw [HEO.out] at hR; rw [HEE.out]; have hR2 := Kd.R_lower hR (HS.out.step (by repeat (first | exact Below.refl _ _ | apply below_alloc | apply pw_below_drewN | apply below_drew1 | apply bytes_step))).bel.size; clear hR; obtain ⟨A3, c3, rfl, hl3, hn3, hC3⟩ := Ap.read (.inr hR2); clear hC3; have HL3 := Aside0.mk hl3; have HN3 := Aside0.mk hn3; clear hl3 hn3; have m_ := Aside0.mk ((HS.out.call (by repeat (first | exact Below.refl _ _ | apply below_alloc | apply pw_below_drewN | apply below_drew1 | apply bytes_step)) hb).add hR2 (keeps_R _ _ _ _ _ _)); clear HS hb hR2; have HS := m_; clear m_)
        go_roundw
        case measure => simp [intOf]; omega
        case rel =>
          refine ⟨k + 1, A3, c3, out, by simp, rfl, by omega, by omega, HL3, HN3, HB3, HV3, HE3, ⟨HS.out.bel, ⟨HS.out.now.1, HS.out.now.2.2⟩, keeps_and (keeps_R _ _ _ _ _ _) (keeps_and (keeps_C _ _ _ _) (keeps_C _ _ _ _))⟩⟩
      · have hz1 : (er != 0) = true := bne_iff_ne.mpr hz
        rw [if_pos hz] at hsn
        have hfin : eall l (es.map edOf) = ([], er) := by
          have h9 := eall_stop l ((es.take (k + 1)).map edOf) ((es.drop (k + 1)).map edOf) (by rw [hsn]; exact hz)
          rw [← List.map_append, List.take_append_drop, hsn] at h9
          exact h9
        have HFIN := Aside0.mk hfin
        clear hsn e2 hout her hx htk hfin hz
        go_wp2_with (go_at_call 23; refine (One_is A2 c2 cur x.f0 x.f1.f0.f0 x.f1.f0.f1 x.f1.f1.f0 x.f1.f1.f1 x.f2 _ (Kd.R_reads' (HS.out.step (by repeat (first | exact Below.refl _ _ | apply below_alloc | apply pw_below_drewN | apply below_drew1 | apply bytes_step))).now.1).2.2 HL2.out HN2.out HBC.out hcl hx0 hx1 hx2).mono ?_; rintro e w5 ⟨v, rfl, hR, hb⟩; rw [HEO.out] at hR; rw [HEE.out]; have hR2 := Kd.R_lower hR (HS.out.step (by repeat (first | exact Below.refl _ _ | apply below_alloc | apply pw_below_drewN | apply below_drew1 | apply bytes_step))).bel.size; clear hR; obtain ⟨A3, c3, rfl, hl3, hn3, hC3⟩ := Ap.read (.inr hR2); clear hC3; have HL3 := Aside0.mk hl3; have HN3 := Aside0.mk hn3; clear hl3 hn3; have m_ := Aside0.mk ((HS.out.call (by repeat (first | exact Below.refl _ _ | apply below_alloc | apply pw_below_drewN | apply below_drew1 | apply bytes_step)) hb).add hR2 (keeps_R _ _ _ _ _ _)); clear HS hb hR2; have HS := m_; clear m_)
        go_ret2
        rw [HFIN.out]
        exact ⟨_, rfl, Kd.R_nil _ _ _ _ _, HS.out.bel⟩
    · have g2 : decide (k < es.length) = false := decide_eq_false h1
      have hfin : eall l (es.map edOf) = (cur, 0) := by
        have h9 := HEA.out
        rw [List.take_of_length_le (by omega)] at h9
        exact h9
      have HFIN := Aside0.mk hfin
      clear hfin
      go_wp2
      go_ret2
      rw [HFIN.out]
      exact ⟨_, rfl, HS.out.now.1, HS.out.bel⟩

theorem Apply_is (A E : Option Addr) (c d : Nat) (l : List Int) (es : List S29) (w : World) (hr : Kd.C (Kd.int .u8) w A l.length l) (hc : l.length ≤ c) (hn : A = none → c = 0) (hre : Kd.C k29 w E es.length es) (hB : Bytes l) (hs : l.length ≤ 1048576) (he : ∀ x ∈ es, x.f2.size ≤ 140737488351232 ∧ x.f1.f0.f1 ≤ 9223372036854775807 ∧ x.f1.f1.f1 ≤ 9223372036854775807) : Calls Try.prog 27 #[.slice A l.length c, .slice E es.length d] w fun e w' => ∃ v : Value, e = .returned (.tuple #[v, .int .i64 (eapp l (es.map edOf)).2]) ∧ Kd.R (Kd.int .u8) 5 w' w.heap.size (fun _ => True) v (eapp l (es.map edOf)).1 ∧ Below w.heap.size w w' := by
  unfold eapp
  rw [List.length_map]
  by_cases h1 : (chk l).2 ≠ 0
  · rw [if_pos h1]
    exact Apply_bad A E c d l es w hr hc hn hre hB hs h1
  · rw [if_neg h1]
    by_cases h2 : 32 < es.length
    · rw [if_pos h2]
      exact Apply_many A E c d l es w hr hc hn hre hB hs (by omega) h2
    · rw [if_neg h2]
      exact Apply_ok A E c d l es w hr hc hn hre hB hs he (by omega) h2
end Go.Proofs.Ytjebkpcekkkbkaa.B

/-
  Chapter 4's statements: what they share.
-/
namespace Go.Proofs.Ytjebkpcekkkbkaa.B
open Go.RowKit Go.Shelf Go.Proofs Go.Proofs.YtjebkpcekkkbkaaW.PrintWords Go.Proofs.YtjebkpcekkkbkaaW.PrintLast Go.Proofs.YtjebkpcekkkbkaaW.PrintMore Go.Proofs.Ytjebkpcekkkbkaa.FBase
set_option linter.unusedVariables false
set_option linter.unusedSimpArgs false

/-- A text's characters, reckoned. -/
def csF : Nat → List Int → Option (List (Int × Int))
  | 0, y => if y = [] then some [] else none
  | n + 1, y => if y = [] then some [] else if (dec y).2.2 = 0 then (csF n (y.drop (dec y).2.1.toNat)).map (fun r => ((dec y).2.1, usz (dec y).1) :: r) else none
theorem csF_ok : ∀ (n : Nat) {y : List Int} {r : List (Int × Int)}, csF n y = some r → Cs y r
  | 0, y, r, h => by
    simp only [csF] at h
    split at h
    · rename_i e
      subst e
      cases h
      exact .nil
    · cases h
  | n + 1, y, r, h => by
    simp only [csF] at h
    split at h
    · rename_i e
      subst e
      cases h
      exact .nil
    · split at h
      · rename_i he
        obtain ⟨q, hq, rfl⟩ := Option.map_eq_some_iff.1 h
        exact .step y q he (csF_ok n hq)
      · cases h
def findB (L : List Ln) (at_ : Int) (r : Nat) : Bool := decide (r < L.length) && (List.range r).all (fun t => decide ((rdLn L (t : Nat)).f2 ≤ at_)) && (decide (¬ r + 1 < L.length) || decide (at_ < (rdLn L r).f2))
theorem findB_ok {L : List Ln} {at_ : Int} {r : Nat} (h : findB L at_ r = true) : FindAt L at_ r := by
  simp only [findB, Bool.and_eq_true, Bool.or_eq_true, decide_eq_true_eq, List.all_eq_true, List.mem_range] at h
  refine ⟨h.1.1, h.1.2, fun h2 => ?_⟩
  rcases h.2 with h3 | h3
  · exact absurd h2 h3
  · exact h3
theorem poff_of {l : List Int} {L : List Ln} {line char : Int} (hL : lns l 0 0 = L) : poff l line char = if (L.length : Int) ≤ line then (l.length : Int) else (rdLn L line).f0 + off (chars (seg l (rdLn L line))) char := by unfold poff; rw [hL]
end Go.Proofs.Ytjebkpcekkkbkaa.B

/-
  Chapter 15's statements: what they share.
-/
namespace Go.Proofs.Ytjebkpcekkkbkaa.B
open Go.RowKit Go.Shelf Go.Proofs Go.Proofs.YtjebkpcekkkbkaaW.PrintWords Go.Proofs.YtjebkpcekkkbkaaW.PrintLast Go.Proofs.YtjebkpcekkkbkaaW.PrintMore Go.Proofs.Ytjebkpcekkkbkaa.FBase
set_option linter.unusedVariables false
set_option linter.unusedSimpArgs false

theorem One_at (A : Option Addr) (c : Nat) (l : List Int) (n : Nat) (hn1 : l.length = n) (wh : Bool) (x0 x1 x2 x3 : Int) (s : ByteArray) (w : World) (hr : Kd.C (Kd.int .u8) w A n l) (hc : n ≤ c) (hn : A = none → c = 0) (hB : Bytes l) (hs : n ≤ 1048576) (hs2 : s.size ≤ 140737488351232) (hx1 : x1 ≤ 9223372036854775807) (hx3 : x3 ≤ 9223372036854775807) :
    Calls Try.prog 23 #[.slice A n c, .agg #[.bool wh, .int .i64 x0, .int .i64 x1, .int .i64 x2, .int .i64 x3, .string s]] w fun e w' => ∃ v : Value, e = .returned (.tuple #[v, .int .i64 (ech l (bytesOf s) wh x0 x1 x2 x3).2.2.2]) ∧ Kd.R (Kd.int .u8) 5 w' w.heap.size (fun _ => True) v (ech l (bytesOf s) wh x0 x1 x2 x3).2.2.1 ∧ Below w.heap.size w w' := by
  subst hn1
  exact One_is A c l wh x0 x1 x2 x3 s w hr hc hn hB hs hs2 hx1 hx3

set_option maxRecDepth 100000 in
set_option maxHeartbeats 2000000 in
/-- makes, where it holds. -/
theorem makes_ok (sb s want : ByteArray) (wh : Bool) (x0 x1 x2 x3 : Int) (w : World) (hs : sb.size ≤ 1048576) (hs2 : s.size ≤ 140737488351232) (hx1 : x1 ≤ 9223372036854775807) (hx3 : x3 ≤ 9223372036854775807) (her : (ech (bytesOf sb) (bytesOf s) wh x0 x1 x2 x3).2.2.2 = 0) (hwa : strOfNums (ech (bytesOf sb) (bytesOf s) wh x0 x1 x2 x3).2.2.1 = want) :
    Calls Try.prog 32 #[.string sb, .agg #[.bool wh, .int .i64 x0, .int .i64 x1, .int .i64 x2, .int .i64 x3, .string s], .string want] w fun e w' => e = .returned (.bool true) ∧ Below w.heap.size w w' := by
  have HS := Aside0.mk ((Sta.start w).step (below_alloc (Below.refl _ w) (.cells #[.bool wh, .int .i64 x0, .int .i64 x1, .int .i64 x2, .int .i64 x3, .string s] 29)))
  have c0 : (w.alloc (.cells #[.bool wh, .int .i64 x0, .int .i64 x1, .int .i64 x2, .int .i64 x3, .string s] 29)).cell? ⟨w.heap.size, 0, none⟩ = some (.bool wh) := (blk_cell (blk_new w _) 0).trans rfl
  have c1 : (w.alloc (.cells #[.bool wh, .int .i64 x0, .int .i64 x1, .int .i64 x2, .int .i64 x3, .string s] 29)).cell? ⟨w.heap.size, 1, none⟩ = some (.int .i64 x0) := (blk_cell (blk_new w _) 1).trans rfl
  have c2 : (w.alloc (.cells #[.bool wh, .int .i64 x0, .int .i64 x1, .int .i64 x2, .int .i64 x3, .string s] 29)).cell? ⟨w.heap.size, 2, none⟩ = some (.int .i64 x1) := (blk_cell (blk_new w _) 2).trans rfl
  have c3 : (w.alloc (.cells #[.bool wh, .int .i64 x0, .int .i64 x1, .int .i64 x2, .int .i64 x3, .string s] 29)).cell? ⟨w.heap.size, 3, none⟩ = some (.int .i64 x2) := (blk_cell (blk_new w _) 3).trans rfl
  have c4 : (w.alloc (.cells #[.bool wh, .int .i64 x0, .int .i64 x1, .int .i64 x2, .int .i64 x3, .string s] 29)).cell? ⟨w.heap.size, 4, none⟩ = some (.int .i64 x3) := (blk_cell (blk_new w _) 4).trans rfl
  have c5 : (w.alloc (.cells #[.bool wh, .int .i64 x0, .int .i64 x1, .int .i64 x2, .int .i64 x3, .string s] 29)).cell? ⟨w.heap.size, 5, none⟩ = some (.string s) := (blk_cell (blk_new w _) 5).trans rfl
  have d0 : (Lib.bytesWorld (w.alloc (.cells #[.bool wh, .int .i64 x0, .int .i64 x1, .int .i64 x2, .int .i64 x3, .string s] 29)) 5 sb).cell? ⟨w.heap.size, 0, none⟩ = some (.bool wh) := cell_below c0 (bytes_step (Below.refl _ _))
  have d1 : (Lib.bytesWorld (w.alloc (.cells #[.bool wh, .int .i64 x0, .int .i64 x1, .int .i64 x2, .int .i64 x3, .string s] 29)) 5 sb).cell? ⟨w.heap.size, 1, none⟩ = some (.int .i64 x0) := cell_below c1 (bytes_step (Below.refl _ _))
  have d2 : (Lib.bytesWorld (w.alloc (.cells #[.bool wh, .int .i64 x0, .int .i64 x1, .int .i64 x2, .int .i64 x3, .string s] 29)) 5 sb).cell? ⟨w.heap.size, 2, none⟩ = some (.int .i64 x1) := cell_below c2 (bytes_step (Below.refl _ _))
  have d3 : (Lib.bytesWorld (w.alloc (.cells #[.bool wh, .int .i64 x0, .int .i64 x1, .int .i64 x2, .int .i64 x3, .string s] 29)) 5 sb).cell? ⟨w.heap.size, 3, none⟩ = some (.int .i64 x2) := cell_below c3 (bytes_step (Below.refl _ _))
  have d4 : (Lib.bytesWorld (w.alloc (.cells #[.bool wh, .int .i64 x0, .int .i64 x1, .int .i64 x2, .int .i64 x3, .string s] 29)) 5 sb).cell? ⟨w.heap.size, 4, none⟩ = some (.int .i64 x3) := cell_below c4 (bytes_step (Below.refl _ _))
  have d5 : (Lib.bytesWorld (w.alloc (.cells #[.bool wh, .int .i64 x0, .int .i64 x1, .int .i64 x2, .int .i64 x3, .string s] 29)) 5 sb).cell? ⟨w.heap.size, 5, none⟩ = some (.string s) := cell_below c5 (bytes_step (Below.refl _ _))
  have kb := fun W : World => print_bytes (P := Try.prog) 9 22 5 Try.underlying9 Try.underlying22 Try.underlying5 sb W
  obtain ⟨out, hout⟩ : ∃ o, (ech (bytesOf sb) (bytesOf s) wh x0 x1 x2 x3).2.2.1 = o := ⟨_, rfl⟩
  rw [hout] at hwa
  have HB1 := Aside0.mk (bytesOf_B sb)
  have HER := Aside0.mk her
  have HEO := Aside0.mk hout
  have HWA := Aside0.mk hwa
  clear her hout hwa
  go_enter Try.func32, Try.ntmps32
  go_wp2_with (go_at_call 23; refine (One_at _ _ (bytesOf sb) sb.size (bytesOf_length sb) wh x0 x1 x2 x3 s _ (bytes_at _ _ sb _ (by simp) (by omega)) (grownCap_ge _ _ _ _) (fun e => nomatch e) HB1.out hs hs2 hx1 hx3).mono ?_; rintro e w1 ⟨v, rfl, hR, hb⟩; rw [HER.out]; rw [HEO.out] at hR; obtain ⟨A2, cc2, rfl, hl2, hn2, hC2⟩ := Ap.read (.inr hR); have ks := Kd.C_string (P := Try.prog) (w := w1) (src := 22) (dst := 9) (e := 5) (c := cc2) Try.underlying22 Try.underlying5 Try.underlying9 hC2; rw [HWA.out] at ks; clear hR hl2 hn2 hC2; have m_ := Aside0.mk (HS.out.call (by repeat (first | exact Below.refl _ _ | apply below_alloc | apply pw_below_drewN | apply below_drew1 | apply bytes_step)) hb); clear HS hb ; have HS := m_; clear m_)
  go_ret
  exact ⟨rfl, (HS.out.step (by repeat (first | exact Below.refl _ _ | apply below_alloc | apply pw_below_drewN | apply below_drew1 | apply bytes_step))).bel⟩

theorem abc_lns : lns [97, 10, 98, 10, 99] 0 0 = [⟨0, 1, 2⟩, ⟨2, 3, 4⟩, ⟨4, 5, 5⟩] := by simp [lns]
theorem abc_B : Bytes [97, 10, 98, 10, 99] := by intro x hx; simp at hx; omega
theorem abc_V : V [97, 10, 98, 10, 99] := (csF_ok 40 (r := [(1, 1), (1, 1), (1, 1), (1, 1), (1, 1)]) (by decide +kernel)).v
theorem abc_chk : (chk [97, 10, 98, 10, 99]).2 = 0 := (chk_V abc_B).2 abc_V
theorem abc_cs0 : Cs (seg [97, 10, 98, 10, 99] ⟨0, 1, 2⟩) [(1, 1)] := csF_ok 40 (by decide +kernel)
theorem abc_cs1 : Cs (seg [97, 10, 98, 10, 99] ⟨2, 3, 4⟩) [(1, 1)] := csF_ok 40 (by decide +kernel)
theorem abc_cs2 : Cs (seg [97, 10, 98, 10, 99] ⟨4, 5, 5⟩) [(1, 1)] := csF_ok 40 (by decide +kernel)
theorem axyc_lns : lns [97, 10, 120, 121, 10, 99] 0 0 = [⟨0, 1, 2⟩, ⟨2, 4, 5⟩, ⟨5, 6, 6⟩] := by simp [lns]
theorem axyc_cs1 : Cs (seg [97, 10, 120, 121, 10, 99] ⟨2, 4, 5⟩) [(1, 1), (1, 1)] := csF_ok 40 (by decide +kernel)
theorem abc_at_1_0 : poff [97, 10, 98, 10, 99] 1 0 = 2 := by rw [poff_of abc_lns]; first | (rw [if_pos (by decide)]; rfl) | (rw [if_neg (by decide), show rdLn [⟨0, 1, 2⟩, ⟨2, 3, 4⟩, ⟨4, 5, 5⟩] 1 = ⟨2, 3, 4⟩ from rfl, chars_is abc_cs1]; rfl)
theorem abc_at_1_1 : poff [97, 10, 98, 10, 99] 1 1 = 3 := by rw [poff_of abc_lns]; first | (rw [if_pos (by decide)]; rfl) | (rw [if_neg (by decide), show rdLn [⟨0, 1, 2⟩, ⟨2, 3, 4⟩, ⟨4, 5, 5⟩] 1 = ⟨2, 3, 4⟩ from rfl, chars_is abc_cs1]; rfl)
theorem abc_at_0_5 : poff [97, 10, 98, 10, 99] 0 5 = 1 := by rw [poff_of abc_lns]; first | (rw [if_pos (by decide)]; rfl) | (rw [if_neg (by decide), show rdLn [⟨0, 1, 2⟩, ⟨2, 3, 4⟩, ⟨4, 5, 5⟩] 0 = ⟨0, 1, 2⟩ from rfl, chars_is abc_cs0]; rfl)
theorem abc_at_2_0 : poff [97, 10, 98, 10, 99] 2 0 = 4 := by rw [poff_of abc_lns]; first | (rw [if_pos (by decide)]; rfl) | (rw [if_neg (by decide), show rdLn [⟨0, 1, 2⟩, ⟨2, 3, 4⟩, ⟨4, 5, 5⟩] 2 = ⟨4, 5, 5⟩ from rfl, chars_is abc_cs2]; rfl)
theorem abc_of_2 : fnd [97, 10, 98, 10, 99] 2 = (1 : Nat) ∧ pch [97, 10, 98, 10, 99] 2 = 0 := by
  have h : fnd [97, 10, 98, 10, 99] 2 = 1 := fnd_eq (by rw [abc_lns]; exact findB_ok (by decide))
  refine ⟨h, ?_⟩
  unfold pch
  rw [h, abc_lns, show rdLn [⟨0, 1, 2⟩, ⟨2, 3, 4⟩, ⟨4, 5, 5⟩] ((1 : Nat) : Int) = ⟨2, 3, 4⟩ from rfl, chars_is abc_cs1]
  rfl
theorem abc_of_3 : fnd [97, 10, 98, 10, 99] 3 = (1 : Nat) ∧ pch [97, 10, 98, 10, 99] 3 = 1 := by
  have h : fnd [97, 10, 98, 10, 99] 3 = 1 := fnd_eq (by rw [abc_lns]; exact findB_ok (by decide))
  refine ⟨h, ?_⟩
  unfold pch
  rw [h, abc_lns, show rdLn [⟨0, 1, 2⟩, ⟨2, 3, 4⟩, ⟨4, 5, 5⟩] ((1 : Nat) : Int) = ⟨2, 3, 4⟩ from rfl, chars_is abc_cs1]
  rfl
theorem abc_is_2 : isPb [97, 10, 98, 10, 99] 2 = true := by
  unfold isPb
  rw [abc_of_2.1, abc_of_2.2]
  exact beq_iff_eq.mpr abc_at_1_0
theorem abc_is_3 : isPb [97, 10, 98, 10, 99] 3 = true := by
  unfold isPb
  rw [abc_of_3.1, abc_of_3.2]
  exact beq_iff_eq.mpr abc_at_1_1
theorem axyc_at_1_0 : poff [97, 10, 120, 121, 10, 99] 1 0 = 2 := by rw [poff_of axyc_lns]; first | (rw [if_pos (by decide)]; rfl) | (rw [if_neg (by decide), show rdLn [⟨0, 1, 2⟩, ⟨2, 4, 5⟩, ⟨5, 6, 6⟩] 1 = ⟨2, 4, 5⟩ from rfl, chars_is axyc_cs1]; rfl)
theorem axyc_at_1_2 : poff [97, 10, 120, 121, 10, 99] 1 2 = 4 := by rw [poff_of axyc_lns]; first | (rw [if_pos (by decide)]; rfl) | (rw [if_neg (by decide), show rdLn [⟨0, 1, 2⟩, ⟨2, 4, 5⟩, ⟨5, 6, 6⟩] 1 = ⟨2, 4, 5⟩ from rfl, chars_is axyc_cs1]; rfl)
theorem axyc_of_2 : fnd [97, 10, 120, 121, 10, 99] 2 = (1 : Nat) ∧ pch [97, 10, 120, 121, 10, 99] 2 = 0 := by
  have h : fnd [97, 10, 120, 121, 10, 99] 2 = 1 := fnd_eq (by rw [axyc_lns]; exact findB_ok (by decide))
  refine ⟨h, ?_⟩
  unfold pch
  rw [h, axyc_lns, show rdLn [⟨0, 1, 2⟩, ⟨2, 4, 5⟩, ⟨5, 6, 6⟩] ((1 : Nat) : Int) = ⟨2, 4, 5⟩ from rfl, chars_is axyc_cs1]
  rfl
theorem axyc_of_4 : fnd [97, 10, 120, 121, 10, 99] 4 = (1 : Nat) ∧ pch [97, 10, 120, 121, 10, 99] 4 = 2 := by
  have h : fnd [97, 10, 120, 121, 10, 99] 4 = 1 := fnd_eq (by rw [axyc_lns]; exact findB_ok (by decide))
  refine ⟨h, ?_⟩
  unfold pch
  rw [h, axyc_lns, show rdLn [⟨0, 1, 2⟩, ⟨2, 4, 5⟩, ⟨5, 6, 6⟩] ((1 : Nat) : Int) = ⟨2, 4, 5⟩ from rfl, chars_is axyc_cs1]
  rfl
theorem axyc_is_2 : isPb [97, 10, 120, 121, 10, 99] 2 = true := by
  unfold isPb
  rw [axyc_of_2.1, axyc_of_2.2]
  exact beq_iff_eq.mpr axyc_at_1_0
theorem axyc_is_4 : isPb [97, 10, 120, 121, 10, 99] 4 = true := by
  unfold isPb
  rw [axyc_of_4.1, axyc_of_4.2]
  exact beq_iff_eq.mpr axyc_at_1_2
end Go.Proofs.Ytjebkpcekkkbkaa.B

namespace Go.Proofs.Ytjebkpcekkkbkaa.B
open Go.RowKit Go.Shelf Go.Proofs Go.Proofs.YtjebkpcekkkbkaaW.PrintWords Go.Proofs.YtjebkpcekkkbkaaW.PrintLast Go.Proofs.YtjebkpcekkkbkaaW.PrintMore Go.Proofs.Ytjebkpcekkkbkaa.FBase
set_option linter.unusedVariables false
set_option linter.unusedSimpArgs false

/-- []byte("..") of a constant. -/
theorem lit_mark (W : World) (g : Nat) (l : List Int) (cs : Array Value) (t : TypeId) (fr : Nat × Nat) (hg : W.heap.size = g) (hcs : cs.toList = l.map (Value.int .u8)) (hn : l.length ≤ 9223372036854775807) : Kd.C (Kd.int .u8) (W.alloc (.cells cs t fr)) (some ⟨g, 0, none⟩) l.length l := by
  subst hg
  refine Kd.C_of_reads (d := 0) ⟨rfl, hn, fun _ => ⟨_, rfl, fun j hj => ?_⟩⟩
  rw [show (⟨W.heap.size, 0, none⟩ : Addr).add j = ⟨W.heap.size, j, none⟩ by simp [Addr.add]; omega, cell_of_row _ _ j cs t fr (blk_new W _), ← Array.getElem?_toList, hcs]
  simp [List.getD, hj]
theorem conv_lit (w : World) (C : Array Value) (n c : Nat) : (convert 22 22 (.slice (some ⟨w.heap.size, 0, none⟩) n c)).run Try.prog (w.alloc (.cells C 5)) = .ok (.slice (some ⟨w.heap.size, 0, none⟩) n c) (w.alloc (.cells C 5 (C.size, C.size + 1))) :=
  Lib.run_convert_bytes_const (P := Try.prog) w 22 5 C n c Try.underlying22 Try.underlying5
theorem conv_lit2 (w : World) (o : Obj) (C : Array Value) (n c : Nat) : (convert 22 22 (.slice (some ⟨w.heap.size + 1, 0, none⟩) n c)).run Try.prog ((w.alloc o).alloc (.cells C 5)) = .ok (.slice (some ⟨w.heap.size + 1, 0, none⟩) n c) ((w.alloc o).alloc (.cells C 5 (C.size, C.size + 1))) := by
  have h := conv_lit (w.alloc o) C n c
  rw [World.size_alloc] at h
  exact h
theorem conv_lit3 (w : World) (o o' : Obj) (C : Array Value) (n c : Nat) : (convert 22 22 (.slice (some ⟨w.heap.size + 1 + 1, 0, none⟩) n c)).run Try.prog (((w.alloc o).alloc o').alloc (.cells C 5)) = .ok (.slice (some ⟨w.heap.size + 1 + 1, 0, none⟩) n c) (((w.alloc o).alloc o').alloc (.cells C 5 (C.size, C.size + 1))) := by
  have h := conv_lit2 (w.alloc o) o' C n c
  rw [World.size_alloc] at h
  exact h

theorem works_e1 : ech [97, 10, 98, 10, 99] (bytesOf ⟨#[120, 121]⟩) false 1 0 1 1 = (2, 3, [97, 10, 120, 121, 10, 99], 0) := by
  have hb : bytesOf ⟨#[120, 121]⟩ = [120, 121] := rfl
  have hx : (chk [120, 121]).2 = 0 := by decide +kernel
  rw [hb, ech_ok abc_chk hx (esp_at (by decide) (by decide) (by decide) (by decide) abc_at_1_0 abc_at_1_1 (by decide)) (by decide)]
  rfl
theorem works_e2 : ech [97, 10, 98, 10, 99] (bytesOf ⟨#[]⟩) false 0 5 2 0 = (1, 4, [97, 99], 0) := by
  have hb : bytesOf ⟨#[]⟩ = [] := rfl
  rw [hb, ech_ok abc_chk rfl (esp_at (by decide) (by decide) (by decide) (by decide) abc_at_0_5 abc_at_2_0 (by decide)) (by decide)]
  rfl
theorem works_m1 (w : World) : Calls Try.prog 32 #[.string ⟨#[97, 10, 98, 10, 99]⟩, .agg #[.bool false, .int .i64 1, .int .i64 0, .int .i64 1, .int .i64 1, .string ⟨#[120, 121]⟩], .string ⟨#[97, 10, 120, 121, 10, 99]⟩] w fun e w' => e = .returned (.bool true) ∧ Below w.heap.size w w' :=
  makes_ok ⟨#[97, 10, 98, 10, 99]⟩ ⟨#[120, 121]⟩ ⟨#[97, 10, 120, 121, 10, 99]⟩ false 1 0 1 1 w (by decide) (by decide) (by decide) (by decide)
    (by rw [show bytesOf ⟨#[97, 10, 98, 10, 99]⟩ = [97, 10, 98, 10, 99] from rfl, works_e1]) (by rw [show bytesOf ⟨#[97, 10, 98, 10, 99]⟩ = [97, 10, 98, 10, 99] from rfl, works_e1]; rfl)
theorem works_m2 (w : World) : Calls Try.prog 32 #[.string ⟨#[97, 10, 98, 10, 99]⟩, .agg #[.bool false, .int .i64 0, .int .i64 5, .int .i64 2, .int .i64 0, .string ⟨#[]⟩], .string ⟨#[97, 99]⟩] w fun e w' => e = .returned (.bool true) ∧ Below w.heap.size w w' :=
  makes_ok ⟨#[97, 10, 98, 10, 99]⟩ ⟨#[]⟩ ⟨#[97, 99]⟩ false 0 5 2 0 w (by decide) (by decide) (by decide) (by decide)
    (by rw [show bytesOf ⟨#[97, 10, 98, 10, 99]⟩ = [97, 10, 98, 10, 99] from rfl, works_e2]) (by rw [show bytesOf ⟨#[97, 10, 98, 10, 99]⟩ = [97, 10, 98, 10, 99] from rfl, works_e2]; rfl)
theorem works_B3 : Bytes [97, 10, 66, 10, 99] := by intro x hx; simp at hx; omega
theorem works_back (g : Nat) (w : World) (hr : Kd.C (Kd.int .u8) w (some ⟨g, 0, none⟩) 5 [97, 10, 98, 10, 99]) :
    Calls Try.prog 24 #[.slice (some ⟨g, 0, none⟩) 5 5, .agg #[.bool false, .int .i64 1, .int .i64 0, .int .i64 1, .int .i64 1, .string ⟨#[120, 121]⟩]] w fun e w' => e = .returned (.tuple #[.agg #[.bool false, .int .i64 1, .int .i64 0, .int .i64 1, .int .i64 2, .string ⟨#[98]⟩], .int .i64 0]) ∧ Below w.heap.size w w' := by
  have h := Back_ok (some ⟨g, 0, none⟩) 5 [97, 10, 98, 10, 99] false 1 0 1 1 ⟨#[120, 121]⟩ w hr (by decide) (fun e => nomatch e) abc_B (by decide) (by decide) (by decide) (by decide) rfl (by rw [works_e1]) (by rw [works_e1]; exact axyc_is_2) (by rw [works_e1]; exact axyc_is_4)
  rw [works_e1] at h
  have e1 : ((2 : Int) + (({ data := #[120, 121] } : ByteArray).size : Int)) = 4 := rfl
  simp only [e1] at h
  rw [axyc_of_2.1, axyc_of_2.2, axyc_of_4.1, axyc_of_4.2] at h
  exact h
theorem works_dif : IsDiff [97, 10, 98, 10, 99] [97, 10, 66, 10, 99] 2 2 := by
  refine ⟨(isPb_iff _ _).1 abc_is_2, by decide, by decide, rfl, fun n h1 h2 h3 h4 => ?_, (isPb_iff _ _).1 abc_is_3, rfl, fun n h1 h2 h3 h4 => ?_⟩
  · have : n = 3 ∨ n = 4 ∨ n = 5 := by simp at h2; omega
    rcases this with rfl | rfl | rfl <;> exact absurd h4 (by decide)
  · have : n = 3 := by simp at h2; omega
    subst this
    exact absurd h4 (by decide)
theorem works_diff (g g' : Nat) (w : World) (hr : Kd.C (Kd.int .u8) w (some ⟨g, 0, none⟩) 5 [97, 10, 98, 10, 99]) (hr2 : Kd.C (Kd.int .u8) w (some ⟨g', 0, none⟩) 5 [97, 10, 66, 10, 99]) :
    Calls Try.prog 18 #[.slice (some ⟨g, 0, none⟩) 5 5, .slice (some ⟨g', 0, none⟩) 5 5] w fun e w' => e = .returned (.tuple #[.agg #[.bool false, .int .i64 1, .int .i64 0, .int .i64 1, .int .i64 1, .string ⟨#[66]⟩], .int .i64 0]) ∧ Below w.heap.size w w' := by
  have h3 : (chk [97, 10, 66, 10, 99]).2 = 0 := by decide +kernel
  refine (Diff_ok (some ⟨g, 0, none⟩) (some ⟨g', 0, none⟩) 5 5 [97, 10, 98, 10, 99] [97, 10, 66, 10, 99] w hr (by decide) hr2 (by decide) (fun e => nomatch e) abc_B works_B3 (by decide) (by decide) abc_chk h3 (by decide)).mono ?_
  rintro e w' ⟨⟨f, t, hd, rfl⟩, hb⟩
  obtain ⟨rfl, rfl⟩ := hd.uniq works_dif
  refine ⟨?_, hb⟩
  have e2 : ((([97, 10, 98, 10, 99] : List Int).length - 2 : Nat) : Int) = 3 := rfl
  rw [e2]
  have a1 := abc_of_2.1
  have a2 := abc_of_2.2
  have a3 := abc_of_3.1
  have a4 := abc_of_3.2
  rw [show ((2 : Nat) : Int) = 2 from rfl, a1, a2, a3, a4]
  rfl

set_option maxRecDepth 100000 in
set_option maxHeartbeats 4000000 in
theorem works15_ok (w : World) : Calls Try.prog 21 #[] w fun e w' => e = .returned (.bool true) ∧ Below w.heap.size w w' := by
  have HS := Aside0.mk (Sta.start w)
  have t1 := True.intro
  go_enter Try.func21, Try.ntmps21
  have kc := conv_lit
  have kc2 := conv_lit2
  have kc3 := conv_lit3
  go_upto_region 3 with (first | (have _t := t1; go_at_call 30; refine (colophonlaw15_at.calls 1 0 1 1 ⟨#[120, 121]⟩ _ _ _ _ _ _ _ rfl).mono ?_; rintro e w1 ⟨rfl, hb⟩; have hL := Kd.C_below (lit_mark w _ [97, 10, 98, 10, 99] #[.int .u8 97, .int .u8 10, .int .u8 98, .int .u8 10, .int .u8 99] 5 (5, 6) rfl rfl (by decide)) hb; have m_ := Aside0.mk ((HS.out.call (by repeat (first | exact Below.refl _ _ | apply below_alloc | apply pw_below_drewN | apply below_drew1 | apply bytes_step)) hb).add hL (keeps_C _ _ _ _)); clear HS hb hL; have HS := m_; clear m_; clear t1 _t) | (go_at_call 24; refine (works_back _ _ (HS.out.step (by repeat (first | exact Below.refl _ _ | apply below_alloc | apply pw_below_drewN | apply below_drew1 | apply bytes_step))).now.1).mono ?_; rintro e w2 ⟨rfl, hb⟩; have m_ := Aside0.mk (HS.out.call (by repeat (first | exact Below.refl _ _ | apply below_alloc | apply pw_below_drewN | apply below_drew1 | apply bytes_step)) hb); clear HS hb ; have HS := m_; clear m_) | (go_at_call 18; refine (works_diff _ _ _ (Kd.C_below (lit_mark (w2.alloc (.cells #[.bool false, .int .i64 1, .int .i64 0, .int .i64 1, .int .i64 2, .string ⟨#[98]⟩] 29)) _ [97, 10, 98, 10, 99] #[.int .u8 97, .int .u8 10, .int .u8 98, .int .u8 10, .int .u8 99] 5 (5, 6) (by simp) rfl (by decide)) (below_alloc (Below.refl _ _) _)) (lit_mark _ _ [97, 10, 66, 10, 99] #[.int .u8 97, .int .u8 10, .int .u8 66, .int .u8 10, .int .u8 99] 5 (5, 6) (by simp) rfl (by decide))).mono ?_; rintro e w3 ⟨rfl, hb⟩; have hbx := IsBlk.below (IsBlk.below (IsBlk.below (blk_new w2 (.cells #[.bool false, .int .i64 1, .int .i64 0, .int .i64 1, .int .i64 2, .string ⟨#[98]⟩] 29)) (below_alloc (Below.refl _ _) _)) (below_alloc (Below.refl _ _) _)) hb; have m_ := Aside0.mk ((HS.out.call (by repeat (first | exact Below.refl _ _ | apply below_alloc | apply pw_below_drewN | apply below_drew1 | apply bytes_step)) hb).add hbx (keeps_blk _ _)); clear HS hb hbx; have HS := m_; clear m_))
  have m_ := Aside0.mk ((HS.out.step (below_alloc (Below.refl _ w3) (.cells #[.bool false, .int .i64 1, .int .i64 0, .int .i64 1, .int .i64 1, .string ⟨#[66]⟩] 29))).add (blk_new w3 (.cells #[.bool false, .int .i64 1, .int .i64 0, .int .i64 1, .int .i64 1, .string ⟨#[66]⟩] 29)) (keeps_blk _ _))
  clear HS kc kc2 kc3
  have HS := m_
  clear m_
  generalize w3.alloc (.cells #[.bool false, .int .i64 1, .int .i64 0, .int .i64 1, .int .i64 1, .string ⟨#[66]⟩] 29) = W5 at HS ⊢
  generalize w3.heap.size = g3 at HS ⊢
  generalize w2.heap.size = g1 at HS ⊢
  have p0 : W5.cell? ⟨g1, 0, none⟩ = some (.bool false) := HS.out.now.2.1.cell 0
  have q0 : W5.cell? ⟨g3, 0, none⟩ = some (.bool false) := HS.out.now.1.cell 0
  have p1 : W5.cell? ⟨g1, 1, none⟩ = some (.int .i64 1) := HS.out.now.2.1.cell 1
  have q1 : W5.cell? ⟨g3, 1, none⟩ = some (.int .i64 1) := HS.out.now.1.cell 1
  have p2 : W5.cell? ⟨g1, 2, none⟩ = some (.int .i64 0) := HS.out.now.2.1.cell 2
  have q2 : W5.cell? ⟨g3, 2, none⟩ = some (.int .i64 0) := HS.out.now.1.cell 2
  have p3 : W5.cell? ⟨g1, 3, none⟩ = some (.int .i64 1) := HS.out.now.2.1.cell 3
  have q3 : W5.cell? ⟨g3, 3, none⟩ = some (.int .i64 1) := HS.out.now.1.cell 3
  have p4 : W5.cell? ⟨g1, 4, none⟩ = some (.int .i64 2) := HS.out.now.2.1.cell 4
  have q4 : W5.cell? ⟨g3, 4, none⟩ = some (.int .i64 1) := HS.out.now.1.cell 4
  have p5 : W5.cell? ⟨g1, 5, none⟩ = some (.string ⟨#[98]⟩) := HS.out.now.2.1.cell 5
  have q5 : W5.cell? ⟨g3, 5, none⟩ = some (.string ⟨#[66]⟩) := HS.out.now.1.cell 5
  have t2 := True.intro
  have t3 := True.intro
  have t4 := True.intro
  have t5 := True.intro
  have t6 := True.intro
  have t7 := True.intro
  have q1_ : ∀ W : World, (binOp .eql 29 (.agg #[.bool false, .int .i64 1, .int .i64 0, .int .i64 1, .int .i64 2, .string ⟨#[98]⟩]) (.agg #[.bool false, .int .i64 1, .int .i64 0, .int .i64 1, .int .i64 2, .string ⟨#[98]⟩])).run Try.prog W = .ok (.bool true) W := fun _ => by kernel_rfl
  have q3_ : ∀ W : World, (binOp .eql 29 (.agg #[.bool false, .int .i64 1, .int .i64 0, .int .i64 1, .int .i64 1, .string ⟨#[66]⟩]) (.agg #[.bool false, .int .i64 1, .int .i64 0, .int .i64 1, .int .i64 1, .string ⟨#[66]⟩])).run Try.prog W = .ok (.bool true) W := fun _ => by kernel_rfl
  go_region_held3 (fun wx => wx.cell? ⟨g1, 0, none⟩ = some (.bool false) ∧ wx.cell? ⟨g1, 1, none⟩ = some (.int .i64 1) ∧ wx.cell? ⟨g1, 2, none⟩ = some (.int .i64 0) ∧ wx.cell? ⟨g1, 3, none⟩ = some (.int .i64 1) ∧ wx.cell? ⟨g1, 4, none⟩ = some (.int .i64 2) ∧ wx.cell? ⟨g1, 5, none⟩ = some (.string ⟨#[98]⟩) ∧ wx.cell? ⟨g3, 0, none⟩ = some (.bool false) ∧ wx.cell? ⟨g3, 1, none⟩ = some (.int .i64 1) ∧ wx.cell? ⟨g3, 2, none⟩ = some (.int .i64 0) ∧ wx.cell? ⟨g3, 3, none⟩ = some (.int .i64 1) ∧ wx.cell? ⟨g3, 4, none⟩ = some (.int .i64 1) ∧ wx.cell? ⟨g3, 5, none⟩ = some (.string ⟨#[66]⟩)) (go_keep) (first | (have _t := t2; go_at_call 30; refine (colophonlaw15_at.calls 1 0 1 1 ⟨#[120, 121]⟩ _ _ _ _ _ _ _ rfl).mono ?_; rintro e w6 ⟨rfl, hb⟩; have m_ := Aside0.mk (HS.out.call (by repeat (first | exact Below.refl _ _ | apply below_alloc | apply pw_below_drewN | apply below_drew1 | apply bytes_step)) hb); clear HS hb ; have HS := m_; clear m_; have p0 : w6.cell? ⟨g1, 0, none⟩ = some (.bool false) := HS.out.now.2.1.cell 0; have q0 : w6.cell? ⟨g3, 0, none⟩ = some (.bool false) := HS.out.now.1.cell 0; have p1 : w6.cell? ⟨g1, 1, none⟩ = some (.int .i64 1) := HS.out.now.2.1.cell 1; have q1 : w6.cell? ⟨g3, 1, none⟩ = some (.int .i64 1) := HS.out.now.1.cell 1; have p2 : w6.cell? ⟨g1, 2, none⟩ = some (.int .i64 0) := HS.out.now.2.1.cell 2; have q2 : w6.cell? ⟨g3, 2, none⟩ = some (.int .i64 0) := HS.out.now.1.cell 2; have p3 : w6.cell? ⟨g1, 3, none⟩ = some (.int .i64 1) := HS.out.now.2.1.cell 3; have q3 : w6.cell? ⟨g3, 3, none⟩ = some (.int .i64 1) := HS.out.now.1.cell 3; have p4 : w6.cell? ⟨g1, 4, none⟩ = some (.int .i64 2) := HS.out.now.2.1.cell 4; have q4 : w6.cell? ⟨g3, 4, none⟩ = some (.int .i64 1) := HS.out.now.1.cell 4; have p5 : w6.cell? ⟨g1, 5, none⟩ = some (.string ⟨#[98]⟩) := HS.out.now.2.1.cell 5; have q5 : w6.cell? ⟨g3, 5, none⟩ = some (.string ⟨#[66]⟩) := HS.out.now.1.cell 5; clear t2 _t) | (have _t := t3; go_at_call 32; refine (works_m1 _).mono ?_; rintro e w6 ⟨rfl, hb⟩; have m_ := Aside0.mk (HS.out.call (by repeat (first | exact Below.refl _ _ | apply below_alloc | apply pw_below_drewN | apply below_drew1 | apply bytes_step)) hb); clear HS hb ; have HS := m_; clear m_; have p0 : w6.cell? ⟨g1, 0, none⟩ = some (.bool false) := HS.out.now.2.1.cell 0; have q0 : w6.cell? ⟨g3, 0, none⟩ = some (.bool false) := HS.out.now.1.cell 0; have p1 : w6.cell? ⟨g1, 1, none⟩ = some (.int .i64 1) := HS.out.now.2.1.cell 1; have q1 : w6.cell? ⟨g3, 1, none⟩ = some (.int .i64 1) := HS.out.now.1.cell 1; have p2 : w6.cell? ⟨g1, 2, none⟩ = some (.int .i64 0) := HS.out.now.2.1.cell 2; have q2 : w6.cell? ⟨g3, 2, none⟩ = some (.int .i64 0) := HS.out.now.1.cell 2; have p3 : w6.cell? ⟨g1, 3, none⟩ = some (.int .i64 1) := HS.out.now.2.1.cell 3; have q3 : w6.cell? ⟨g3, 3, none⟩ = some (.int .i64 1) := HS.out.now.1.cell 3; have p4 : w6.cell? ⟨g1, 4, none⟩ = some (.int .i64 2) := HS.out.now.2.1.cell 4; have q4 : w6.cell? ⟨g3, 4, none⟩ = some (.int .i64 1) := HS.out.now.1.cell 4; have p5 : w6.cell? ⟨g1, 5, none⟩ = some (.string ⟨#[98]⟩) := HS.out.now.2.1.cell 5; have q5 : w6.cell? ⟨g3, 5, none⟩ = some (.string ⟨#[66]⟩) := HS.out.now.1.cell 5; clear t3 _t) | (have _t := t4; go_at_call 30; refine (colophonlaw15_at.calls 0 5 2 0 ⟨#[]⟩ _ _ _ _ _ _ _ rfl).mono ?_; rintro e w6 ⟨rfl, hb⟩; have m_ := Aside0.mk (HS.out.call (by repeat (first | exact Below.refl _ _ | apply below_alloc | apply pw_below_drewN | apply below_drew1 | apply bytes_step)) hb); clear HS hb ; have HS := m_; clear m_; have p0 : w6.cell? ⟨g1, 0, none⟩ = some (.bool false) := HS.out.now.2.1.cell 0; have q0 : w6.cell? ⟨g3, 0, none⟩ = some (.bool false) := HS.out.now.1.cell 0; have p1 : w6.cell? ⟨g1, 1, none⟩ = some (.int .i64 1) := HS.out.now.2.1.cell 1; have q1 : w6.cell? ⟨g3, 1, none⟩ = some (.int .i64 1) := HS.out.now.1.cell 1; have p2 : w6.cell? ⟨g1, 2, none⟩ = some (.int .i64 0) := HS.out.now.2.1.cell 2; have q2 : w6.cell? ⟨g3, 2, none⟩ = some (.int .i64 0) := HS.out.now.1.cell 2; have p3 : w6.cell? ⟨g1, 3, none⟩ = some (.int .i64 1) := HS.out.now.2.1.cell 3; have q3 : w6.cell? ⟨g3, 3, none⟩ = some (.int .i64 1) := HS.out.now.1.cell 3; have p4 : w6.cell? ⟨g1, 4, none⟩ = some (.int .i64 2) := HS.out.now.2.1.cell 4; have q4 : w6.cell? ⟨g3, 4, none⟩ = some (.int .i64 1) := HS.out.now.1.cell 4; have p5 : w6.cell? ⟨g1, 5, none⟩ = some (.string ⟨#[98]⟩) := HS.out.now.2.1.cell 5; have q5 : w6.cell? ⟨g3, 5, none⟩ = some (.string ⟨#[66]⟩) := HS.out.now.1.cell 5; clear t4 _t) | (have _t := t5; go_at_call 32; refine (works_m2 _).mono ?_; rintro e w6 ⟨rfl, hb⟩; have m_ := Aside0.mk (HS.out.call (by repeat (first | exact Below.refl _ _ | apply below_alloc | apply pw_below_drewN | apply below_drew1 | apply bytes_step)) hb); clear HS hb ; have HS := m_; clear m_; have p0 : w6.cell? ⟨g1, 0, none⟩ = some (.bool false) := HS.out.now.2.1.cell 0; have q0 : w6.cell? ⟨g3, 0, none⟩ = some (.bool false) := HS.out.now.1.cell 0; have p1 : w6.cell? ⟨g1, 1, none⟩ = some (.int .i64 1) := HS.out.now.2.1.cell 1; have q1 : w6.cell? ⟨g3, 1, none⟩ = some (.int .i64 1) := HS.out.now.1.cell 1; have p2 : w6.cell? ⟨g1, 2, none⟩ = some (.int .i64 0) := HS.out.now.2.1.cell 2; have q2 : w6.cell? ⟨g3, 2, none⟩ = some (.int .i64 0) := HS.out.now.1.cell 2; have p3 : w6.cell? ⟨g1, 3, none⟩ = some (.int .i64 1) := HS.out.now.2.1.cell 3; have q3 : w6.cell? ⟨g3, 3, none⟩ = some (.int .i64 1) := HS.out.now.1.cell 3; have p4 : w6.cell? ⟨g1, 4, none⟩ = some (.int .i64 2) := HS.out.now.2.1.cell 4; have q4 : w6.cell? ⟨g3, 4, none⟩ = some (.int .i64 1) := HS.out.now.1.cell 4; have p5 : w6.cell? ⟨g1, 5, none⟩ = some (.string ⟨#[98]⟩) := HS.out.now.2.1.cell 5; have q5 : w6.cell? ⟨g3, 5, none⟩ = some (.string ⟨#[66]⟩) := HS.out.now.1.cell 5; clear t5 _t) | (have _t := t6; go_at_call 30; refine (colophonlaw15_at.calls 1 0 1 2 ⟨#[98]⟩ _ _ _ _ _ _ _ rfl).mono ?_; rintro e w6 ⟨rfl, hb⟩; have m_ := Aside0.mk (HS.out.call (by repeat (first | exact Below.refl _ _ | apply below_alloc | apply pw_below_drewN | apply below_drew1 | apply bytes_step)) hb); clear HS hb ; have HS := m_; clear m_; have p0 : w6.cell? ⟨g1, 0, none⟩ = some (.bool false) := HS.out.now.2.1.cell 0; have q0 : w6.cell? ⟨g3, 0, none⟩ = some (.bool false) := HS.out.now.1.cell 0; have p1 : w6.cell? ⟨g1, 1, none⟩ = some (.int .i64 1) := HS.out.now.2.1.cell 1; have q1 : w6.cell? ⟨g3, 1, none⟩ = some (.int .i64 1) := HS.out.now.1.cell 1; have p2 : w6.cell? ⟨g1, 2, none⟩ = some (.int .i64 0) := HS.out.now.2.1.cell 2; have q2 : w6.cell? ⟨g3, 2, none⟩ = some (.int .i64 0) := HS.out.now.1.cell 2; have p3 : w6.cell? ⟨g1, 3, none⟩ = some (.int .i64 1) := HS.out.now.2.1.cell 3; have q3 : w6.cell? ⟨g3, 3, none⟩ = some (.int .i64 1) := HS.out.now.1.cell 3; have p4 : w6.cell? ⟨g1, 4, none⟩ = some (.int .i64 2) := HS.out.now.2.1.cell 4; have q4 : w6.cell? ⟨g3, 4, none⟩ = some (.int .i64 1) := HS.out.now.1.cell 4; have p5 : w6.cell? ⟨g1, 5, none⟩ = some (.string ⟨#[98]⟩) := HS.out.now.2.1.cell 5; have q5 : w6.cell? ⟨g3, 5, none⟩ = some (.string ⟨#[66]⟩) := HS.out.now.1.cell 5; clear t6 _t) | (have _t := t7; go_at_call 30; refine (colophonlaw15_at.calls 1 0 1 1 ⟨#[66]⟩ _ _ _ _ _ _ _ rfl).mono ?_; rintro e w6 ⟨rfl, hb⟩; have m_ := Aside0.mk (HS.out.call (by repeat (first | exact Below.refl _ _ | apply below_alloc | apply pw_below_drewN | apply below_drew1 | apply bytes_step)) hb); clear HS hb ; have HS := m_; clear m_; have p0 : w6.cell? ⟨g1, 0, none⟩ = some (.bool false) := HS.out.now.2.1.cell 0; have q0 : w6.cell? ⟨g3, 0, none⟩ = some (.bool false) := HS.out.now.1.cell 0; have p1 : w6.cell? ⟨g1, 1, none⟩ = some (.int .i64 1) := HS.out.now.2.1.cell 1; have q1 : w6.cell? ⟨g3, 1, none⟩ = some (.int .i64 1) := HS.out.now.1.cell 1; have p2 : w6.cell? ⟨g1, 2, none⟩ = some (.int .i64 0) := HS.out.now.2.1.cell 2; have q2 : w6.cell? ⟨g3, 2, none⟩ = some (.int .i64 0) := HS.out.now.1.cell 2; have p3 : w6.cell? ⟨g1, 3, none⟩ = some (.int .i64 1) := HS.out.now.2.1.cell 3; have q3 : w6.cell? ⟨g3, 3, none⟩ = some (.int .i64 1) := HS.out.now.1.cell 3; have p4 : w6.cell? ⟨g1, 4, none⟩ = some (.int .i64 2) := HS.out.now.2.1.cell 4; have q4 : w6.cell? ⟨g3, 4, none⟩ = some (.int .i64 1) := HS.out.now.1.cell 4; have p5 : w6.cell? ⟨g1, 5, none⟩ = some (.string ⟨#[98]⟩) := HS.out.now.2.1.cell 5; have q5 : w6.cell? ⟨g3, 5, none⟩ = some (.string ⟨#[66]⟩) := HS.out.now.1.cell 5; clear t7 _t))
  go_wp2
  go_ret
  exact ⟨rfl, (HS.out.step (by repeat (first | exact Below.refl _ _ | apply below_alloc | apply pw_below_drewN | apply below_drew1 | apply bytes_step))).bel⟩
end Go.Proofs.Ytjebkpcekkkbkaa.B
