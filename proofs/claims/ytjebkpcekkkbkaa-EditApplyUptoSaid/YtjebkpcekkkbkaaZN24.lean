/-
  The reference's Apply, walked.
-/
import Derived.Test.YtjebkpcekkkbkaaZN246
set_option linter.unusedSimpArgs false
set_option linter.unusedVariables false
namespace Go.Proofs.Ytjebkpcekkkbkaa.B
open Go.RowKit Go.Shelf Go.Proofs Go.Proofs.YtjebkpcekkkbkaaW.PrintWords Go.Proofs.YtjebkpcekkkbkaaW.PrintLast Go.Proofs.YtjebkpcekkkbkaaW.PrintMore Go.Proofs.Ytjebkpcekkkbkaa.FBase
theorem ROne_is (A : Option Addr) (c : Nat) (l : List Int) (wh : Bool) (x0 x1 x2 x3 : Int) (s : ByteArray) (w : World) (hr : Kd.C (Kd.int .u8) w A l.length l) (hc : l.length ≤ c) (hB : Bytes l) (hs : l.length ≤ 1048576) (hs2 : s.size ≤ 1048576) (hx1 : x1 ≤ 9223372036854775807) (hx3 : x3 ≤ 9223372036854775807) : Calls Try.prog 64 #[.slice A l.length c, .agg #[.bool wh, .int .i64 x0, .int .i64 x1, .int .i64 x2, .int .i64 x3, .string s]] w fun e w' => ∃ v : Value, e = .returned (.tuple #[v, .int .i64 (ech l (bytesOf s) wh x0 x1 x2 x3).2.2.2]) ∧ Kd.R (Kd.int .u8) 5 w' w.heap.size (fun _ => True) v (ech l (bytesOf s) wh x0 x1 x2 x3).2.2.1 ∧ Below w.heap.size w w' := by
  by_cases h1 : (chk l).2 = 0
  · by_cases h2 : (chk (bytesOf s)).2 = 0
    · by_cases h3 : (esp l wh x0 x1 x2 x3).2.2 = 0
      · by_cases h4 : 8192 < (l.length : Int) - ((esp l wh x0 x1 x2 x3).2.1 - (esp l wh x0 x1 x2 x3).1) + s.size
        · rw [show (ech l (bytesOf s) wh x0 x1 x2 x3) = (0, 0, [], 5) by unfold ech; rw [if_neg (by omega), if_neg (by omega), if_neg (by omega), if_pos (by rw [bytesOf_length]; exact h4)]]
          exact ROne_e4 A c l wh x0 x1 x2 x3 s w hr hc hB hs hs2 hx1 hx3 h1 h2 h3 h4
        · rw [show (ech l (bytesOf s) wh x0 x1 x2 x3) = ((esp l wh x0 x1 x2 x3).1, (esp l wh x0 x1 x2 x3).2.1, l.take (esp l wh x0 x1 x2 x3).1.toNat ++ bytesOf s ++ l.drop (esp l wh x0 x1 x2 x3).2.1.toNat, 0) by unfold ech; rw [if_neg (by omega), if_neg (by omega), if_neg (by omega), if_neg (by rw [bytesOf_length]; exact h4)]]
          exact ROne_ok A c l wh x0 x1 x2 x3 s w hr hc hB hs hs2 hx1 hx3 h1 h2 h3 h4
      · rw [show (ech l (bytesOf s) wh x0 x1 x2 x3) = (0, 0, [], (esp l wh x0 x1 x2 x3).2.2) by unfold ech; rw [if_neg (by omega), if_neg (by omega), if_pos h3]]
        exact ROne_e3 A c l wh x0 x1 x2 x3 s w hr hc hB hs hs2 hx1 hx3 h1 h2 _ rfl h3
    · rw [show (ech l (bytesOf s) wh x0 x1 x2 x3) = (0, 0, [], (chk (bytesOf s)).2) by unfold ech; rw [if_neg (by omega), if_pos h2]]
      exact ROne_e2 A c l wh x0 x1 x2 x3 s w hr hc hB hs hs2 hx1 hx3 h1 _ rfl h2
  · rw [show (ech l (bytesOf s) wh x0 x1 x2 x3) = (0, 0, [], (chk l).2) by unfold ech; rw [if_pos h1]]
    exact ROne_e1 A c l wh x0 x1 x2 x3 s w hr hc hB hs hs2 hx1 hx3 _ rfl h1
set_option maxRecDepth 100000 in
set_option maxHeartbeats 4000000 in
theorem RApply_bad (A E : Option Addr) (c d : Nat) (l : List Int) (es : List S29) (w : World) (hr : Kd.C (Kd.int .u8) w A l.length l) (hc : l.length ≤ c) (hn : A = none → c = 0) (hre : Kd.C k29 w E es.length es) (hB : Bytes l) (hs : l.length ≤ 1048576) (hz : (chk l).2 ≠ 0) :
    Calls Try.prog 28 #[.slice A l.length c, .slice E es.length d] w fun e w' => ∃ v : Value, e = .returned (.tuple #[v, .int .i64 (chk l).2]) ∧ Kd.R (Kd.int .u8) 5 w' w.heap.size (fun _ => True) v [] ∧ Below w.heap.size w w' := by
  have HS : Aside0 (Sta w w (fun W => Kd.C (Kd.int .u8) W A l.length l ∧ Kd.C k29 W E es.length es)) := ⟨⟨Below.refl _ _, ⟨hr, hre⟩, keeps_and (keeps_C _ _ _ _) (keeps_C _ _ _ _)⟩⟩
  have HC := Aside0.mk hc
  have HBY := Aside0.mk hB
  have hkk := RCheck_f l hB hs (Nat.lt_succ_self _)
  obtain ⟨r, hk⟩ : ∃ r, (chk l).2 = r := ⟨_, rfl⟩
  rw [hk] at hz ⊢
  rw [show chk l = ((chk l).1, r) from Prod.ext rfl hk] at hkk
  have HK := Aside0.mk hkk
  have hz1 : (r != 0) = true := bne_iff_ne.mpr hz
  clear hz hk hkk hB hr hre hc
  go_enter Try.func28, Try.ntmps28
  go_wp2_with (go_at_call 55; refine (colophonref01_Check.calls _ A c l _ _ _ (HS.out.step (by repeat (first | exact Below.refl _ _ | apply zq2 | apply zq3 | apply zq4 | apply zq5))).now.1 HC.out HK.out).mono ?_; rintro e w1 ⟨rfl, hb⟩; have m_ := Aside0.mk (HS.out.call (by repeat (first | exact Below.refl _ _ | apply zq2 | apply zq3 | apply zq4 | apply zq5)) hb); clear HS hb ; have HS := m_; clear m_)
  go_ret2
  exact ⟨_, rfl, Kd.R_nil _ _ _ _ _, HS.out.bel⟩
set_option maxRecDepth 100000 in
set_option maxHeartbeats 4000000 in
theorem RApply_many (A E : Option Addr) (c d : Nat) (l : List Int) (es : List S29) (w : World) (hr : Kd.C (Kd.int .u8) w A l.length l) (hc : l.length ≤ c) (hn : A = none → c = 0) (hre : Kd.C k29 w E es.length es) (hB : Bytes l) (hs : l.length ≤ 1048576) (hz : (chk l).2 = 0) (hm : 32 < es.length) :
    Calls Try.prog 28 #[.slice A l.length c, .slice E es.length d] w fun e w' => ∃ v : Value, e = .returned (.tuple #[v, .int .i64 5]) ∧ Kd.R (Kd.int .u8) 5 w' w.heap.size (fun _ => True) v [] ∧ Below w.heap.size w w' := by
  have HS : Aside0 (Sta w w (fun W => Kd.C (Kd.int .u8) W A l.length l ∧ Kd.C k29 W E es.length es)) := ⟨⟨Below.refl _ _, ⟨hr, hre⟩, keeps_and (keeps_C _ _ _ _) (keeps_C _ _ _ _)⟩⟩
  have HC := Aside0.mk hc
  have HBY := Aside0.mk hB
  have hkk := RCheck_f l hB hs (Nat.lt_succ_self _)
  rw [show chk l = ((chk l).1, 0) from Prod.ext rfl hz] at hkk
  have HK := Aside0.mk hkk
  have g1 : decide (32 < (es.length : Int)) = true := decide_eq_true (by omega)
  clear hz hkk hB hr hre hc
  go_enter Try.func28, Try.ntmps28
  go_wp2_with (go_at_call 55; refine (colophonref01_Check.calls _ A c l _ _ _ (HS.out.step (by repeat (first | exact Below.refl _ _ | apply zq2 | apply zq3 | apply zq4 | apply zq5))).now.1 HC.out HK.out).mono ?_; rintro e w1 ⟨rfl, hb⟩; have m_ := Aside0.mk (HS.out.call (by repeat (first | exact Below.refl _ _ | apply zq2 | apply zq3 | apply zq4 | apply zq5)) hb); clear HS hb ; have HS := m_; clear m_)
  go_ret2
  exact ⟨_, rfl, Kd.R_nil _ _ _ _ _, HS.out.bel⟩
set_option maxRecDepth 100000 in
set_option maxHeartbeats 4000000 in
theorem RApply_ok (A E : Option Addr) (c d : Nat) (l : List Int) (es : List S29) (w : World) (hr : Kd.C (Kd.int .u8) w A l.length l) (hc : l.length ≤ c) (hn : A = none → c = 0) (hre : Kd.C k29 w E es.length es) (hB : Bytes l) (hs : l.length ≤ 1048576) (he : ∀ x ∈ es, x.f2.size ≤ 1048576 ∧ x.f1.f0.f1 ≤ 9223372036854775807 ∧ x.f1.f1.f1 ≤ 9223372036854775807) (hz : (chk l).2 = 0) (hm : ¬ 32 < es.length) :
    Calls Try.prog 28 #[.slice A l.length c, .slice E es.length d] w fun e w' => ∃ v : Value, e = .returned (.tuple #[v, .int .i64 (eall l (es.map edOf)).2]) ∧ Kd.R (Kd.int .u8) 5 w' w.heap.size (fun _ => True) v (eall l (es.map edOf)).1 ∧ Below w.heap.size w w' := by
  have HS : Aside0 (Sta w w (fun W => Kd.C (Kd.int .u8) W A l.length l ∧ Kd.C k29 W E es.length es)) := ⟨⟨Below.refl _ _, ⟨hr, hre⟩, keeps_and (keeps_C _ _ _ _) (keeps_C _ _ _ _)⟩⟩
  have HC := Aside0.mk hc
  have HBY := Aside0.mk hB
  have hkk := RCheck_f l hB hs (Nat.lt_succ_self _)
  rw [show chk l = ((chk l).1, 0) from Prod.ext rfl hz] at hkk
  have HK := Aside0.mk hkk
  have hv := (chk_V hB).1 hz
  have g1 : decide (32 < (es.length : Int)) = false := decide_eq_false (by omega)
  have HV := Aside0.mk hv
  have HE := Aside0.mk he
  clear hz hkk hB hr hre hc hv he
  go_enter Try.func28, Try.ntmps28
  go_wp2_with (first | (go_at_call 55; refine (colophonref01_Check.calls _ A c l _ _ _ (HS.out.step (by repeat (first | exact Below.refl _ _ | apply zq2 | apply zq3 | apply zq4 | apply zq5))).now.1 HC.out HK.out).mono ?_; rintro e w1 ⟨rfl, hb⟩; have m_ := Aside0.mk (HS.out.call (by repeat (first | exact Below.refl _ _ | apply zq2 | apply zq3 | apply zq4 | apply zq5)) hb); clear HS hb ; have HS := m_; clear m_) | (go_at_call 17; refine (Copy_ok A c l _ (HS.out.step (by repeat (first | exact Below.refl _ _ | apply zq2 | apply zq3 | apply zq4 | apply zq5))).now.1 HC.out hs).mono ?_; rintro e w2 ⟨v, rfl, hR, hb⟩; have hR2 := Kd.R_lower hR (HS.out.step (by repeat (first | exact Below.refl _ _ | apply zq2 | apply zq3 | apply zq4 | apply zq5))).bel.size; clear hR; obtain ⟨A2, c2, rfl, hl2, hn2, hC2⟩ := Ap.read (.inr hR2); clear hC2; have HL2 := Aside0.mk hl2; have HN2 := Aside0.mk hn2; clear hl2 hn2; have m_ := Aside0.mk ((HS.out.call (by repeat (first | exact Below.refl _ _ | apply zq2 | apply zq3 | apply zq4 | apply zq5)) hb).add hR2 (keeps_R _ _ _ _ _ _)); clear HS hb hR2; have HS := m_; clear m_))
  go_loopw [8, 9] (fun s8 s9 W => ∃ (k : Nat) (A2 : Option Addr) (c2 : Nat) (cur : List Int), s9 = .int .i64 k ∧ s8 = .slice A2 cur.length c2 ∧ k ≤ es.length ∧ cur.length ≤ 1048576 ∧ Aside0 (cur.length ≤ c2) ∧ Aside0 (A2 = none → c2 = 0) ∧ Aside0 (Bytes cur) ∧ Aside0 (V cur) ∧ Aside0 (eall l ((es.take k).map edOf) = (cur, 0)) ∧ Aside0 (Sta w W (fun W => Kd.R (Kd.int .u8) 5 W w.heap.size (fun _ => True) (.slice A2 cur.length c2) cur ∧ Kd.C (Kd.int .u8) W A l.length l ∧ Kd.C k29 W E es.length es))) (fun _ s9 _ => es.length - (intOf s9).toNat)
  case atStart => exact ⟨0, A2, c2, l, rfl, rfl, Nat.zero_le _, hs, HL2, HN2, HBY, HV, ⟨rfl⟩, HS⟩
  case round =>
    clear HS HL2 HN2
    obtain ⟨k, A2, c2, cur, rfl, rfl, hk, hcl, HL2, HN2, HBC, HVC, HEA, HS⟩ := hrel
    by_cases h1 : k < es.length
    · have g2 : decide (k < es.length) = true := decide_eq_true h1
      obtain ⟨ad, e1, y0, y1, y2, y3, y4, y5⟩ := at_T29 HS.out.now.2.2 (k : Int) (by omega) (by omega)
      cases e1
      rw [Int.toNat_natCast] at y0 y1 y2 y3 y4 y5
      have hx : rd_T29 es (k : Int) ∈ es := by
        have : rd_T29 es (k : Int) = es[k] := by simp [rd_T29, List.getD, h1]
        rw [this]
        exact List.getElem_mem _
      have htk : (es.take (k + 1)).map edOf = (es.take k).map edOf ++ [edOf (rd_T29 es (k : Int))] := by
        rw [List.take_succ_eq_append_getElem h1, List.map_append]
        simp [rd_T29, List.getD, h1]
      obtain ⟨hx0, hx1, hx2⟩ := HE.out _ hx
      have hsn := eall_snoc l _ (edOf (rd_T29 es (k : Int))) cur HEA.out
      rw [← htk] at hsn
      generalize rd_T29 es (k : Int) = x at *
      obtain ⟨out, hout⟩ : ∃ o, (ech cur (bytesOf x.f2) x.f0 x.f1.f0.f0 x.f1.f0.f1 x.f1.f1.f0 x.f1.f1.f1).2.2.1 = o := ⟨_, rfl⟩
      obtain ⟨er, her⟩ : ∃ o, (ech cur (bytesOf x.f2) x.f0 x.f1.f0.f0 x.f1.f0.f1 x.f1.f1.f0 x.f1.f1.f1).2.2.2 = o := ⟨_, rfl⟩
      have e2 : eone cur (edOf x) = (out, er) := Prod.ext hout her
      rw [e2] at hsn
      have HEO := Aside0.mk hout
      have HEE := Aside0.mk her
      by_cases hz : er = 0
      · rw [if_neg (by simpa using hz)] at hsn
        subst hz
        have hV2 := eone_V (e := edOf x) HBC.out (bytesOf_B _) (by rw [e2])
        rw [e2] at hV2
        have HB3 := Aside0.mk hV2.2.1
        have HV3 := Aside0.mk hV2.1
        have hl3 : out.length ≤ 8192 := hV2.2.2
        have HE3 := Aside0.mk hsn
        clear hsn hV2 e2 hout her hx htk
        go_wp2_with (go_at_call 64; refine (ROne_is A2 c2 cur x.f0 x.f1.f0.f0 x.f1.f0.f1 x.f1.f1.f0 x.f1.f1.f1 x.f2 _ (Kd.R_reads' (HS.out.step (by repeat (first | exact Below.refl _ _ | apply zq2 | apply zq3 | apply zq4 | apply zq5))).now.1).2.2 HL2.out HBC.out hcl hx0 hx1 hx2).mono ?_; rintro e w5 ⟨v, rfl, hR, hb⟩; rw [HEO.out] at hR; rw [HEE.out]; have hR2 := Kd.R_lower hR (HS.out.step (by repeat (first | exact Below.refl _ _ | apply zq2 | apply zq3 | apply zq4 | apply zq5))).bel.size; clear hR; obtain ⟨A3, c3, rfl, hl3, hn3, hC3⟩ := Ap.read (.inr hR2); clear hC3; have HL3 := Aside0.mk hl3; have HN3 := Aside0.mk hn3; clear hl3 hn3; have m_ := Aside0.mk ((HS.out.call (by repeat (first | exact Below.refl _ _ | apply zq2 | apply zq3 | apply zq4 | apply zq5)) hb).add hR2 (keeps_R _ _ _ _ _ _)); clear HS hb hR2; have HS := m_; clear m_)
        go_roundw
        case measure => simp [intOf]; omega
        case rel =>
          refine ⟨k + 1, A3, c3, out, by simp, rfl, by omega, by omega, HL3, HN3, HB3, HV3, HE3, ⟨HS.out.bel, ⟨HS.out.now.1, HS.out.now.2.2⟩, keeps_and (keeps_R _ _ _ _ _ _) (keeps_and (keeps_C _ _ _ _) (keeps_C _ _ _ _))⟩⟩
      · have hz1 : (er != 0) = true := bne_iff_ne.mpr hz
        rw [if_pos hz] at hsn
        have hfin : eall l (es.map edOf) = ([], er) := by
          have h9 := eall_stop l ((es.take (k + 1)).map edOf) ((es.drop (k + 1)).map edOf) (by rw [hsn]; exact hz)
          rw [← List.map_append, List.take_append_drop, hsn] at h9
          exact h9
        have HFIN := Aside0.mk hfin
        clear hsn e2 hout her hx htk hfin hz
        go_wp2_with (go_at_call 64; refine (ROne_is A2 c2 cur x.f0 x.f1.f0.f0 x.f1.f0.f1 x.f1.f1.f0 x.f1.f1.f1 x.f2 _ (Kd.R_reads' (HS.out.step (by repeat (first | exact Below.refl _ _ | apply zq2 | apply zq3 | apply zq4 | apply zq5))).now.1).2.2 HL2.out HBC.out hcl hx0 hx1 hx2).mono ?_; rintro e w5 ⟨v, rfl, hR, hb⟩; rw [HEO.out] at hR; rw [HEE.out]; have hR2 := Kd.R_lower hR (HS.out.step (by repeat (first | exact Below.refl _ _ | apply zq2 | apply zq3 | apply zq4 | apply zq5))).bel.size; clear hR; obtain ⟨A3, c3, rfl, hl3, hn3, hC3⟩ := Ap.read (.inr hR2); clear hC3; have HL3 := Aside0.mk hl3; have HN3 := Aside0.mk hn3; clear hl3 hn3; have m_ := Aside0.mk ((HS.out.call (by repeat (first | exact Below.refl _ _ | apply zq2 | apply zq3 | apply zq4 | apply zq5)) hb).add hR2 (keeps_R _ _ _ _ _ _)); clear HS hb hR2; have HS := m_; clear m_)
        go_ret2
        rw [HFIN.out]
        exact ⟨_, rfl, Kd.R_nil _ _ _ _ _, HS.out.bel⟩
    · have g2 : decide (k < es.length) = false := decide_eq_false h1
      have hfin : eall l (es.map edOf) = (cur, 0) := by
        have h9 := HEA.out
        rw [List.take_of_length_le (by omega)] at h9
        exact h9
      have HFIN := Aside0.mk hfin
      clear hfin
      go_wp2
      go_ret2
      rw [HFIN.out]
      exact ⟨_, rfl, HS.out.now.1, HS.out.bel⟩
theorem RApply_is (A E : Option Addr) (c d : Nat) (l : List Int) (es : List S29) (w : World) (hr : Kd.C (Kd.int .u8) w A l.length l) (hc : l.length ≤ c) (hn : A = none → c = 0) (hre : Kd.C k29 w E es.length es) (hB : Bytes l) (hs : l.length ≤ 1048576) (he : ∀ x ∈ es, x.f2.size ≤ 1048576 ∧ x.f1.f0.f1 ≤ 9223372036854775807 ∧ x.f1.f1.f1 ≤ 9223372036854775807) : Calls Try.prog 28 #[.slice A l.length c, .slice E es.length d] w fun e w' => ∃ v : Value, e = .returned (.tuple #[v, .int .i64 (eapp l (es.map edOf)).2]) ∧ Kd.R (Kd.int .u8) 5 w' w.heap.size (fun _ => True) v (eapp l (es.map edOf)).1 ∧ Below w.heap.size w w' := by
  unfold eapp
  rw [List.length_map]
  by_cases h1 : (chk l).2 ≠ 0
  · rw [if_pos h1]
    exact RApply_bad A E c d l es w hr hc hn hre hB hs h1
  · rw [if_neg h1]
    by_cases h2 : 32 < es.length
    · rw [if_pos h2]
      exact RApply_many A E c d l es w hr hc hn hre hB hs (by omega) h2
    · rw [if_neg h2]
      exact RApply_ok A E c d l es w hr hc hn hre hB hs he (by omega) h2
end Go.Proofs.Ytjebkpcekkkbkaa.B
