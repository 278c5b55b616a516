/-
  SetOf, walked.
-/
import Derived.Test.YtingbjdpjimikaaZT123
set_option linter.unusedSimpArgs false
set_option linter.unusedVariables false
namespace Go.Proofs.Ytingbjdpjimikaa.B
open Go.RowKit Go.Proofs Go.Proofs.YtingbjdpjimikaaW.PrintWords Go.Proofs.YtingbjdpjimikaaW.PrintLast Go.Proofs.YtingbjdpjimikaaW.PrintMore Go.Proofs.Ytingbjdpjimikaa.FBase
theorem foldl_len : ∀ (l s : List Sp), (l.foldl sMrg s).length ≤ s.length + l.length
  | [], s => Nat.le_refl _
  | x :: l, s => by
    have h1 := foldl_len l (sMrg s x)
    have h2 := sMrg_len s x
    rw [List.foldl_cons, List.length_cons]
    omega
theorem sOf_good (l : List Sp) : sCheck (sOf l).1 = 0 := by
  have h0 : sCheck [] = 0 := rfl
  unfold sOf
  split
  · exact h0
  · rename_i hl
    split
    · rename_i ha
      have hm : ∀ x ∈ l, may x := fun x hx => (mayB_iff x).1 (List.all_eq_true.1 ha x hx)
      obtain ⟨srt, hp, hs⟩ : ∃ srt : List Sp, srt.Perm (l.filter fun x => decide (x.f0 < x.f1)) ∧ srt.Pairwise (fun a b => a.f0 ≤ b.f0) := by
        refine ⟨(l.filter fun x => decide (x.f0 < x.f1)).mergeSort (fun a b => decide (a.f0 ≤ b.f0)), List.mergeSort_perm _ _, ?_⟩
        have := List.pairwise_mergeSort (le := fun a b : Sp => decide (a.f0 ≤ b.f0)) (by simp; omega) (by simp; omega) (l.filter fun x => decide (x.f0 < x.f1))
        exact this.imp (by simp)
      have hmem : ∀ x ∈ srt, 0 ≤ x.f0 ∧ x.f0 < x.f1 ∧ x.f1 ≤ 1114112 := fun x hx => by
        have h1 := List.mem_filter.1 (hp.mem_iff.1 hx)
        have h2 := hm x h1.1
        unfold may at h2
        exact ⟨h2.1, by simpa using h1.2, h2.2.2⟩
      show sCheck (mkS (sHas l) (cutsOf l) []) = 0
      rw [← sOf_mrg l hm srt hp hs]
      have h1 := fold_mrg srt [] trivial (fun x hx => ⟨(hmem x hx).1, (hmem x hx).2.1⟩) hs (fun y hy => nomatch hy)
      refine (sCheck_ok _).2 ⟨?_, h1.1, fun x hx => ?_⟩
      · have h2 := foldl_len srt []
        have h3 := hp.length_eq
        have h4 := List.length_filter_le (fun x : Sp => decide (x.f0 < x.f1)) l
        simp at h2
        omega
      · have h2 := h1.1.all x hx
        have h3 : sHas (srt.foldl sMrg []) (x.f1 - 1) = true := List.any_eq_true.2 ⟨x, hx, (inS_iff x _).2 ⟨by omega, by omega⟩⟩
        rw [h1.2, sHas_nil, Bool.false_or] at h3
        obtain ⟨y, hy, hin⟩ := List.any_eq_true.1 h3
        have h4 := (inS_iff y _).1 hin
        have h5 := hmem y hy
        omega
    · exact h0
theorem spoil_l : ∀ (n i k : Nat) (l : List Sp), l.length - i = n → n < k → l.length ≤ 1000000 → ∃ r, colophonlaw17_spoil.l0 k l i = some r
  | n, i, 0, l, _, h, _ => absurd h (Nat.not_lt_zero _)
  | n, i, k + 1, l, hn, hk, hl => by
    unfold colophonlaw17_spoil.l0
    by_cases hi : i < l.length
    · rw [if_pos (by omega), if_pos (by omega), w1 (by omega)]
      exact spoil_l (n - 1) (i + 1) k _ (by rw [List.length_set]; omega) (by omega) (by rw [List.length_set]; exact hl)
    · rw [if_neg (by omega)]
      exact ⟨_, rfl⟩
theorem spoil_f (l : List Sp) {k : Nat} (hk : l.length < k) (hl : l.length ≤ 1000000) : ∃ r, colophonlaw17_spoil.f k l = some r := spoil_l l.length 0 k l (by omega) hk hl
theorem cutS_to (A : Option Addr) (c n m : Nat) (h : m ≤ n) (hc : n ≤ c) : ∀ W1 : World, (Instr.slice 22 (.slice A n c) none (some (.int .i64 (m : Int))) none).run Try.prog W1 = .ok (.slice A m c) W1 := by
  obtain ⟨i0, hi0, _, hsz, _⟩ := info_parts info39
  have hcut := cut_to (P := Try.prog) 22 39 .i64 Try.underlying22 hi0 A n c (m : Int) (by omega) (by omega) hc
  simpa using hcut
set_option maxRecDepth 100000 in
set_option maxHeartbeats 4000000 in
theorem SetOf_ok (A : Option Addr) (c : Nat) (l : List Sp) (x : Int) (w : World) (hr : Kd.C k39 w A l.length l) (hc : l.length ≤ c) :
    Calls Try.prog 3 #[.slice A l.length c, .int .i64 x] w fun e w' => e = .returned (.bool true) ∧ Below w.heap.size w w' := by
  obtain ⟨q, hq⟩ : ∃ q, l.take 300 = q := ⟨_, rfl⟩
  have hql : q.length = min 300 l.length := by rw [← hq, List.length_take]
  have hqc : Kd.C k39 w A q.length q := by
    rw [← hq]
    by_cases h3 : 300 ≤ l.length
    · exact Kd.C_take hr (m := 300) h3
    · rw [List.take_of_length_le (by omega)]; exact hr
  have hlm : l.length ≤ 9223372036854775807 := hr.2.1
  obtain ⟨n, hn⟩ : ∃ n, l.length = n := ⟨_, rfl⟩
  rw [hn] at hc hlm hql ⊢
  obtain ⟨m, hm⟩ : ∃ m, q.length = m := ⟨_, rfl⟩
  have hcut := cutS_to A c n q.length (by omega) hc
  have hmi : min (n : Int) 300 = (q.length : Int) := by omega
  have hmi2 : (if (300 : Int) < (n : Int) then (300 : Int) else (n : Int)) = (q.length : Int) := by split <;> omega
  have hmi3 : (if (n : Int) < (300 : Int) then (n : Int) else (300 : Int)) = (q.length : Int) := by split <;> omega
  have hl3 : q.length ≤ 300 := by omega
  have HQC := Aside0.mk (show q.length ≤ c by omega)
  have HCP := Aside0.mk (show colophonref17_Copy.f q = some q by unfold colophonref17_Copy.f; rw [if_pos (by simp; omega)]; rfl)
  have hgood := sOf_good q
  have hro := of_f q (k := 11001) (by omega)
  have hxl : (sOf q).1.length ≤ 256 := ((sCheck_ok _).1 hgood).1
  have HCK := Aside0.mk (check_ff q (k := 301) (by omega))
  have HRC := Aside0.mk (rcheck_f q (k := 301) (by omega) (by omega))
  have hrh := has_f q x (k := 301) (by omega) (by omega)
  obtain ⟨bh, hbh⟩ : ∃ b, sHas q x = b := ⟨_, rfl⟩
  have HHQ := Aside0.mk hbh
  rw [hbh] at hrh
  have HRH := Aside0.mk hrh
  have hof := fun A c w h => Of_ok A c q w h
  obtain ⟨ck, hck⟩ : ∃ r, sCheck q = r := ⟨_, rfl⟩
  rw [hck] at HCK HRC
  have HOQ := Aside0.mk (fun A c w h => Of_ok A c q w h)
  obtain ⟨⟨sx, ex⟩, hsx⟩ : ∃ r, sOf q = r := ⟨_, rfl⟩
  rw [hsx] at hgood hro hxl HOQ
  have HRO := Aside0.mk hro
  have HSM := Aside0.mk (show colophonref17_Same.f 300 sx sx = some true by rw [same_f sx sx (by simp at hxl; omega) (by simp at hxl; omega)]; simp)
  have HSQ := Aside0.mk (show colophonref17_Same.f 301 q q = some true by rw [same_f q q (by omega) (by omega)]; simp)
  have HCX := Aside0.mk (show charset_Check.f 301 sx = some 0 by rw [check_ff sx (by simp at hxl; omega)]; exact congrArg some hgood)
  obtain ⟨rs, hrs⟩ := spoil_f sx (k := 301) (by simp at hxl; omega) (by simp at hxl; omega)
  have HSP := Aside0.mk hrs
  have HS : Aside0 (Sta w w (fun W => Kd.C k39 W A q.length q ∧ True)) := ⟨⟨Below.refl _ _, ⟨hqc, trivial⟩, keeps_and (keeps_C _ _ _ _) (fun _ _ h _ => h)⟩⟩
  have t1 := True.intro
  have t2 := True.intro
  have t3 := True.intro
  have t4 := True.intro
  clear hr hc hq hql hqc hlm hn hm m hgood hro hxl hrh hbh hof hck hsx hrs
  go_enter Try.func3, Try.ntmps3
  go_wp2_with (first | (go_at_call 10; refine (colophonref17_Copy.calls A c q _ _ (HS.out.step (by repeat (first | exact Below.refl _ _ | apply zq2 | apply zq3 | apply zq4 | apply zq5))).now.1 HQC.out HCP.out).mono ?_; rintro e w1 ⟨v, rfl, hR, hb⟩; obtain ⟨Ai, ci, rfl, hli, hCi⟩ := read_of hR; have HLI := Aside0.mk hli; have m_ := Aside0.mk ((HS.out.call (by repeat (first | exact Below.refl _ _ | apply zq2 | apply zq3 | apply zq4 | apply zq5)) hb).add hCi (keeps_C _ _ _ _)); clear HS hb hR hCi hli; have HW1 := m_; have HS := Aside0.mk (Sta.start w1 |>.only (F := fun _ => True) m_.out.now m_.out.keeps); clear m_) | (go_at_call 11; refine (HOQ.out Ai ci _ (HS.out.step (by repeat (first | exact Below.refl _ _ | apply zq2 | apply zq3 | apply zq4 | apply zq5))).now.1).mono ?_; rintro e w' ⟨v, rfl, hR, hb⟩; have HX := Aside0.mk (Kd.R_lower hR (HS.out.step (by repeat (first | exact Below.refl _ _ | apply zq2 | apply zq3 | apply zq4 | apply zq5))).bel.size); have HBX := Aside0.mk (Below.refl w'.heap.size w'); obtain ⟨Ax, cx, e9, hlx, hCx⟩ := read_of hR; have HLX := Aside0.mk hlx; subst e9; have m_ := Aside0.mk (((HS.out.call (by repeat (first | exact Below.refl _ _ | apply zq2 | apply zq3 | apply zq4 | apply zq5)) hb).add hCx (keeps_C _ _ _ _)).add HX.out (keeps_R _ _ _ _ _ _)); clear HS hb hR hCx hlx HX; have HS := m_; clear m_) | (go_at_call 12; refine (colophonref17_Of.calls 11001 A c q _ _ _ (HS.out.step (by repeat (first | exact Below.refl _ _ | apply zq2 | apply zq3 | apply zq4 | apply zq5))).now.2.2.2.1 HQC.out HRO.out).mono ?_; rintro e w' ⟨v, rfl, hR, hb⟩; obtain ⟨Ay, cy, rfl, hly, hCy⟩ := read_of hR; have HLY := Aside0.mk hly; have m_ := Aside0.mk ((HS.out.call (by repeat (first | exact Below.refl _ _ | apply zq2 | apply zq3 | apply zq4 | apply zq5)) hb).add hCy (keeps_C _ _ _ _)); clear HS hb hR hCy hly; have HS := m_; clear m_) | (have _t := t1; go_at_call 13; refine (colophonref17_Same.calls 300 Ax cx sx Ay cy sx _ _ (HS.out.step (by repeat (first | exact Below.refl _ _ | apply zq2 | apply zq3 | apply zq4 | apply zq5))).now.2.2.1 HLX.out (HS.out.step (by repeat (first | exact Below.refl _ _ | apply zq2 | apply zq3 | apply zq4 | apply zq5))).now.1 HLY.out HSM.out).mono ?_; rintro e w' ⟨rfl, hd⟩; have hb := hd.below; clear hd; have m_ := Aside0.mk (HS.out.call (by repeat (first | exact Below.refl _ _ | apply zq2 | apply zq3 | apply zq4 | apply zq5)) hb); clear HS hb; have HS := m_; clear m_; clear t1 _t) | (have _t := t2; go_at_call 14; refine (charset_Check.calls 301 Ai ci q _ _ (HS.out.step (by repeat (first | exact Below.refl _ _ | apply zq2 | apply zq3 | apply zq4 | apply zq5))).now.2.2.2.1 HLI.out HCK.out).mono ?_; rintro e w' ⟨rfl, hb⟩; have m_ := Aside0.mk (HS.out.call (by repeat (first | exact Below.refl _ _ | apply zq2 | apply zq3 | apply zq4 | apply zq5)) hb); clear HS hb; have HS := m_; clear m_; clear t2 _t) | (go_at_call 15; refine (colophonref17_Check.calls 301 A c q _ _ (HS.out.step (by repeat (first | exact Below.refl _ _ | apply zq2 | apply zq3 | apply zq4 | apply zq5))).now.2.2.2.2.1 HQC.out HRC.out).mono ?_; rintro e w' ⟨rfl, hb⟩; have m_ := Aside0.mk (HS.out.call (by repeat (first | exact Below.refl _ _ | apply zq2 | apply zq3 | apply zq4 | apply zq5)) hb); clear HS hb; have HS := m_; clear m_) | (go_at_call 16; refine (Has_w Ai ci q x bh _ (HS.out.step (by repeat (first | exact Below.refl _ _ | apply zq2 | apply zq3 | apply zq4 | apply zq5))).now.2.2.2.1 HHQ.out).mono ?_; rintro e w' ⟨rfl, hb⟩; have m_ := Aside0.mk (HS.out.call (by repeat (first | exact Below.refl _ _ | apply zq2 | apply zq3 | apply zq4 | apply zq5)) hb); clear HS hb; have HS := m_; clear m_) | (go_at_call 17; refine (colophonref17_Has.calls 301 A c q x bh _ (HS.out.step (by repeat (first | exact Below.refl _ _ | apply zq2 | apply zq3 | apply zq4 | apply zq5))).now.2.2.2.2.1 HQC.out HRH.out).mono ?_; rintro e w' ⟨rfl, hd⟩; have hb := hd.below; clear hd; have m_ := Aside0.mk (HS.out.call (by repeat (first | exact Below.refl _ _ | apply zq2 | apply zq3 | apply zq4 | apply zq5)) hb); clear HS hb; have HS := m_; clear m_) | (have _t := t3; go_at_call 14; refine (charset_Check.calls 301 Ax cx sx _ _ (HS.out.step (by repeat (first | exact Below.refl _ _ | apply zq2 | apply zq3 | apply zq4 | apply zq5))).now.2.2.1 HLX.out HCX.out).mono ?_; rintro e w' ⟨rfl, hb⟩; have m_ := Aside0.mk (HS.out.call (by repeat (first | exact Below.refl _ _ | apply zq2 | apply zq3 | apply zq4 | apply zq5)) hb); clear HS hb; have HS := m_; clear m_; clear t3 _t) | (go_at_call 18; refine (colophonlaw17_spoil.calls 301 (fun _ => True) _ sx _ w1 _ (HS.out.step (by repeat (first | exact Below.refl _ _ | apply zq2 | apply zq3 | apply zq4 | apply zq5))).bel (HS.out.step (by repeat (first | exact Below.refl _ _ | apply zq2 | apply zq3 | apply zq4 | apply zq5))).now.2.1 HSP.out).mono ?_; rintro e w' ⟨rfl, hR, hb, _⟩; have m_ := Aside0.mk (Sta.call (HW1.out) (Below.refl _ _) hb); clear HS hR hb; have HS := m_; clear m_) | (have _t := t4; go_at_call 13; refine (colophonref17_Same.calls 301 Ai ci q A c q _ _ (HS.out.step (by repeat (first | exact Below.refl _ _ | apply zq2 | apply zq3 | apply zq4 | apply zq5))).now.1 HLI.out (HS.out.step (by repeat (first | exact Below.refl _ _ | apply zq2 | apply zq3 | apply zq4 | apply zq5))).now.2.1 HQC.out HSQ.out).mono ?_; rintro e w' ⟨rfl, hd⟩; have hb := hd.below; clear hd; have m_ := Aside0.mk (HS.out.call (by repeat (first | exact Below.refl _ _ | apply zq2 | apply zq3 | apply zq4 | apply zq5)) hb); clear HS hb; have HS := m_; clear m_; clear t4 _t) | (go_at_call 19; refine (works17_ok _).mono ?_; rintro e w' ⟨rfl, hb⟩; have m_ := Aside0.mk (HS.out.call (by repeat (first | exact Below.refl _ _ | apply zq2 | apply zq3 | apply zq4 | apply zq5)) hb); clear HS hb; have HS := m_; clear m_))
  go_ret
  exact ⟨rfl, HS.out.bel⟩
end Go.Proofs.Ytingbjdpjimikaa.B
