/-
  SetTwo, walked.
-/
import Derived.Test.YtingbjdpjimikaaZT163
set_option linter.unusedSimpArgs false
set_option linter.unusedVariables false
namespace Go.Proofs.Ytingbjdpjimikaa.B
open Go.RowKit Go.Proofs Go.Proofs.YtingbjdpjimikaaW.PrintWords Go.Proofs.YtingbjdpjimikaaW.PrintLast Go.Proofs.YtingbjdpjimikaaW.PrintMore Go.Proofs.Ytingbjdpjimikaa.FBase
set_option maxRecDepth 100000 in
set_option maxHeartbeats 4000000 in
theorem ROf_fine (A1 A2 : Option Addr) (c1 c2 : Nat) (l1 l2 : List Sp) (i0 i1 i2 i3 : Bool) (w : World) (hr1 : Kd.C k39 w A1 l1.length l1) (hr2 : Kd.C k39 w A2 l2.length l2) (hc1 : l1.length ≤ c1) (hc2 : l2.length ≤ c2) (hz1 : sCheck l1 = 0) (hz2 : sCheck l2 = 0) : Calls Try.prog 44 #[.slice A1 l1.length c1, .slice A2 l2.length c2, .agg #[.bool i0, .bool i1, .bool i2, .bool i3]] w fun e w' => ∃ v : Value, e = .returned (.tuple #[v, .int .i64 (sMade (tab i0 i1 i2 i3) l1 l2).2]) ∧ Kd.R k39 39 w' w.heap.size (fun _ => True) v (sMade (tab i0 i1 i2 i3) l1 l2).1 ∧ Below w.heap.size w w' := by
  have HS : Aside0 (Sta w (w.alloc (.cells #[.bool i0, .bool i1, .bool i2, .bool i3] 60 (0, 0))) (fun W => IsBlk W w.heap.size (.cells #[.bool i0, .bool i1, .bool i2, .bool i3] 60 (0, 0)) ∧ Kd.C k39 W A1 l1.length l1 ∧ Kd.C k39 W A2 l2.length l2)) := ⟨⟨below_alloc (Below.refl _ _) _, ⟨blk_new w _, Kd.C_below hr1 (below_alloc (Below.refl _ _) _), Kd.C_below hr2 (below_alloc (Below.refl _ _) _)⟩, keeps_and (keeps_blk _ _) (keeps_and (keeps_C _ _ _ _) (keeps_C _ _ _ _))⟩⟩
  have hk1 := fun W (hW : Kd.C k39 W A1 l1.length l1) => colophonref17_Check.calls (l1.length + 1) A1 c1 l1 _ W hW hc1 (rcheck_ff l1 (Nat.lt_succ_self _))
  have hk2 := fun W (hW : Kd.C k39 W A2 l2.length l2) => colophonref17_Check.calls (l2.length + 1) A2 c2 l2 _ W hW hc2 (rcheck_ff l2 (Nat.lt_succ_self _))
  rw [hz1] at hk1
  rw [hz2] at hk2
  have hl1 := ((sCheck_ok l1).1 hz1).1
  have hl2 := ((sCheck_ok l2).1 hz2).1
  have HK1 := Aside0.mk hk1
  have HK2 := Aside0.mk hk2
  have tk1 := True.intro
  have tk2 := True.intro
  clear hr1 hr2 hk1 hk2
  have hmay : ∀ x ∈ l1 ++ l2, may x := fun x hx => (List.mem_append.1 hx).elim (fun h => may_of hz1 h) (fun h => may_of hz2 h)
  obtain ⟨m, hm, hm2⟩ : ∃ m, (cutsOf (l1 ++ l2)).length = m + 1 ∧ m ≤ 1100 := by
    have h8 : (0 : Int) ∈ cutsOf (l1 ++ l2) := ((cutsOf_ok _ hmay).2 0).2 (.inl (.inl rfl))
    have h9 := List.length_pos_of_mem h8
    have h7 := cuts_len (l1 ++ l2)
    rw [List.length_append] at h7
    exact ⟨(cutsOf (l1 ++ l2)).length - 1, by omega, by omega⟩
  have hcf := cuts_f (l1 ++ l2) (k := 20000) (by rw [List.length_append]; omega) (by rw [List.length_append]; omega)
  have hfin : sMade (tab i0 i1 i2 i3) l1 l2 = (if 256 < (mkS (fun c => (tab i0 i1 i2 i3) (sHas l1 c) (sHas l2 c)) (cutsOf (l1 ++ l2)) []).length then ([], 5) else (mkS (fun c => (tab i0 i1 i2 i3) (sHas l1 c) (sHas l2 c)) (cutsOf (l1 ++ l2)) [], 0)) := by
    unfold sMade
    rw [if_neg (show ¬ sCheck l1 ≠ 0 from fun h => h hz1), if_neg (show ¬ sCheck l2 ≠ 0 from fun h => h hz2)]
  obtain ⟨f, hf⟩ : ∃ f : Int → Bool, (fun c => (tab i0 i1 i2 i3) (sHas l1 c) (sHas l2 c)) = f := ⟨_, rfl⟩
  have HFX := Aside0.mk (show ∀ x, f x = (tab i0 i1 i2 i3) (sHas l1 x) (sHas l2 x) from fun x => by rw [← hf])
  rw [hf] at hfin
  clear hf
  obtain ⟨ll, hll⟩ : ∃ ll, l1 ++ l2 = ll := ⟨_, rfl⟩
  obtain ⟨cu, hcu⟩ : ∃ cu, cutsOf (l1 ++ l2) = cu := ⟨_, rfl⟩
  rw [hcu] at hm hcf hfin
  have HFIN := Aside0.mk hfin
  clear hfin
  rw [hll] at hcf
  have HLM := Aside0.mk hm
  have HLL := Aside0.mk hll
  have HCUT := Aside0.mk hcf
  clear hm hll hcf hmay hz1 hz2 hcu
  go_enter Try.func44, Try.ntmps44
  go_wp2_with (first | (have _t := tk1; go_at_call 15; refine (HK1.out _ (HS.out.step (by repeat (first | exact Below.refl _ _ | apply zq2 | apply zq3 | apply zq4 | apply zq5))).now.2.1).mono ?_; rintro e w' ⟨rfl, hb⟩; have m_ := Aside0.mk (HS.out.call (by repeat (first | exact Below.refl _ _ | apply zq2 | apply zq3 | apply zq4 | apply zq5)) hb); clear HS hb; have HS := m_; clear m_; clear tk1 _t) | (have _t := tk2; go_at_call 15; refine (HK2.out _ (HS.out.step (by repeat (first | exact Below.refl _ _ | apply zq2 | apply zq3 | apply zq4 | apply zq5))).now.2.2).mono ?_; rintro e w2 ⟨rfl, hb⟩; have m_ := Aside0.mk (HS.out.call (by repeat (first | exact Below.refl _ _ | apply zq2 | apply zq3 | apply zq4 | apply zq5)) hb); clear HS hb; have HS := m_; clear m_; clear tk2 _t) | ((with_reducible refine gate_builtin (b := .append) (xs := #[.tmp 24, .tmp 25]) rfl ?_); at_builtin; go_loud (refine Kd.R_append_rows k39 (w0 := w2) w2.heap.size rfl (.tmp 24) (.tmp 25) 22 39 (.agg #[(.int .i64 0), (.int .i64 0)]) 16 rfl Try.underlying22 info39 rfl (by decide) (by omega) _ ([] : List Sp) l1 A1 l1.length c1 (fun _ => True) (fun _ => False) rfl rfl ?aO ?aR (fun _ _ h => h) (fun _ h => h.elim) ?aF ?aB ?aS ?aL ?_; (case aR => exact Kd.C_below HS.out.now.2.1 (below_alloc (Below.refl _ _) _)); (case aB => exact below_alloc (Below.refl _ _) _); (case aF => exact (fun _ _ => trivial)); (case aO => exact lit_none _ _ (Nat.le_refl _)); (case aS => exact (below_alloc (Below.refl _ _) _).size); (case aL => first | omega | (simp; omega)); intro v3 w3 ho hb hg hat; rw [List.nil_append] at ho; obtain ⟨A5, c5, e5⟩ := Kd.R_slice ho; subst e5; have HO := Aside0.mk ho; have HB2 := Aside0.mk hb; clear ho hb hg hat)) | ((with_reducible refine gate_builtin (b := .append) (xs := #[.tmp 26, .tmp 27]) rfl ?_); at_builtin; go_loud (refine Kd.R_append_rows k39 (w0 := w2) w2.heap.size rfl (.tmp 26) (.tmp 27) 22 39 (.agg #[(.int .i64 0), (.int .i64 0)]) 16 rfl Try.underlying22 info39 rfl (by decide) (by omega) (.slice A5 l1.length c5) l1 l2 A2 l2.length c2 (fun _ => True) (fun _ => False) rfl rfl ?aO ?aR (fun _ _ h => h) (fun _ h => h.elim) ?aF ?aB ?aS ?aL ?_; (case aR => exact Kd.C_below HS.out.now.2.2 HB2.out); (case aB => exact HB2.out); (case aF => exact (fun _ _ => trivial)); (case aO => exact HO.out); (case aS => exact (HB2.out).size); (case aL => first | omega | (simp; omega)); intro v3 w3 ho hb hg hat; rw [HLL.out] at ho; obtain ⟨A6, c6, e6⟩ := Kd.R_slice ho; subst e6; have HL6 := Aside0.mk (Kd.R_reads' ho).2; have m_ := Aside0.mk (HS.out.step hb); clear HS HO HB2 ho hb hg hat; have HS := m_; clear m_)) | (go_at_call 38; refine (colophonref17_Cuts.calls 20000 A6 c6 ll _ _ HL6.out.2 HL6.out.1 HCUT.out).mono ?_; rintro e w4 ⟨v, rfl, hR, hb⟩; obtain ⟨A7, c7, e7⟩ := Kd.R_slice hR; subst e7; rw [HLM.out] at hR ⊢; have HCR := Aside0.mk hR; have m_ := Aside0.mk (HS.out.call (by repeat (first | exact Below.refl _ _ | apply zq2 | apply zq3 | apply zq4 | apply zq5)) hb); clear HS hb; have HS := m_; clear m_; clear hR))
  obtain ⟨g, c9, e3, _, hgl, _⟩ := Kd.R_form HCR.out (by have := HLM.out; omega)
  rw [HLM.out] at e3
  cases e3
  go_loopw [10, 12] (fun s10 s12 W => ∃ (k : Nat) (B2 : Option Addr) (d2 : Nat) (out : List Sp), s12 = .int .i64 k ∧ s10 = .slice B2 out.length d2 ∧ k ≤ m ∧ Aside0 (out.length ≤ k) ∧ Aside0 (mkS f (cu.drop k) out = mkS f cu []) ∧ Aside0 (Kd.R k39 39 W w4.heap.size (fun _ => True) (.slice B2 out.length d2) out) ∧ Aside0 (Below w4.heap.size w4 W)) (fun _ s12 _ => m - (intOf s12).toNat)
  case atStart => exact ⟨0, none, 0, [], rfl, rfl, Nat.zero_le _, ⟨Nat.le_refl _⟩, ⟨rfl⟩, ⟨Kd.R_nil _ _ _ _ _⟩, ⟨Below.refl _ _⟩⟩
  case round =>
    obtain ⟨k, B2, d2, out, rfl, rfl, hk, HOL, HMK, HO, HB2⟩ := hrel
    by_cases h1 : k < m
    · have g2 : decide (k < m) = true := decide_eq_true h1
      have hcr := Kd.R_below HCR.out HB2.out
      have x0 := (cell_own hcr k (by omega)).1
      have x1 := (cell_own hcr (k + 1) (by omega)).1
      have hlm := HLM.out
      have hk0 : k < cu.length := by omega
      have hk1 : k + 1 < cu.length := by omega
      have e0 : rd cu (k : Int) = cu[k] := rdI hk0
      have e1 : rd cu ((k + 1 : Nat) : Int) = cu[k + 1] := rdI hk1
      rw [e0] at x0
      rw [e1] at x1
      obtain ⟨a, ha⟩ : ∃ a, cu[k] = a := ⟨_, rfl⟩
      obtain ⟨a2, ha2⟩ : ∃ a, cu[k + 1] = a := ⟨_, rfl⟩
      have hmk := HMK.out
      rw [List.drop_eq_getElem_cons hk0, List.drop_eq_getElem_cons hk1, show mkS f (cu[k] :: cu[k + 1] :: cu.drop (k + 1 + 1)) out = mkS f (cu[k + 1] :: cu.drop (k + 1 + 1)) (if f cu[k] then sAdd out cu[k] cu[k + 1] else out) from rfl, ← List.drop_eq_getElem_cons hk1] at hmk
      have z0 := (cell_own HCR.out k (by omega)).1
      have z1 := (cell_own HCR.out (k + 1) (by omega)).1
      rw [e0] at z0
      rw [e1] at z1
      rw [ha] at x0 hmk z0
      rw [ha2] at x1 hmk z1
      have HX := Aside0.mk (And.intro z0 z1)
      clear HMK z0 z1
      clear e0 e1 hlm hcr ha ha2 hk0 hk1
      have hbx := HS.out.now.1.below HB2.out
      have b0 := hbx.cell 0
      have b1_ := hbx.cell 1
      have b2_ := hbx.cell 2
      have b3 := hbx.cell 3
      simp at b0 b1_ b2_ b3
      have hh1 := fun W (hW : Below w4.heap.size w4 W) => colophonref17_Has.calls 300 A1 c1 l1 a _ W (Kd.C_below HS.out.now.2.1 hW) hc1 (has_f l1 a (by omega) (by omega))
      have hh2 := fun W (hW : Below w4.heap.size w4 W) => colophonref17_Has.calls 300 A2 c2 l2 a _ W (Kd.C_below HS.out.now.2.2 hW) hc2 (has_f l2 a (by omega) (by omega))
      obtain ⟨y1, hy1⟩ : ∃ b, sHas l1 a = b := ⟨_, rfl⟩
      obtain ⟨y2, hy2⟩ : ∃ b, sHas l2 a = b := ⟨_, rfl⟩
      rw [hy1] at hh1
      rw [hy2] at hh2
      have HH1 := Aside0.mk hh1
      have HH2 := Aside0.mk hh2
      have tj1 := True.intro
      have tj2 := True.intro
      clear hh1 hh2 hbx
      have hw : wrap64 ((k : Int) + 1) = (k : Int) + 1 := by unfold wrap64; omega
      cases y1 <;> cases y2
      · have hbv : f a = i0 := by rw [HFX.out, hy1, hy2]; rfl
        rw [hbv] at hmk
        clear hy1 hy2 hbv
        cases i0
        · rw [if_neg (by simp)] at hmk
          have HMK := Aside0.mk hmk
          clear hmk
          go_wp2_with (first | (have _t := tj1; go_at_call 17; refine (HH1.out _ (by repeat (first | exact HB2.out | exact Below.refl _ _ | apply below_alloc | apply pw_below_drewN | apply below_drew1))).mono ?_; rintro e w' ⟨rfl, hd⟩; have hb := hd.below; clear hd; have x9 := cell_below x0 hb; clear x0; have x0 := x9; clear x9; have x9 := cell_below x1 hb; clear x1; have x1 := x9; clear x9; have x9 := cell_below b0 hb; clear b0; have b0 := x9; clear x9; have x9 := cell_below b1_ hb; clear b1_; have b1_ := x9; clear x9; have x9 := cell_below b2_ hb; clear b2_; have b2_ := x9; clear x9; have x9 := cell_below b3 hb; clear b3; have b3 := x9; clear x9; have m_ := Aside0.mk (below_step (by repeat (first | exact HB2.out | exact Below.refl _ _ | apply below_alloc | apply pw_below_drewN | apply below_drew1)) hb); have n_ := Aside0.mk (Kd.R_below (by (with_reducible repeat (first | apply Kd.R_alloc | apply Kd.R_drewN | apply Kd.R_drew)); exact HO.out) hb); clear HB2 HO hb; have HB2 := m_; have HO := n_; clear m_ n_ tj1 _t) | (have _t := tj2; go_at_call 17; refine (HH2.out _ (by repeat (first | exact HB2.out | exact Below.refl _ _ | apply below_alloc | apply pw_below_drewN | apply below_drew1))).mono ?_; rintro e w' ⟨rfl, hd⟩; have hb := hd.below; clear hd; have x9 := cell_below x0 hb; clear x0; have x0 := x9; clear x9; have x9 := cell_below x1 hb; clear x1; have x1 := x9; clear x9; have x9 := cell_below b0 hb; clear b0; have b0 := x9; clear x9; have x9 := cell_below b1_ hb; clear b1_; have b1_ := x9; clear x9; have x9 := cell_below b2_ hb; clear b2_; have b2_ := x9; clear x9; have x9 := cell_below b3 hb; clear b3; have b3 := x9; clear x9; have m_ := Aside0.mk (below_step (by repeat (first | exact HB2.out | exact Below.refl _ _ | apply below_alloc | apply pw_below_drewN | apply below_drew1)) hb); have n_ := Aside0.mk (Kd.R_below (by (with_reducible repeat (first | apply Kd.R_alloc | apply Kd.R_drewN | apply Kd.R_drew)); exact HO.out) hb); clear HB2 HO hb; have HB2 := m_; have HO := n_; clear m_ n_ tj2 _t))
          go_roundw
          case measure => (first | rw [hw] | skip); show m - ((k : Int) + 1).toNat < m - (k : Int).toNat; omega
          case rel => exact ⟨k + 1, B2, d2, out, by (first | rw [hw] | skip); rfl, rfl, by omega, ⟨by have := HOL.out; omega⟩, HMK, ⟨(by (with_reducible repeat (first | apply Kd.R_alloc | apply Kd.R_drewN | apply Kd.R_drew)); exact HO.out)⟩, ⟨(by repeat (first | exact HB2.out | exact Below.refl _ _ | apply below_alloc | apply pw_below_drewN | apply below_drew1))⟩⟩
        · rw [if_pos rfl] at hmk
          have HMK := Aside0.mk hmk
          have HPUT := Aside0.mk (add_eq out a a2 (by have := HOL.out; omega))
          clear hmk
          go_wp2_with (first | (have _t := tj1; go_at_call 17; refine (HH1.out _ (by repeat (first | exact HB2.out | exact Below.refl _ _ | apply below_alloc | apply pw_below_drewN | apply below_drew1))).mono ?_; rintro e w' ⟨rfl, hd⟩; have hb := hd.below; clear hd; have x9 := cell_below x0 hb; clear x0; have x0 := x9; clear x9; have x9 := cell_below x1 hb; clear x1; have x1 := x9; clear x9; have x9 := cell_below b0 hb; clear b0; have b0 := x9; clear x9; have x9 := cell_below b1_ hb; clear b1_; have b1_ := x9; clear x9; have x9 := cell_below b2_ hb; clear b2_; have b2_ := x9; clear x9; have x9 := cell_below b3 hb; clear b3; have b3 := x9; clear x9; have m_ := Aside0.mk (below_step (by repeat (first | exact HB2.out | exact Below.refl _ _ | apply below_alloc | apply pw_below_drewN | apply below_drew1)) hb); have n_ := Aside0.mk (Kd.R_below (by (with_reducible repeat (first | apply Kd.R_alloc | apply Kd.R_drewN | apply Kd.R_drew)); exact HO.out) hb); clear HB2 HO hb; have HB2 := m_; have HO := n_; clear m_ n_ tj1 _t) | (have _t := tj2; go_at_call 17; refine (HH2.out _ (by repeat (first | exact HB2.out | exact Below.refl _ _ | apply below_alloc | apply pw_below_drewN | apply below_drew1))).mono ?_; rintro e w' ⟨rfl, hd⟩; have hb := hd.below; clear hd; have x9 := cell_below x0 hb; clear x0; have x0 := x9; clear x9; have x9 := cell_below x1 hb; clear x1; have x1 := x9; clear x9; have x9 := cell_below b0 hb; clear b0; have b0 := x9; clear x9; have x9 := cell_below b1_ hb; clear b1_; have b1_ := x9; clear x9; have x9 := cell_below b2_ hb; clear b2_; have b2_ := x9; clear x9; have x9 := cell_below b3 hb; clear b3; have b3 := x9; clear x9; have m_ := Aside0.mk (below_step (by repeat (first | exact HB2.out | exact Below.refl _ _ | apply below_alloc | apply pw_below_drewN | apply below_drew1)) hb); have n_ := Aside0.mk (Kd.R_below (by (with_reducible repeat (first | apply Kd.R_alloc | apply Kd.R_drewN | apply Kd.R_drew)); exact HO.out) hb); clear HB2 HO hb; have HB2 := m_; have HO := n_; clear m_ n_ tj2 _t))
          clear b0 b1_ b2_ b3
          clear hw
          have p0 : (0 : Int) ≤ (k : Int) := by omega
          have p1 : (k : Int) < (m : Int) + 1 := by omega
          have p2 : (0 : Int) ≤ (k : Int) + 1 := by omega
          have p3 : (k : Int) + 1 < (m : Int) + 1 := by omega
          have hw := IntWalk.i64_in ((k : Int) + 1) (by omega)
          go_region_held3 (fun wx => wx.cell? ⟨g, k, none⟩ = some (.int .i64 a) ∧ wx.cell? ⟨g, k + 1, none⟩ = some (.int .i64 a2)) (go_keep) (first | (go_at_call 39; refine (colophonref17_Add.calls (fun _ => True) _ out _ _ _ w4 _ (by repeat (first | exact HB2.out | exact Below.refl _ _ | apply below_alloc | apply pw_below_drewN | apply below_drew1)) (by (with_reducible repeat (first | apply Kd.R_alloc | apply Kd.R_drewN | apply Kd.R_drew)); exact HO.out) HPUT.out).mono ?_; rintro e w5 ⟨v5, rfl, hR5, hb5, _⟩; have n0_ := Aside0.mk hb5; have n1_ := Aside0.mk (Kd.R_mono hR5 (fun _ _ => trivial)); have x9 : w5.cell? ⟨g, k, none⟩ = some (.int .i64 a) := cell_below HX.out.1 hb5; have x8 : w5.cell? ⟨g, k + 1, none⟩ = some (.int .i64 a2) := cell_below HX.out.2 hb5; clear hR5 hb5))
          go_wp2
          go_roundw
          case measure => (first | rw [hw] | skip); show m - ((k : Int) + 1).toNat < m - (k : Int).toNat; omega
          case rel =>
            obtain ⟨A8, c8, e8⟩ := Kd.R_slice n1_.out
            subst e8
            exact ⟨k + 1, A8, c8, _, by (first | rw [hw] | skip); rfl, rfl, by omega, ⟨by have := sAdd_len out a a2; have := HOL.out; omega⟩, HMK, n1_, n0_⟩
      · have hbv : f a = i2 := by rw [HFX.out, hy1, hy2]; rfl
        rw [hbv] at hmk
        clear hy1 hy2 hbv
        cases i2
        · rw [if_neg (by simp)] at hmk
          have HMK := Aside0.mk hmk
          clear hmk
          go_wp2_with (first | (have _t := tj1; go_at_call 17; refine (HH1.out _ (by repeat (first | exact HB2.out | exact Below.refl _ _ | apply below_alloc | apply pw_below_drewN | apply below_drew1))).mono ?_; rintro e w' ⟨rfl, hd⟩; have hb := hd.below; clear hd; have x9 := cell_below x0 hb; clear x0; have x0 := x9; clear x9; have x9 := cell_below x1 hb; clear x1; have x1 := x9; clear x9; have x9 := cell_below b0 hb; clear b0; have b0 := x9; clear x9; have x9 := cell_below b1_ hb; clear b1_; have b1_ := x9; clear x9; have x9 := cell_below b2_ hb; clear b2_; have b2_ := x9; clear x9; have x9 := cell_below b3 hb; clear b3; have b3 := x9; clear x9; have m_ := Aside0.mk (below_step (by repeat (first | exact HB2.out | exact Below.refl _ _ | apply below_alloc | apply pw_below_drewN | apply below_drew1)) hb); have n_ := Aside0.mk (Kd.R_below (by (with_reducible repeat (first | apply Kd.R_alloc | apply Kd.R_drewN | apply Kd.R_drew)); exact HO.out) hb); clear HB2 HO hb; have HB2 := m_; have HO := n_; clear m_ n_ tj1 _t) | (have _t := tj2; go_at_call 17; refine (HH2.out _ (by repeat (first | exact HB2.out | exact Below.refl _ _ | apply below_alloc | apply pw_below_drewN | apply below_drew1))).mono ?_; rintro e w' ⟨rfl, hd⟩; have hb := hd.below; clear hd; have x9 := cell_below x0 hb; clear x0; have x0 := x9; clear x9; have x9 := cell_below x1 hb; clear x1; have x1 := x9; clear x9; have x9 := cell_below b0 hb; clear b0; have b0 := x9; clear x9; have x9 := cell_below b1_ hb; clear b1_; have b1_ := x9; clear x9; have x9 := cell_below b2_ hb; clear b2_; have b2_ := x9; clear x9; have x9 := cell_below b3 hb; clear b3; have b3 := x9; clear x9; have m_ := Aside0.mk (below_step (by repeat (first | exact HB2.out | exact Below.refl _ _ | apply below_alloc | apply pw_below_drewN | apply below_drew1)) hb); have n_ := Aside0.mk (Kd.R_below (by (with_reducible repeat (first | apply Kd.R_alloc | apply Kd.R_drewN | apply Kd.R_drew)); exact HO.out) hb); clear HB2 HO hb; have HB2 := m_; have HO := n_; clear m_ n_ tj2 _t))
          go_roundw
          case measure => (first | rw [hw] | skip); show m - ((k : Int) + 1).toNat < m - (k : Int).toNat; omega
          case rel => exact ⟨k + 1, B2, d2, out, by (first | rw [hw] | skip); rfl, rfl, by omega, ⟨by have := HOL.out; omega⟩, HMK, ⟨(by (with_reducible repeat (first | apply Kd.R_alloc | apply Kd.R_drewN | apply Kd.R_drew)); exact HO.out)⟩, ⟨(by repeat (first | exact HB2.out | exact Below.refl _ _ | apply below_alloc | apply pw_below_drewN | apply below_drew1))⟩⟩
        · rw [if_pos rfl] at hmk
          have HMK := Aside0.mk hmk
          have HPUT := Aside0.mk (add_eq out a a2 (by have := HOL.out; omega))
          clear hmk
          go_wp2_with (first | (have _t := tj1; go_at_call 17; refine (HH1.out _ (by repeat (first | exact HB2.out | exact Below.refl _ _ | apply below_alloc | apply pw_below_drewN | apply below_drew1))).mono ?_; rintro e w' ⟨rfl, hd⟩; have hb := hd.below; clear hd; have x9 := cell_below x0 hb; clear x0; have x0 := x9; clear x9; have x9 := cell_below x1 hb; clear x1; have x1 := x9; clear x9; have x9 := cell_below b0 hb; clear b0; have b0 := x9; clear x9; have x9 := cell_below b1_ hb; clear b1_; have b1_ := x9; clear x9; have x9 := cell_below b2_ hb; clear b2_; have b2_ := x9; clear x9; have x9 := cell_below b3 hb; clear b3; have b3 := x9; clear x9; have m_ := Aside0.mk (below_step (by repeat (first | exact HB2.out | exact Below.refl _ _ | apply below_alloc | apply pw_below_drewN | apply below_drew1)) hb); have n_ := Aside0.mk (Kd.R_below (by (with_reducible repeat (first | apply Kd.R_alloc | apply Kd.R_drewN | apply Kd.R_drew)); exact HO.out) hb); clear HB2 HO hb; have HB2 := m_; have HO := n_; clear m_ n_ tj1 _t) | (have _t := tj2; go_at_call 17; refine (HH2.out _ (by repeat (first | exact HB2.out | exact Below.refl _ _ | apply below_alloc | apply pw_below_drewN | apply below_drew1))).mono ?_; rintro e w' ⟨rfl, hd⟩; have hb := hd.below; clear hd; have x9 := cell_below x0 hb; clear x0; have x0 := x9; clear x9; have x9 := cell_below x1 hb; clear x1; have x1 := x9; clear x9; have x9 := cell_below b0 hb; clear b0; have b0 := x9; clear x9; have x9 := cell_below b1_ hb; clear b1_; have b1_ := x9; clear x9; have x9 := cell_below b2_ hb; clear b2_; have b2_ := x9; clear x9; have x9 := cell_below b3 hb; clear b3; have b3 := x9; clear x9; have m_ := Aside0.mk (below_step (by repeat (first | exact HB2.out | exact Below.refl _ _ | apply below_alloc | apply pw_below_drewN | apply below_drew1)) hb); have n_ := Aside0.mk (Kd.R_below (by (with_reducible repeat (first | apply Kd.R_alloc | apply Kd.R_drewN | apply Kd.R_drew)); exact HO.out) hb); clear HB2 HO hb; have HB2 := m_; have HO := n_; clear m_ n_ tj2 _t))
          clear b0 b1_ b2_ b3
          clear hw
          have p0 : (0 : Int) ≤ (k : Int) := by omega
          have p1 : (k : Int) < (m : Int) + 1 := by omega
          have p2 : (0 : Int) ≤ (k : Int) + 1 := by omega
          have p3 : (k : Int) + 1 < (m : Int) + 1 := by omega
          have hw := IntWalk.i64_in ((k : Int) + 1) (by omega)
          go_region_held3 (fun wx => wx.cell? ⟨g, k, none⟩ = some (.int .i64 a) ∧ wx.cell? ⟨g, k + 1, none⟩ = some (.int .i64 a2)) (go_keep) (first | (go_at_call 39; refine (colophonref17_Add.calls (fun _ => True) _ out _ _ _ w4 _ (by repeat (first | exact HB2.out | exact Below.refl _ _ | apply below_alloc | apply pw_below_drewN | apply below_drew1)) (by (with_reducible repeat (first | apply Kd.R_alloc | apply Kd.R_drewN | apply Kd.R_drew)); exact HO.out) HPUT.out).mono ?_; rintro e w5 ⟨v5, rfl, hR5, hb5, _⟩; have n0_ := Aside0.mk hb5; have n1_ := Aside0.mk (Kd.R_mono hR5 (fun _ _ => trivial)); have x9 : w5.cell? ⟨g, k, none⟩ = some (.int .i64 a) := cell_below HX.out.1 hb5; have x8 : w5.cell? ⟨g, k + 1, none⟩ = some (.int .i64 a2) := cell_below HX.out.2 hb5; clear hR5 hb5))
          go_wp2
          go_roundw
          case measure => (first | rw [hw] | skip); show m - ((k : Int) + 1).toNat < m - (k : Int).toNat; omega
          case rel =>
            obtain ⟨A8, c8, e8⟩ := Kd.R_slice n1_.out
            subst e8
            exact ⟨k + 1, A8, c8, _, by (first | rw [hw] | skip); rfl, rfl, by omega, ⟨by have := sAdd_len out a a2; have := HOL.out; omega⟩, HMK, n1_, n0_⟩
      · have hbv : f a = i1 := by rw [HFX.out, hy1, hy2]; rfl
        rw [hbv] at hmk
        clear hy1 hy2 hbv
        cases i1
        · rw [if_neg (by simp)] at hmk
          have HMK := Aside0.mk hmk
          clear hmk
          go_wp2_with (first | (have _t := tj1; go_at_call 17; refine (HH1.out _ (by repeat (first | exact HB2.out | exact Below.refl _ _ | apply below_alloc | apply pw_below_drewN | apply below_drew1))).mono ?_; rintro e w' ⟨rfl, hd⟩; have hb := hd.below; clear hd; have x9 := cell_below x0 hb; clear x0; have x0 := x9; clear x9; have x9 := cell_below x1 hb; clear x1; have x1 := x9; clear x9; have x9 := cell_below b0 hb; clear b0; have b0 := x9; clear x9; have x9 := cell_below b1_ hb; clear b1_; have b1_ := x9; clear x9; have x9 := cell_below b2_ hb; clear b2_; have b2_ := x9; clear x9; have x9 := cell_below b3 hb; clear b3; have b3 := x9; clear x9; have m_ := Aside0.mk (below_step (by repeat (first | exact HB2.out | exact Below.refl _ _ | apply below_alloc | apply pw_below_drewN | apply below_drew1)) hb); have n_ := Aside0.mk (Kd.R_below (by (with_reducible repeat (first | apply Kd.R_alloc | apply Kd.R_drewN | apply Kd.R_drew)); exact HO.out) hb); clear HB2 HO hb; have HB2 := m_; have HO := n_; clear m_ n_ tj1 _t) | (have _t := tj2; go_at_call 17; refine (HH2.out _ (by repeat (first | exact HB2.out | exact Below.refl _ _ | apply below_alloc | apply pw_below_drewN | apply below_drew1))).mono ?_; rintro e w' ⟨rfl, hd⟩; have hb := hd.below; clear hd; have x9 := cell_below x0 hb; clear x0; have x0 := x9; clear x9; have x9 := cell_below x1 hb; clear x1; have x1 := x9; clear x9; have x9 := cell_below b0 hb; clear b0; have b0 := x9; clear x9; have x9 := cell_below b1_ hb; clear b1_; have b1_ := x9; clear x9; have x9 := cell_below b2_ hb; clear b2_; have b2_ := x9; clear x9; have x9 := cell_below b3 hb; clear b3; have b3 := x9; clear x9; have m_ := Aside0.mk (below_step (by repeat (first | exact HB2.out | exact Below.refl _ _ | apply below_alloc | apply pw_below_drewN | apply below_drew1)) hb); have n_ := Aside0.mk (Kd.R_below (by (with_reducible repeat (first | apply Kd.R_alloc | apply Kd.R_drewN | apply Kd.R_drew)); exact HO.out) hb); clear HB2 HO hb; have HB2 := m_; have HO := n_; clear m_ n_ tj2 _t))
          go_roundw
          case measure => (first | rw [hw] | skip); show m - ((k : Int) + 1).toNat < m - (k : Int).toNat; omega
          case rel => exact ⟨k + 1, B2, d2, out, by (first | rw [hw] | skip); rfl, rfl, by omega, ⟨by have := HOL.out; omega⟩, HMK, ⟨(by (with_reducible repeat (first | apply Kd.R_alloc | apply Kd.R_drewN | apply Kd.R_drew)); exact HO.out)⟩, ⟨(by repeat (first | exact HB2.out | exact Below.refl _ _ | apply below_alloc | apply pw_below_drewN | apply below_drew1))⟩⟩
        · rw [if_pos rfl] at hmk
          have HMK := Aside0.mk hmk
          have HPUT := Aside0.mk (add_eq out a a2 (by have := HOL.out; omega))
          clear hmk
          go_wp2_with (first | (have _t := tj1; go_at_call 17; refine (HH1.out _ (by repeat (first | exact HB2.out | exact Below.refl _ _ | apply below_alloc | apply pw_below_drewN | apply below_drew1))).mono ?_; rintro e w' ⟨rfl, hd⟩; have hb := hd.below; clear hd; have x9 := cell_below x0 hb; clear x0; have x0 := x9; clear x9; have x9 := cell_below x1 hb; clear x1; have x1 := x9; clear x9; have x9 := cell_below b0 hb; clear b0; have b0 := x9; clear x9; have x9 := cell_below b1_ hb; clear b1_; have b1_ := x9; clear x9; have x9 := cell_below b2_ hb; clear b2_; have b2_ := x9; clear x9; have x9 := cell_below b3 hb; clear b3; have b3 := x9; clear x9; have m_ := Aside0.mk (below_step (by repeat (first | exact HB2.out | exact Below.refl _ _ | apply below_alloc | apply pw_below_drewN | apply below_drew1)) hb); have n_ := Aside0.mk (Kd.R_below (by (with_reducible repeat (first | apply Kd.R_alloc | apply Kd.R_drewN | apply Kd.R_drew)); exact HO.out) hb); clear HB2 HO hb; have HB2 := m_; have HO := n_; clear m_ n_ tj1 _t) | (have _t := tj2; go_at_call 17; refine (HH2.out _ (by repeat (first | exact HB2.out | exact Below.refl _ _ | apply below_alloc | apply pw_below_drewN | apply below_drew1))).mono ?_; rintro e w' ⟨rfl, hd⟩; have hb := hd.below; clear hd; have x9 := cell_below x0 hb; clear x0; have x0 := x9; clear x9; have x9 := cell_below x1 hb; clear x1; have x1 := x9; clear x9; have x9 := cell_below b0 hb; clear b0; have b0 := x9; clear x9; have x9 := cell_below b1_ hb; clear b1_; have b1_ := x9; clear x9; have x9 := cell_below b2_ hb; clear b2_; have b2_ := x9; clear x9; have x9 := cell_below b3 hb; clear b3; have b3 := x9; clear x9; have m_ := Aside0.mk (below_step (by repeat (first | exact HB2.out | exact Below.refl _ _ | apply below_alloc | apply pw_below_drewN | apply below_drew1)) hb); have n_ := Aside0.mk (Kd.R_below (by (with_reducible repeat (first | apply Kd.R_alloc | apply Kd.R_drewN | apply Kd.R_drew)); exact HO.out) hb); clear HB2 HO hb; have HB2 := m_; have HO := n_; clear m_ n_ tj2 _t))
          clear b0 b1_ b2_ b3
          clear hw
          have p0 : (0 : Int) ≤ (k : Int) := by omega
          have p1 : (k : Int) < (m : Int) + 1 := by omega
          have p2 : (0 : Int) ≤ (k : Int) + 1 := by omega
          have p3 : (k : Int) + 1 < (m : Int) + 1 := by omega
          have hw := IntWalk.i64_in ((k : Int) + 1) (by omega)
          go_region_held3 (fun wx => wx.cell? ⟨g, k, none⟩ = some (.int .i64 a) ∧ wx.cell? ⟨g, k + 1, none⟩ = some (.int .i64 a2)) (go_keep) (first | (go_at_call 39; refine (colophonref17_Add.calls (fun _ => True) _ out _ _ _ w4 _ (by repeat (first | exact HB2.out | exact Below.refl _ _ | apply below_alloc | apply pw_below_drewN | apply below_drew1)) (by (with_reducible repeat (first | apply Kd.R_alloc | apply Kd.R_drewN | apply Kd.R_drew)); exact HO.out) HPUT.out).mono ?_; rintro e w5 ⟨v5, rfl, hR5, hb5, _⟩; have n0_ := Aside0.mk hb5; have n1_ := Aside0.mk (Kd.R_mono hR5 (fun _ _ => trivial)); have x9 : w5.cell? ⟨g, k, none⟩ = some (.int .i64 a) := cell_below HX.out.1 hb5; have x8 : w5.cell? ⟨g, k + 1, none⟩ = some (.int .i64 a2) := cell_below HX.out.2 hb5; clear hR5 hb5))
          go_wp2
          go_roundw
          case measure => (first | rw [hw] | skip); show m - ((k : Int) + 1).toNat < m - (k : Int).toNat; omega
          case rel =>
            obtain ⟨A8, c8, e8⟩ := Kd.R_slice n1_.out
            subst e8
            exact ⟨k + 1, A8, c8, _, by (first | rw [hw] | skip); rfl, rfl, by omega, ⟨by have := sAdd_len out a a2; have := HOL.out; omega⟩, HMK, n1_, n0_⟩
      · have hbv : f a = i3 := by rw [HFX.out, hy1, hy2]; rfl
        rw [hbv] at hmk
        clear hy1 hy2 hbv
        cases i3
        · rw [if_neg (by simp)] at hmk
          have HMK := Aside0.mk hmk
          clear hmk
          go_wp2_with (first | (have _t := tj1; go_at_call 17; refine (HH1.out _ (by repeat (first | exact HB2.out | exact Below.refl _ _ | apply below_alloc | apply pw_below_drewN | apply below_drew1))).mono ?_; rintro e w' ⟨rfl, hd⟩; have hb := hd.below; clear hd; have x9 := cell_below x0 hb; clear x0; have x0 := x9; clear x9; have x9 := cell_below x1 hb; clear x1; have x1 := x9; clear x9; have x9 := cell_below b0 hb; clear b0; have b0 := x9; clear x9; have x9 := cell_below b1_ hb; clear b1_; have b1_ := x9; clear x9; have x9 := cell_below b2_ hb; clear b2_; have b2_ := x9; clear x9; have x9 := cell_below b3 hb; clear b3; have b3 := x9; clear x9; have m_ := Aside0.mk (below_step (by repeat (first | exact HB2.out | exact Below.refl _ _ | apply below_alloc | apply pw_below_drewN | apply below_drew1)) hb); have n_ := Aside0.mk (Kd.R_below (by (with_reducible repeat (first | apply Kd.R_alloc | apply Kd.R_drewN | apply Kd.R_drew)); exact HO.out) hb); clear HB2 HO hb; have HB2 := m_; have HO := n_; clear m_ n_ tj1 _t) | (have _t := tj2; go_at_call 17; refine (HH2.out _ (by repeat (first | exact HB2.out | exact Below.refl _ _ | apply below_alloc | apply pw_below_drewN | apply below_drew1))).mono ?_; rintro e w' ⟨rfl, hd⟩; have hb := hd.below; clear hd; have x9 := cell_below x0 hb; clear x0; have x0 := x9; clear x9; have x9 := cell_below x1 hb; clear x1; have x1 := x9; clear x9; have x9 := cell_below b0 hb; clear b0; have b0 := x9; clear x9; have x9 := cell_below b1_ hb; clear b1_; have b1_ := x9; clear x9; have x9 := cell_below b2_ hb; clear b2_; have b2_ := x9; clear x9; have x9 := cell_below b3 hb; clear b3; have b3 := x9; clear x9; have m_ := Aside0.mk (below_step (by repeat (first | exact HB2.out | exact Below.refl _ _ | apply below_alloc | apply pw_below_drewN | apply below_drew1)) hb); have n_ := Aside0.mk (Kd.R_below (by (with_reducible repeat (first | apply Kd.R_alloc | apply Kd.R_drewN | apply Kd.R_drew)); exact HO.out) hb); clear HB2 HO hb; have HB2 := m_; have HO := n_; clear m_ n_ tj2 _t))
          go_roundw
          case measure => (first | rw [hw] | skip); show m - ((k : Int) + 1).toNat < m - (k : Int).toNat; omega
          case rel => exact ⟨k + 1, B2, d2, out, by (first | rw [hw] | skip); rfl, rfl, by omega, ⟨by have := HOL.out; omega⟩, HMK, ⟨(by (with_reducible repeat (first | apply Kd.R_alloc | apply Kd.R_drewN | apply Kd.R_drew)); exact HO.out)⟩, ⟨(by repeat (first | exact HB2.out | exact Below.refl _ _ | apply below_alloc | apply pw_below_drewN | apply below_drew1))⟩⟩
        · rw [if_pos rfl] at hmk
          have HMK := Aside0.mk hmk
          have HPUT := Aside0.mk (add_eq out a a2 (by have := HOL.out; omega))
          clear hmk
          go_wp2_with (first | (have _t := tj1; go_at_call 17; refine (HH1.out _ (by repeat (first | exact HB2.out | exact Below.refl _ _ | apply below_alloc | apply pw_below_drewN | apply below_drew1))).mono ?_; rintro e w' ⟨rfl, hd⟩; have hb := hd.below; clear hd; have x9 := cell_below x0 hb; clear x0; have x0 := x9; clear x9; have x9 := cell_below x1 hb; clear x1; have x1 := x9; clear x9; have x9 := cell_below b0 hb; clear b0; have b0 := x9; clear x9; have x9 := cell_below b1_ hb; clear b1_; have b1_ := x9; clear x9; have x9 := cell_below b2_ hb; clear b2_; have b2_ := x9; clear x9; have x9 := cell_below b3 hb; clear b3; have b3 := x9; clear x9; have m_ := Aside0.mk (below_step (by repeat (first | exact HB2.out | exact Below.refl _ _ | apply below_alloc | apply pw_below_drewN | apply below_drew1)) hb); have n_ := Aside0.mk (Kd.R_below (by (with_reducible repeat (first | apply Kd.R_alloc | apply Kd.R_drewN | apply Kd.R_drew)); exact HO.out) hb); clear HB2 HO hb; have HB2 := m_; have HO := n_; clear m_ n_ tj1 _t) | (have _t := tj2; go_at_call 17; refine (HH2.out _ (by repeat (first | exact HB2.out | exact Below.refl _ _ | apply below_alloc | apply pw_below_drewN | apply below_drew1))).mono ?_; rintro e w' ⟨rfl, hd⟩; have hb := hd.below; clear hd; have x9 := cell_below x0 hb; clear x0; have x0 := x9; clear x9; have x9 := cell_below x1 hb; clear x1; have x1 := x9; clear x9; have x9 := cell_below b0 hb; clear b0; have b0 := x9; clear x9; have x9 := cell_below b1_ hb; clear b1_; have b1_ := x9; clear x9; have x9 := cell_below b2_ hb; clear b2_; have b2_ := x9; clear x9; have x9 := cell_below b3 hb; clear b3; have b3 := x9; clear x9; have m_ := Aside0.mk (below_step (by repeat (first | exact HB2.out | exact Below.refl _ _ | apply below_alloc | apply pw_below_drewN | apply below_drew1)) hb); have n_ := Aside0.mk (Kd.R_below (by (with_reducible repeat (first | apply Kd.R_alloc | apply Kd.R_drewN | apply Kd.R_drew)); exact HO.out) hb); clear HB2 HO hb; have HB2 := m_; have HO := n_; clear m_ n_ tj2 _t))
          clear b0 b1_ b2_ b3
          clear hw
          have p0 : (0 : Int) ≤ (k : Int) := by omega
          have p1 : (k : Int) < (m : Int) + 1 := by omega
          have p2 : (0 : Int) ≤ (k : Int) + 1 := by omega
          have p3 : (k : Int) + 1 < (m : Int) + 1 := by omega
          have hw := IntWalk.i64_in ((k : Int) + 1) (by omega)
          go_region_held3 (fun wx => wx.cell? ⟨g, k, none⟩ = some (.int .i64 a) ∧ wx.cell? ⟨g, k + 1, none⟩ = some (.int .i64 a2)) (go_keep) (first | (go_at_call 39; refine (colophonref17_Add.calls (fun _ => True) _ out _ _ _ w4 _ (by repeat (first | exact HB2.out | exact Below.refl _ _ | apply below_alloc | apply pw_below_drewN | apply below_drew1)) (by (with_reducible repeat (first | apply Kd.R_alloc | apply Kd.R_drewN | apply Kd.R_drew)); exact HO.out) HPUT.out).mono ?_; rintro e w5 ⟨v5, rfl, hR5, hb5, _⟩; have n0_ := Aside0.mk hb5; have n1_ := Aside0.mk (Kd.R_mono hR5 (fun _ _ => trivial)); have x9 : w5.cell? ⟨g, k, none⟩ = some (.int .i64 a) := cell_below HX.out.1 hb5; have x8 : w5.cell? ⟨g, k + 1, none⟩ = some (.int .i64 a2) := cell_below HX.out.2 hb5; clear hR5 hb5))
          go_wp2
          go_roundw
          case measure => (first | rw [hw] | skip); show m - ((k : Int) + 1).toNat < m - (k : Int).toNat; omega
          case rel =>
            obtain ⟨A8, c8, e8⟩ := Kd.R_slice n1_.out
            subst e8
            exact ⟨k + 1, A8, c8, _, by (first | rw [hw] | skip); rfl, rfl, by omega, ⟨by have := sAdd_len out a a2; have := HOL.out; omega⟩, HMK, n1_, n0_⟩
    · have g2 : decide (k < m) = false := decide_eq_false h1
      have hfin2 : mkS f cu [] = out := by
        have hlm := HLM.out
        rw [← HMK.out, List.drop_eq_getElem_cons (by omega), List.drop_eq_nil_of_le (by omega)]
        rfl
      have hfin := HFIN.out
      rw [hfin2] at hfin
      clear HFIN HMK hfin2
      by_cases h9 : 256 < out.length
      · rw [if_pos h9] at hfin
        have g3 : decide (256 < (out.length : Int)) = true := decide_eq_true (by omega)
        have HFIN := Aside0.mk hfin
        clear hfin
        go_wp2
        go_ret2
        rw [HFIN.out]
        exact ⟨_, rfl, Kd.R_nil _ _ _ _ _, below_step HS.out.bel HB2.out⟩
      · rw [if_neg h9] at hfin
        have g3 : decide (256 < (out.length : Int)) = false := decide_eq_false (by omega)
        have HFIN := Aside0.mk hfin
        clear hfin
        go_wp2
        go_ret2
        rw [HFIN.out]
        exact ⟨_, rfl, Kd.R_lower HO.out HS.out.bel.size, below_step HS.out.bel HB2.out⟩
theorem ROf_ok (A1 A2 : Option Addr) (c1 c2 : Nat) (l1 l2 : List Sp) (i0 i1 i2 i3 : Bool) (w : World) (hr1 : Kd.C k39 w A1 l1.length l1) (hr2 : Kd.C k39 w A2 l2.length l2) (hc1 : l1.length ≤ c1) (hc2 : l2.length ≤ c2) :
    Calls Try.prog 44 #[.slice A1 l1.length c1, .slice A2 l2.length c2, .agg #[.bool i0, .bool i1, .bool i2, .bool i3]] w fun e w' => ∃ v : Value, e = .returned (.tuple #[v, .int .i64 (sMade (tab i0 i1 i2 i3) l1 l2).2]) ∧ Kd.R k39 39 w' w.heap.size (fun _ => True) v (sMade (tab i0 i1 i2 i3) l1 l2).1 ∧ Below w.heap.size w w' := by
  by_cases h1 : sCheck l1 = 0
  · by_cases h2 : sCheck l2 = 0
    · exact ROf_fine A1 A2 c1 c2 l1 l2 i0 i1 i2 i3 w hr1 hr2 hc1 hc2 h1 h2
    · exact ROf_err A1 A2 c1 c2 l1 l2 i0 i1 i2 i3 w hr1 hr2 hc1 hc2 (.inr h2)
  · exact ROf_err A1 A2 c1 c2 l1 l2 i0 i1 i2 i3 w hr1 hr2 hc1 hc2 (.inl h1)
theorem sMade_not (l : List Sp) : sMade (tab true false false false) l [] = sMade pNot l [] := by
  unfold sMade
  have : (fun c => tab true false false false (sHas l c) (sHas [] c)) = (fun c => pNot (sHas l c) (sHas [] c)) := by
    funext c
    rw [tab_not, sHas_nil]
    simp
  rw [this]
set_option maxRecDepth 100000 in
set_option maxHeartbeats 4000000 in
theorem RUnion_ok (A1 A2 : Option Addr) (c1 c2 : Nat) (l1 l2 : List Sp) (w : World) (hr1 : Kd.C k39 w A1 l1.length l1) (hr2 : Kd.C k39 w A2 l2.length l2) (hc1 : l1.length ≤ c1) (hc2 : l2.length ≤ c2) :
    Calls Try.prog 21 #[.slice A1 l1.length c1, .slice A2 l2.length c2] w fun e w' => ∃ v : Value, e = .returned (.tuple #[v, .int .i64 (sMade or l1 l2).2]) ∧ Kd.R k39 39 w' w.heap.size (fun _ => True) v (sMade or l1 l2).1 ∧ Below w.heap.size w w' := by
  have hc := ROf_ok A1 A2 c1 c2 l1 l2 false true true true w hr1 hr2 hc1 hc2
  rw [tab_or] at hc
  have HC := Aside0.mk hc
  clear hr1 hr2 hc1 hc2 hc
  generalize sMade or l1 l2 = r at HC ⊢
  go_enter Try.func21, Try.ntmps21
  go_wp2_with (go_at_call 44; refine HC.out.mono ?_; rintro e w' ⟨v, rfl, hR, hb⟩; have HR := Aside0.mk hR; have HB := Aside0.mk hb; clear hR hb HC)
  go_ret2
  exact ⟨_, rfl, HR.out, HB.out⟩
set_option maxRecDepth 100000 in
set_option maxHeartbeats 4000000 in
theorem RBoth_ok (A1 A2 : Option Addr) (c1 c2 : Nat) (l1 l2 : List Sp) (w : World) (hr1 : Kd.C k39 w A1 l1.length l1) (hr2 : Kd.C k39 w A2 l2.length l2) (hc1 : l1.length ≤ c1) (hc2 : l2.length ≤ c2) :
    Calls Try.prog 23 #[.slice A1 l1.length c1, .slice A2 l2.length c2] w fun e w' => ∃ v : Value, e = .returned (.tuple #[v, .int .i64 (sMade and l1 l2).2]) ∧ Kd.R k39 39 w' w.heap.size (fun _ => True) v (sMade and l1 l2).1 ∧ Below w.heap.size w w' := by
  have hc := ROf_ok A1 A2 c1 c2 l1 l2 false false false true w hr1 hr2 hc1 hc2
  rw [tab_and] at hc
  have HC := Aside0.mk hc
  clear hr1 hr2 hc1 hc2 hc
  generalize sMade and l1 l2 = r at HC ⊢
  go_enter Try.func23, Try.ntmps23
  go_wp2_with (go_at_call 44; refine HC.out.mono ?_; rintro e w' ⟨v, rfl, hR, hb⟩; have HR := Aside0.mk hR; have HB := Aside0.mk hb; clear hR hb HC)
  go_ret2
  exact ⟨_, rfl, HR.out, HB.out⟩
set_option maxRecDepth 100000 in
set_option maxHeartbeats 4000000 in
theorem RNot_ok (A1 : Option Addr) (c1 : Nat) (l1 : List Sp) (w : World) (hr1 : Kd.C k39 w A1 l1.length l1) (hc1 : l1.length ≤ c1) :
    Calls Try.prog 25 #[.slice A1 l1.length c1] w fun e w' => ∃ v : Value, e = .returned (.tuple #[v, .int .i64 (sMade pNot l1 []).2]) ∧ Kd.R k39 39 w' w.heap.size (fun _ => True) v (sMade pNot l1 []).1 ∧ Below w.heap.size w w' := by
  have hc := ROf_ok A1 none c1 0 l1 [] true false false false w hr1 (Kd.C_nil _ _) hc1 (Nat.le_refl _)
  rw [sMade_not] at hc
  have HC := Aside0.mk hc
  clear hr1 hc1 hc
  generalize sMade pNot l1 [] = r at HC ⊢
  go_enter Try.func25, Try.ntmps25
  go_wp2_with (go_at_call 44; refine HC.out.mono ?_; rintro e w' ⟨v, rfl, hR, hb⟩; have HR := Aside0.mk hR; have HB := Aside0.mk hb; clear hR hb HC)
  go_ret2
  exact ⟨_, rfl, HR.out, HB.out⟩
theorem sMade_len (p : Bool → Bool → Bool) (l1 l2 : List Sp) : (sMade p l1 l2).1.length ≤ 256 := by
  unfold sMade
  split
  · simp
  · split
    · simp
    · split
      · simp
      · rename_i h
        simp only
        omega
def Own2 (lo hi : Nat) (A : Option Addr) (c : Nat) (u : List Sp) (W : World) : Prop :=
  Kd.C k39 W A u.length u ∧ Kd.R k39 39 W lo (fun k => lo ≤ k ∧ k < hi) (.slice A u.length c) u ∧ hi ≤ W.heap.size
theorem keeps_own2 (lo hi : Nat) (A : Option Addr) (c : Nat) (u : List Sp) : Keeps (Own2 lo hi A c u) := fun _ _ h hb => ⟨Kd.C_below h.1 hb, Kd.R_below h.2.1 hb, Nat.le_trans h.2.2 hb.size⟩
theorem own2_of {W w' : World} {v : Value} {u : List Sp} (h : Kd.R k39 39 w' W.heap.size (fun _ => True) v u) : ∃ A c lo hi, v = .slice A u.length c ∧ u.length ≤ c ∧ W.heap.size ≤ lo ∧ Own2 lo hi A c u w' := by
  obtain ⟨A, c, rfl, hl, hC⟩ := read_of h
  refine ⟨A, c, W.heap.size, w'.heap.size, rfl, hl, Nat.le_refl _, hC, Kd.R_mono (Kd.R_bound h) (fun k hk => ⟨hk.2.1, hk.2.2.1⟩), Nat.le_refl _⟩
section
variable {a b u : List Sp} {r : Int}
theorem Union_o (h : sMade or a b = (u, r)) (A1 : Option Addr) (c1 : Nat) (A2 : Option Addr) (c2 : Nat) (W : World) (h1 : Kd.C k39 W A1 a.length a) (h2 : Kd.C k39 W A2 b.length b) (hc1 : a.length ≤ c1) (hc2 : b.length ≤ c2) : Calls Try.prog 20 #[.slice A1 a.length c1, .slice A2 b.length c2] W fun e w' => ∃ A c lo hi, e = .returned (.tuple #[.slice A u.length c, .int .i64 r]) ∧ u.length ≤ c ∧ W.heap.size ≤ lo ∧ Own2 lo hi A c u w' ∧ Below W.heap.size W w' := by
  refine (Union_ok A1 A2 c1 c2 a b W h1 h2 hc1 hc2).mono ?_
  rintro e w' ⟨v, rfl, hR, hb⟩
  rw [h] at hR ⊢
  obtain ⟨A, c, lo, hi, rfl, hl, hlo, hO⟩ := own2_of hR
  exact ⟨A, c, lo, hi, rfl, hl, hlo, hO, hb⟩
theorem Both_o (h : sMade and a b = (u, r)) (A1 : Option Addr) (c1 : Nat) (A2 : Option Addr) (c2 : Nat) (W : World) (h1 : Kd.C k39 W A1 a.length a) (h2 : Kd.C k39 W A2 b.length b) (hc1 : a.length ≤ c1) (hc2 : b.length ≤ c2) : Calls Try.prog 22 #[.slice A1 a.length c1, .slice A2 b.length c2] W fun e w' => ∃ A c lo hi, e = .returned (.tuple #[.slice A u.length c, .int .i64 r]) ∧ u.length ≤ c ∧ W.heap.size ≤ lo ∧ Own2 lo hi A c u w' ∧ Below W.heap.size W w' := by
  refine (Both_ok A1 A2 c1 c2 a b W h1 h2 hc1 hc2).mono ?_
  rintro e w' ⟨v, rfl, hR, hb⟩
  rw [h] at hR ⊢
  obtain ⟨A, c, lo, hi, rfl, hl, hlo, hO⟩ := own2_of hR
  exact ⟨A, c, lo, hi, rfl, hl, hlo, hO, hb⟩
theorem Not_o (h : sMade pNot a [] = (u, r)) (A1 : Option Addr) (c1 : Nat) (W : World) (h1 : Kd.C k39 W A1 a.length a) (hc1 : a.length ≤ c1) : Calls Try.prog 24 #[.slice A1 a.length c1] W fun e w' => ∃ A c lo hi, e = .returned (.tuple #[.slice A u.length c, .int .i64 r]) ∧ u.length ≤ c ∧ W.heap.size ≤ lo ∧ Own2 lo hi A c u w' ∧ Below W.heap.size W w' := by
  refine (Not_ok A1 c1 a W h1 hc1).mono ?_
  rintro e w' ⟨v, rfl, hR, hb⟩
  rw [h] at hR ⊢
  obtain ⟨A, c, lo, hi, rfl, hl, hlo, hO⟩ := own2_of hR
  exact ⟨A, c, lo, hi, rfl, hl, hlo, hO, hb⟩
theorem RUnion_o (h : sMade or a b = (u, r)) (A1 : Option Addr) (c1 : Nat) (A2 : Option Addr) (c2 : Nat) (W : World) (h1 : Kd.C k39 W A1 a.length a) (h2 : Kd.C k39 W A2 b.length b) (hc1 : a.length ≤ c1) (hc2 : b.length ≤ c2) : Calls Try.prog 21 #[.slice A1 a.length c1, .slice A2 b.length c2] W fun e w' => ∃ A c, e = .returned (.tuple #[.slice A u.length c, .int .i64 r]) ∧ u.length ≤ c ∧ Kd.C k39 w' A u.length u ∧ Below W.heap.size W w' := by
  refine (RUnion_ok A1 A2 c1 c2 a b W h1 h2 hc1 hc2).mono ?_
  rintro e w' ⟨v, rfl, hR, hb⟩
  rw [h] at hR ⊢
  obtain ⟨A, c, rfl, hl, hC⟩ := read_of hR
  exact ⟨A, c, rfl, hl, hC, hb⟩
theorem RBoth_o (h : sMade and a b = (u, r)) (A1 : Option Addr) (c1 : Nat) (A2 : Option Addr) (c2 : Nat) (W : World) (h1 : Kd.C k39 W A1 a.length a) (h2 : Kd.C k39 W A2 b.length b) (hc1 : a.length ≤ c1) (hc2 : b.length ≤ c2) : Calls Try.prog 23 #[.slice A1 a.length c1, .slice A2 b.length c2] W fun e w' => ∃ A c, e = .returned (.tuple #[.slice A u.length c, .int .i64 r]) ∧ u.length ≤ c ∧ Kd.C k39 w' A u.length u ∧ Below W.heap.size W w' := by
  refine (RBoth_ok A1 A2 c1 c2 a b W h1 h2 hc1 hc2).mono ?_
  rintro e w' ⟨v, rfl, hR, hb⟩
  rw [h] at hR ⊢
  obtain ⟨A, c, rfl, hl, hC⟩ := read_of hR
  exact ⟨A, c, rfl, hl, hC, hb⟩
theorem RNot_o (h : sMade pNot a [] = (u, r)) (A1 : Option Addr) (c1 : Nat) (W : World) (h1 : Kd.C k39 W A1 a.length a) (hc1 : a.length ≤ c1) : Calls Try.prog 25 #[.slice A1 a.length c1] W fun e w' => ∃ A c, e = .returned (.tuple #[.slice A u.length c, .int .i64 r]) ∧ u.length ≤ c ∧ Kd.C k39 w' A u.length u ∧ Below W.heap.size W w' := by
  refine (RNot_ok A1 c1 a W h1 hc1).mono ?_
  rintro e w' ⟨v, rfl, hR, hb⟩
  rw [h] at hR ⊢
  obtain ⟨A, c, rfl, hl, hC⟩ := read_of hR
  exact ⟨A, c, rfl, hl, hC, hb⟩
end
theorem min_cut (n m : Nat) (h : m = min 300 n) (hn : n ≤ 9223372036854775807) : min (n : Int) 300 = (m : Int) ∧ (if (300 : Int) < (n : Int) then (300 : Int) else (n : Int)) = (m : Int) ∧ (if (n : Int) < (300 : Int) then (n : Int) else (300 : Int)) = (m : Int) := by
  refine ⟨by omega, ?_, ?_⟩ <;> split <;> omega
set_option maxRecDepth 100000 in
set_option maxHeartbeats 4000000 in
theorem SetTwo_ok (A : Option Addr) (c : Nat) (l : List Sp) (B : Option Addr) (d : Nat) (m0 : List Sp) (w : World) (hr1 : Kd.C k39 w A l.length l) (hc1 : l.length ≤ c) (hr2 : Kd.C k39 w B m0.length m0) (hc2 : m0.length ≤ d) :
    Calls Try.prog 4 #[.slice A l.length c, .slice B m0.length d] w fun e w' => e = .returned (.bool true) ∧ Below w.heap.size w w' := by
  obtain ⟨a, ha⟩ : ∃ q, l.take 300 = q := ⟨_, rfl⟩
  obtain ⟨b, hb⟩ : ∃ q, m0.take 300 = q := ⟨_, rfl⟩
  have hal : a.length = min 300 l.length := by rw [← ha, List.length_take]
  have hac : Kd.C k39 w A a.length a := by
    rw [← ha]
    by_cases h3 : 300 ≤ l.length
    · exact Kd.C_take hr1 (m := 300) h3
    · rw [List.take_of_length_le (by omega)]; exact hr1
  have hlam : l.length ≤ 9223372036854775807 := hr1.2.1
  have hbl : b.length = min 300 m0.length := by rw [← hb, List.length_take]
  have hbc : Kd.C k39 w B b.length b := by
    rw [← hb]
    by_cases h3 : 300 ≤ m0.length
    · exact Kd.C_take hr2 (m := 300) h3
    · rw [List.take_of_length_le (by omega)]; exact hr2
  have hlbm : m0.length ≤ 9223372036854775807 := hr2.2.1
  obtain ⟨n1, hn1⟩ : ∃ n, l.length = n := ⟨_, rfl⟩
  obtain ⟨n2, hn2⟩ : ∃ n, m0.length = n := ⟨_, rfl⟩
  rw [hn1] at hc1 hlam hal ⊢
  rw [hn2] at hc2 hlbm hbl ⊢
  have hcuta := cutS_to A c n1 a.length (by omega) hc1
  have hcutb := cutS_to B d n2 b.length (by omega) hc2
  obtain ⟨ma1, ma2, ma3⟩ := min_cut n1 a.length hal hlam
  obtain ⟨mb1, mb2, mb3⟩ := min_cut n2 b.length hbl hlbm
  have la : a.length ≤ 300 := by omega
  have lb : b.length ≤ 300 := by omega
  have HQA := Aside0.mk (show a.length ≤ c by omega)
  have HQB := Aside0.mk (show b.length ≤ d by omega)
  have HCA := Aside0.mk (show colophonref17_Copy.f a = some a by unfold colophonref17_Copy.f; rw [if_pos (by simp; omega)]; rfl)
  have HCB := Aside0.mk (show colophonref17_Copy.f b = some b by unfold colophonref17_Copy.f; rw [if_pos (by simp; omega)]; rfl)
  have SA := Aside0.mk (show colophonref17_Same.f 301 a a = some true by rw [same_f a a (by omega) (by omega)]; simp)
  have SB := Aside0.mk (show colophonref17_Same.f 301 b b = some true by rw [same_f b b (by omega) (by omega)]; simp)
  have lx := sMade_len or a b
  have lu := sMade_len and a b
  have lm := sMade_len pNot a []
  obtain ⟨⟨x, ex⟩, hx⟩ : ∃ r, sMade or a b = r := ⟨_, rfl⟩
  obtain ⟨⟨u, eu⟩, hu⟩ : ∃ r, sMade and a b = r := ⟨_, rfl⟩
  obtain ⟨⟨m, em⟩, hm⟩ : ∃ r, sMade pNot a [] = r := ⟨_, rfl⟩
  rw [hx] at lx
  rw [hu] at lu
  rw [hm] at lm
  simp only at lx lu lm
  have SX := Aside0.mk (show colophonref17_Same.f 301 x x = some true by rw [same_f x x (by omega) (by omega)]; simp)
  have SU := Aside0.mk (show colophonref17_Same.f 301 u u = some true by rw [same_f u u (by omega) (by omega)]; simp)
  have SM := Aside0.mk (show colophonref17_Same.f 301 m m = some true by rw [same_f m m (by omega) (by omega)]; simp)
  obtain ⟨rx, hrx⟩ := spoil_f x (k := 301) (by omega) (by omega)
  obtain ⟨ru, hru⟩ := spoil_f u (k := 301) (by omega) (by omega)
  obtain ⟨rm, hrm⟩ := spoil_f m (k := 301) (by omega) (by omega)
  have Px := Aside0.mk hrx
  have Pu := Aside0.mk hru
  have Pm := Aside0.mk hrm
  have HU := Aside0.mk (fun A1 c1 A2 c2 W h1 h2 k1 k2 => Union_o hx A1 c1 A2 c2 W h1 h2 k1 k2)
  have HB := Aside0.mk (fun A1 c1 A2 c2 W h1 h2 k1 k2 => Both_o hu A1 c1 A2 c2 W h1 h2 k1 k2)
  have HN := Aside0.mk (fun A1 c1 W h1 k1 => Not_o hm A1 c1 W h1 k1)
  have HRU := Aside0.mk (fun A1 c1 A2 c2 W h1 h2 k1 k2 => RUnion_o hx A1 c1 A2 c2 W h1 h2 k1 k2)
  have HRB := Aside0.mk (fun A1 c1 A2 c2 W h1 h2 k1 k2 => RBoth_o hu A1 c1 A2 c2 W h1 h2 k1 k2)
  have HRN := Aside0.mk (fun A1 c1 W h1 k1 => RNot_o hm A1 c1 W h1 k1)
  have HS : Aside0 (Sta w w (fun W => Kd.C k39 W B b.length b ∧ Kd.C k39 W A a.length a ∧ True)) := ⟨⟨Below.refl _ _, ⟨hbc, hac, trivial⟩, keeps_and (keeps_C _ _ _ _) (keeps_and (keeps_C _ _ _ _) (fun _ _ h _ => h))⟩⟩
  have t1 := True.intro
  have t2 := True.intro
  have t3 := True.intro
  have t4 := True.intro
  have t5 := True.intro
  have t6 := True.intro
  have t7 := True.intro
  have t8 := True.intro
  have u1 := True.intro
  have u2 := True.intro
  have u3 := True.intro
  have v1 := True.intro
  have v2 := True.intro
  have v3 := True.intro
  have z1 := True.intro
  have z2 := True.intro
  clear hr1 hr2 hc1 hc2 hac hbc hal hbl hlam hlbm ha hb hn1 hn2 lx lu lm hx hu hm hrx hru hrm
  go_enter Try.func4, Try.ntmps4
  go_wp2
  go_quiet (fail)
  go_wp2_with (first | (have _t := t1; go_at_call 10; refine (colophonref17_Copy.calls A c a _ _ (HS.out.step (by repeat (first | exact Below.refl _ _ | apply zq2 | apply zq3 | apply zq4 | apply zq5))).now.2.1 HQA.out HCA.out).mono ?_; rintro e w1 ⟨v, rfl, hR, hb⟩; obtain ⟨Ap, cp, rfl, hp, hCi⟩ := read_of hR; have m_ := Aside0.mk ((HS.out.call (by repeat (first | exact Below.refl _ _ | apply zq2 | apply zq3 | apply zq4 | apply zq5)) hb).add hCi (keeps_C _ _ _ _)); clear HS hb hR hCi; have HS := m_; clear m_; clear t1 _t) | (have _t := t2; go_at_call 10; refine (colophonref17_Copy.calls B d b _ _ (HS.out.step (by repeat (first | exact Below.refl _ _ | apply zq2 | apply zq3 | apply zq4 | apply zq5))).now.2.1 HQB.out HCB.out).mono ?_; rintro e w1 ⟨v, rfl, hR, hb⟩; obtain ⟨Bq, dq, rfl, hq, hCi⟩ := read_of hR; have m_ := Aside0.mk ((HS.out.call (by repeat (first | exact Below.refl _ _ | apply zq2 | apply zq3 | apply zq4 | apply zq5)) hb).add hCi (keeps_C _ _ _ _)); clear HS hb hR hCi; have HW0 := m_; have HS := Aside0.mk (Sta.start w1 |>.only (F := fun _ => True) m_.out.now m_.out.keeps); have HW1 := HS; clear m_; clear t2 _t) | (have _t := t3; go_at_call 20; refine (HU.out Ap cp Bq dq _ (HS.out.step (by repeat (first | exact Below.refl _ _ | apply zq2 | apply zq3 | apply zq4 | apply zq5))).now.2.1 (HS.out.step (by repeat (first | exact Below.refl _ _ | apply zq2 | apply zq3 | apply zq4 | apply zq5))).now.1 hp hq).mono ?_; rintro e w' ⟨Ax, cx, lx, hx, rfl, kx, hlo, hO, hb⟩; have blx : w1.heap.size ≤ lx := Nat.le_trans (HS.out.step (by repeat (first | exact Below.refl _ _ | apply zq2 | apply zq3 | apply zq4 | apply zq5))).bel.size hlo; have m_ := Aside0.mk ((HS.out.call (by repeat (first | exact Below.refl _ _ | apply zq2 | apply zq3 | apply zq4 | apply zq5)) hb).add hO (keeps_own2 _ _ _ _ _)); clear HS hb hO hlo; have HS := m_; clear m_; clear t3 _t) | (have _t := t4; go_at_call 21; refine (HRU.out A c B d _ (HS.out.step (by repeat (first | exact Below.refl _ _ | apply zq2 | apply zq3 | apply zq4 | apply zq5))).now.2.2.2.2.1 (HS.out.step (by repeat (first | exact Below.refl _ _ | apply zq2 | apply zq3 | apply zq4 | apply zq5))).now.2.2.2.1 HQA.out HQB.out).mono ?_; rintro e w' ⟨Ay, cy, rfl, ky, hC, hb⟩; have m_ := Aside0.mk ((HS.out.call (by repeat (first | exact Below.refl _ _ | apply zq2 | apply zq3 | apply zq4 | apply zq5)) hb).add hC (keeps_C _ _ _ _)); clear HS hb hC; have HS := m_; clear m_; clear t4 _t) | (have _t := t5; go_at_call 22; refine (HB.out Ap cp Bq dq _ (HS.out.step (by repeat (first | exact Below.refl _ _ | apply zq2 | apply zq3 | apply zq4 | apply zq5))).now.2.2.2.1 (HS.out.step (by repeat (first | exact Below.refl _ _ | apply zq2 | apply zq3 | apply zq4 | apply zq5))).now.2.2.1 hp hq).mono ?_; rintro e w' ⟨Au, cu, lu, hu, rfl, ku, hlo, hO, hb⟩; have blu : w1.heap.size ≤ lu := Nat.le_trans (HS.out.step (by repeat (first | exact Below.refl _ _ | apply zq2 | apply zq3 | apply zq4 | apply zq5))).bel.size hlo; have oxu : hx ≤ lu := Nat.le_trans (HS.out.step (by repeat (first | exact Below.refl _ _ | apply zq2 | apply zq3 | apply zq4 | apply zq5))).now.2.1.2.2 hlo; have m_ := Aside0.mk ((HS.out.call (by repeat (first | exact Below.refl _ _ | apply zq2 | apply zq3 | apply zq4 | apply zq5)) hb).add hO (keeps_own2 _ _ _ _ _)); clear HS hb hO hlo; have HS := m_; clear m_; clear t5 _t) | (have _t := t6; go_at_call 23; refine (HRB.out A c B d _ (HS.out.step (by repeat (first | exact Below.refl _ _ | apply zq2 | apply zq3 | apply zq4 | apply zq5))).now.2.2.2.2.2.2.1 (HS.out.step (by repeat (first | exact Below.refl _ _ | apply zq2 | apply zq3 | apply zq4 | apply zq5))).now.2.2.2.2.2.1 HQA.out HQB.out).mono ?_; rintro e w' ⟨Av, cv, rfl, kv, hC, hb⟩; have m_ := Aside0.mk ((HS.out.call (by repeat (first | exact Below.refl _ _ | apply zq2 | apply zq3 | apply zq4 | apply zq5)) hb).add hC (keeps_C _ _ _ _)); clear HS hb hC; have HS := m_; clear m_; clear t6 _t) | (have _t := t7; go_at_call 24; refine (HN.out Ap cp _ (HS.out.step (by repeat (first | exact Below.refl _ _ | apply zq2 | apply zq3 | apply zq4 | apply zq5))).now.2.2.2.2.2.1 hp).mono ?_; rintro e w' ⟨Am, cm, lm, hm, rfl, km, hlo, hO, hb⟩; have blm : w1.heap.size ≤ lm := Nat.le_trans (HS.out.step (by repeat (first | exact Below.refl _ _ | apply zq2 | apply zq3 | apply zq4 | apply zq5))).bel.size hlo; have oxm : hx ≤ lm := Nat.le_trans (HS.out.step (by repeat (first | exact Below.refl _ _ | apply zq2 | apply zq3 | apply zq4 | apply zq5))).now.2.2.2.1.2.2 hlo; have oum : hu ≤ lm := Nat.le_trans (HS.out.step (by repeat (first | exact Below.refl _ _ | apply zq2 | apply zq3 | apply zq4 | apply zq5))).now.2.1.2.2 hlo; have m_ := Aside0.mk ((HS.out.call (by repeat (first | exact Below.refl _ _ | apply zq2 | apply zq3 | apply zq4 | apply zq5)) hb).add hO (keeps_own2 _ _ _ _ _)); clear HS hb hO hlo; have HS := m_; clear m_; clear t7 _t) | (have _t := t8; go_at_call 25; refine (HRN.out A c _ (HS.out.step (by repeat (first | exact Below.refl _ _ | apply zq2 | apply zq3 | apply zq4 | apply zq5))).now.2.2.2.2.2.2.2.2.1 HQA.out).mono ?_; rintro e w' ⟨An, cn, rfl, kn, hC, hb⟩; have m_ := Aside0.mk ((HS.out.call (by repeat (first | exact Below.refl _ _ | apply zq2 | apply zq3 | apply zq4 | apply zq5)) hb).add hC (keeps_C _ _ _ _)); clear HS hb hC; have HS := m_; clear m_; clear t8 _t) | (have _t := u1; go_at_call 13; refine (colophonref17_Same.calls 301 Ax cx x Ay cy x _ _ (HS.out.step (by repeat (first | exact Below.refl _ _ | apply zq2 | apply zq3 | apply zq4 | apply zq5))).now.2.2.2.2.2.1.1 kx (HS.out.step (by repeat (first | exact Below.refl _ _ | apply zq2 | apply zq3 | apply zq4 | apply zq5))).now.2.2.2.2.1 ky SX.out).mono ?_; rintro e w' ⟨rfl, hd⟩; have hb := hd.below; clear hd; have m_ := Aside0.mk (HS.out.call (by repeat (first | exact Below.refl _ _ | apply zq2 | apply zq3 | apply zq4 | apply zq5)) hb); clear HS hb; have HS := m_; clear m_; clear u1 _t) | (have _t := u2; go_at_call 13; refine (colophonref17_Same.calls 301 Au cu u Av cv u _ _ (HS.out.step (by repeat (first | exact Below.refl _ _ | apply zq2 | apply zq3 | apply zq4 | apply zq5))).now.2.2.2.1.1 ku (HS.out.step (by repeat (first | exact Below.refl _ _ | apply zq2 | apply zq3 | apply zq4 | apply zq5))).now.2.2.1 kv SU.out).mono ?_; rintro e w' ⟨rfl, hd⟩; have hb := hd.below; clear hd; have m_ := Aside0.mk (HS.out.call (by repeat (first | exact Below.refl _ _ | apply zq2 | apply zq3 | apply zq4 | apply zq5)) hb); clear HS hb; have HS := m_; clear m_; clear u2 _t) | (have _t := u3; go_at_call 13; refine (colophonref17_Same.calls 301 Am cm m An cn m _ _ (HS.out.step (by repeat (first | exact Below.refl _ _ | apply zq2 | apply zq3 | apply zq4 | apply zq5))).now.2.1.1 km (HS.out.step (by repeat (first | exact Below.refl _ _ | apply zq2 | apply zq3 | apply zq4 | apply zq5))).now.1 kn SM.out).mono ?_; rintro e w' ⟨rfl, hd⟩; have hb := hd.below; clear hd; have m_ := Aside0.mk (HS.out.call (by repeat (first | exact Below.refl _ _ | apply zq2 | apply zq3 | apply zq4 | apply zq5)) hb); clear HS hb; have HS := m_; clear m_; clear u3 _t) | (have _t := v1; go_at_call 18; refine (colophonlaw17_spoil.calls 301 (fun k => lx ≤ k ∧ k < hx) _ x _ w1 _ (HS.out.step (by repeat (first | exact Below.refl _ _ | apply zq2 | apply zq3 | apply zq4 | apply zq5))).bel (Kd.R_lower (HS.out.step (by repeat (first | exact Below.refl _ _ | apply zq2 | apply zq3 | apply zq4 | apply zq5))).now.2.2.2.2.2.1.2.1 blx) Px.out).mono ?_; rintro e w' ⟨rfl, _, hb, hk⟩; have rm := Kd.R_kept (HS.out.step (by repeat (first | exact Below.refl _ _ | apply zq2 | apply zq3 | apply zq4 | apply zq5))).now.2.1.2.1 hk (fun k hk1 hk2 => by have := hk1.1; have := hk2.2; have := oxm; omega); have ru := Kd.R_kept (HS.out.step (by repeat (first | exact Below.refl _ _ | apply zq2 | apply zq3 | apply zq4 | apply zq5))).now.2.2.2.1.2.1 hk (fun k hk1 hk2 => by have := hk1.1; have := hk2.2; have := oxu; omega); have m_ := Aside0.mk (((HW1.out.call (Below.refl _ _) hb).add ru (keeps_R _ _ _ _ _ _)).add rm (keeps_R _ _ _ _ _ _)); clear HS hb hk rm ru; have HS := m_; clear m_; clear v1 _t) | (have _t := v2; go_at_call 18; refine (colophonlaw17_spoil.calls 301 (fun k => lu ≤ k ∧ k < hu) _ u _ w1 _ (HS.out.step (by repeat (first | exact Below.refl _ _ | apply zq2 | apply zq3 | apply zq4 | apply zq5))).bel (Kd.R_lower (HS.out.step (by repeat (first | exact Below.refl _ _ | apply zq2 | apply zq3 | apply zq4 | apply zq5))).now.2.1 blu) Pu.out).mono ?_; rintro e w' ⟨rfl, _, hb, hk⟩; have rm := Kd.R_kept (HS.out.step (by repeat (first | exact Below.refl _ _ | apply zq2 | apply zq3 | apply zq4 | apply zq5))).now.1 hk (fun k hk1 hk2 => by have := hk1.1; have := hk2.2; have := oum; omega); have m_ := Aside0.mk ((HW1.out.call (Below.refl _ _) hb).add rm (keeps_R _ _ _ _ _ _)); clear HS hb hk rm; have HS := m_; clear m_; clear v2 _t) | (have _t := v3; go_at_call 18; refine (colophonlaw17_spoil.calls 301 (fun k => lm ≤ k ∧ k < hm) _ m _ w1 _ (HS.out.step (by repeat (first | exact Below.refl _ _ | apply zq2 | apply zq3 | apply zq4 | apply zq5))).bel (Kd.R_lower (HS.out.step (by repeat (first | exact Below.refl _ _ | apply zq2 | apply zq3 | apply zq4 | apply zq5))).now.1 blm) Pm.out).mono ?_; rintro e w' ⟨rfl, _, hb, hk⟩; have m_ := Aside0.mk (HW1.out.call (Below.refl _ _) hb); clear HS hb hk; have HS := m_; clear m_; clear v3 _t) | (have _t := z1; go_at_call 13; refine (colophonref17_Same.calls 301 Ap cp a A c a _ _ (HS.out.step (by repeat (first | exact Below.refl _ _ | apply zq2 | apply zq3 | apply zq4 | apply zq5))).now.2.1 hp (HS.out.step (by repeat (first | exact Below.refl _ _ | apply zq2 | apply zq3 | apply zq4 | apply zq5))).now.2.2.2.1 HQA.out SA.out).mono ?_; rintro e w' ⟨rfl, hd⟩; have hb := hd.below; clear hd; have m_ := Aside0.mk (HS.out.call (by repeat (first | exact Below.refl _ _ | apply zq2 | apply zq3 | apply zq4 | apply zq5)) hb); clear HS hb; have HS := m_; clear m_; clear z1 _t) | (have _t := z2; go_at_call 13; refine (colophonref17_Same.calls 301 Bq dq b B d b _ _ (HS.out.step (by repeat (first | exact Below.refl _ _ | apply zq2 | apply zq3 | apply zq4 | apply zq5))).now.1 hq (HS.out.step (by repeat (first | exact Below.refl _ _ | apply zq2 | apply zq3 | apply zq4 | apply zq5))).now.2.2.1 HQB.out SB.out).mono ?_; rintro e w' ⟨rfl, hd⟩; have hb := hd.below; clear hd; have m_ := Aside0.mk (HS.out.call (by repeat (first | exact Below.refl _ _ | apply zq2 | apply zq3 | apply zq4 | apply zq5)) hb); clear HS hb; have HS := m_; clear m_; clear z2 _t) | (go_at_call 19; refine (works17_ok _).mono ?_; rintro e w' ⟨rfl, hb⟩; have m_ := Aside0.mk (HS.out.call (by repeat (first | exact Below.refl _ _ | apply zq2 | apply zq3 | apply zq4 | apply zq5)) hb); clear HS hb; have HS := m_; clear m_))
  go_ret
  exact ⟨rfl, HW0.out.bel.trans (HS.out.bel.mono HW0.out.bel.size)⟩
end Go.Proofs.Ytingbjdpjimikaa.B
