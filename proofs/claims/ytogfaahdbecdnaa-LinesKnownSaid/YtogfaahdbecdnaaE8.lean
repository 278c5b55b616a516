/-
  LinesTwo, walked.
-/
import Derived.Test.YtogfaahdbecdnaaM2
import Derived.Deep.DeepCutAuto
namespace Go.Proofs.Ytogfaahdbecdnaa.B
open Go.RowKit Go.Proofs.YtogfaahdbecdnaaW.PrintWords Go.Proofs.YtogfaahdbecdnaaW.PrintLast Go.Proofs.YtogfaahdbecdnaaW.PrintMore Go.Proofs.Ytogfaahdbecdnaa.FBase
set_option linter.unusedVariables false

theorem Copy_ok (A : Option Addr) (c : Nat) (l : List Int) (w : World) (hr : Kd.C (Kd.int .u8) w A l.length l) (hc : l.length ≤ c) (hs : l.length ≤ 1048576) :
    Calls Try.prog 20 #[.slice A l.length c] w fun e w' => ∃ v : Value, e = .returned v ∧ Kd.R (Kd.int .u8) 5 w' w.heap.size (fun _ => True) v l ∧ Below w.heap.size w w' :=
  colophonref00_CopyBytes.calls A c l l w hr hc (by unfold colophonref00_CopyBytes.f; rw [if_pos (by simp; omega)]; simp)

theorem counts_w (x y : Nat) (hx : x ≤ 1001) (hy : y ≤ 1001) (h0 : 0 < x) : wrap64 ((x : Int) + y) = x + y ∧ wrap64 ((x : Int) + y - 1) = x + y - 1 ∧ wrap64 ((x : Int) + y - 1 - 1) = x + y - 1 - 1 := by
  unfold wrap64
  refine ⟨?_, ?_, ?_⟩ <;> omega

set_option maxRecDepth 100000 in
set_option maxHeartbeats 2000000 in
theorem LinesTwo_ok (A B : Option Addr) (c d : Nat) (l m : List Int) (w : World) (hr : Kd.C (Kd.int .u8) w A l.length l) (hc : l.length ≤ c) (hr2 : Kd.C (Kd.int .u8) w B m.length m) (hc2 : m.length ≤ d) (hs : l.length ≤ 9223372036854775807) (hs2 : m.length ≤ 9223372036854775807) (hl : Bytes l) (hm : Bytes m) :
    Calls Try.prog 8 #[.slice A l.length c, .slice B m.length d] w fun e w' => e = .returned (.bool true) ∧ Below w.heap.size w w' := by
  have HR := Aside0.mk hr
  have HC := Aside0.mk hc
  have HR2 := Aside0.mk hr2
  have HC2 := Aside0.mk hc2
  have HL := Aside0.mk hl
  have HM := Aside0.mk hm
  clear hr hc hr2 hc2 hl hm
  go_enter Try.func8, Try.ntmps8
  go_wp2_with (go_at_call 24; refine (works_ok _).mono ?_; rintro e w' ⟨rfl, hb⟩; have HB := Aside0.mk hb; clear hb)
  go_cut [0, 1] (fun s0 s1 wx => (∃ la, s0 = .slice A la.length c ∧ la.length ≤ 1000 ∧ Aside0 (la = l.take 1000)) ∧ (∃ ma, s1 = .slice B ma.length d ∧ ma.length ≤ 1000 ∧ Aside0 (ma = m.take 1000)) ∧ ∃ q, wx = w'.drewN q)
  case first =>
    have hc1 := HC.out
    have hc2 := HC2.out
    by_cases h1 : l.length ≤ 1000
    · have E1 := Aside0.mk (List.take_of_length_le h1)
      by_cases h2 : m.length ≤ 1000
      · have E2 := Aside0.mk (List.take_of_length_le h2)
        go_region
        go_wp2
        go_meet
        exact ⟨⟨l, rfl, h1, ⟨E1.out.symm⟩⟩, ⟨m, rfl, h2, ⟨E2.out.symm⟩⟩, 1, rfl⟩
      · have E2 := Aside0.mk (show (m.take 1000).length = 1000 by rw [List.length_take]; omega)
        have i2 : (1000 : Int) < m.length := by omega
        go_region
        go_wp2
        go_meet
        exact ⟨⟨l, rfl, h1, ⟨E1.out.symm⟩⟩, ⟨m.take 1000, by rw [E2.out], by rw [E2.out]; exact Nat.le_refl _, ⟨rfl⟩⟩, 1, rfl⟩
    · have E1 := Aside0.mk (show (l.take 1000).length = 1000 by rw [List.length_take]; omega)
      have i1 : (1000 : Int) < l.length := by omega
      by_cases h2 : m.length ≤ 1000
      · have E2 := Aside0.mk (List.take_of_length_le h2)
        go_region
        go_wp2
        go_meet
        exact ⟨⟨l.take 1000, by rw [E1.out], by rw [E1.out]; exact Nat.le_refl _, ⟨rfl⟩⟩, ⟨m, rfl, h2, ⟨E2.out.symm⟩⟩, 1, rfl⟩
      · have E2 := Aside0.mk (show (m.take 1000).length = 1000 by rw [List.length_take]; omega)
        have i2 : (1000 : Int) < m.length := by omega
        go_region
        go_wp2
        go_meet
        exact ⟨⟨l.take 1000, by rw [E1.out], by rw [E1.out]; exact Nat.le_refl _, ⟨rfl⟩⟩, ⟨m.take 1000, by rw [E2.out], by rw [E2.out]; exact Nat.le_refl _, ⟨rfl⟩⟩, 1, rfl⟩
  case rest =>
    obtain ⟨⟨la, rfl, hla, hta⟩, ⟨ma, rfl, hma, htm⟩, q, rfl⟩ := hcut
    have ha0 : Kd.C (Kd.int .u8) w A la.length la ∧ la.length ≤ c ∧ Bytes la := by
      rw [hta.out]
      refine ⟨?_, by have := HC.out; rw [List.length_take]; omega, HL.out.take _⟩
      by_cases h1 : l.length ≤ 1000
      · rw [List.take_of_length_le h1]; exact HR.out
      · exact Kd.C_take HR.out (by omega)
    have hb0 : Kd.C (Kd.int .u8) w B ma.length ma ∧ ma.length ≤ d ∧ Bytes ma := by
      rw [htm.out]
      refine ⟨?_, by have := HC2.out; rw [List.length_take]; omega, HM.out.take _⟩
      by_cases h1 : m.length ≤ 1000
      · rw [List.take_of_length_le h1]; exact HR2.out
      · exact Kd.C_take HR2.out (by omega)
    clear hta htm HR HC HR2 HC2 HL HM hs hs2
    obtain ⟨hra, hca, hba⟩ := ha0
    obtain ⟨hrb, hcb, hbb⟩ := hb0
    have HRA := Aside0.mk hra
    have HRB := Aside0.mk hrb
    have HCA := Aside0.mk hca
    have HCB := Aside0.mk hcb
    have hkx := Check_f la hba (by omega) (Nat.lt_succ_self _)
    have hky := Check_f ma hbb (by omega) (Nat.lt_succ_self _)
    have hkz := Check_f (la ++ ma) (hba.append hbb) (by rw [List.length_append]; omega) (Nat.lt_succ_self _)
    have hz0 : (chk la).2 = 0 → (chk ma).2 = 0 → (chk (la ++ ma)).2 = 0 := fun h1 h2 => (chk_V (hba.append hbb)).2 (((chk_V hba).1 h1).append hba ((chk_V hbb).1 h2))
    obtain ⟨za, hza⟩ : ∃ za, za = la ++ ma := ⟨_, rfl⟩
    have hzl : za.length = la.length + ma.length := by rw [hza, List.length_append]
    rw [← hza] at hkz hz0
    generalize (la.length + 8).succ = kx at hkx
    generalize (ma.length + 8).succ = ky at hky
    generalize (za.length + 8).succ = kz at hkz
    generalize chk la = cx at *
    generalize chk ma = cy at *
    generalize chk za = cz at *
    obtain ⟨x1, x2⟩ := cx
    obtain ⟨y1, y2⟩ := cy
    obtain ⟨z1, z2⟩ := cz
    have HKX := Aside0.mk hkx
    have HKY := Aside0.mk hky
    have hn := nl_two la.length la ma (Nat.le_refl _)
    rw [← hza] at hn
    have sa := (lns_chain0 la).length_le
    have sb := (lns_chain0 ma).length_le
    have sz := (lns_chain0 za).length_le
    have HZA := Aside0.mk hza
    clear hza
    have HZL := Aside0.mk hzl
    have HPA := Aside0.mk (lns_chain0 la).pos
    have HPB := Aside0.mk (lns_chain0 ma).pos
    have HPZ := Aside0.mk (lns_chain0 za).pos
    have HSA := Aside0.mk (show (lns la 0 0).length ≤ 2097152 by omega)
    have HSB := Aside0.mk (show (lns ma 0 0).length ≤ 2097152 by omega)
    have HSZ := Aside0.mk (show (lns za 0 0).length ≤ 2097152 by omega)
    unfold nl at hn
    have HN := Aside0.mk hn
    clear hzl hn hra hrb hca hcb hba hbb hkx hky
    have tn := True.intro
    by_cases hx : x2 = 0
    · subst hx
      by_cases hy : y2 = 0
      · subst hy
        obtain rfl : z2 = 0 := hz0 rfl rfl
        have HKZ := Aside0.mk hkz
        clear hkz hz0
        have tx := True.intro
        have tn2 := True.intro
        have ty := True.intro
        go_upto_region 12 with (first | (have _t := tn; go_at_call 21; refine (New_ok kx A c _ x1 _ (by repeat (first | exact Kd.C_below HRA.out HB.out | exact HRA.out | (with_reducible refine Kd.C_alloc ?_ _) | (with_reducible refine Kd.C_drewN ?_ _) | (with_reducible refine Kd.C_drew ?_))) HCA.out HKX.out (by omega)).mono ?_; rintro e w1 ⟨a_HX, rfl, hle_, hI, hb⟩; have HX := Aside0.mk hI; have m_ := Aside0.mk (below_step (by repeat (first | exact HB.out | apply below_alloc | apply pw_below_drewN | apply below_drew1)) hb); clear  HB ; have HB := m_; clear  m_; clear hI hb; clear tn _t) | (have _t := tn2; go_at_call 21; refine (New_ok ky B d _ y1 _ (by repeat (first | exact Kd.C_below HRB.out HB.out | exact HRB.out | (with_reducible refine Kd.C_alloc ?_ _) | (with_reducible refine Kd.C_drewN ?_ _) | (with_reducible refine Kd.C_drew ?_))) HCB.out HKY.out (by omega)).mono ?_; rintro e w1 ⟨a_HY, rfl, hle_, hI, hb⟩; have HY := Aside0.mk hI; have n0_ := Aside0.mk (IsIdx.below (by repeat (first | exact HX.out | apply IsIdx.alloc | apply IsIdx.drewN)) hb); have m_ := Aside0.mk (below_step (by repeat (first | exact HB.out | apply below_alloc | apply pw_below_drewN | apply below_drew1)) hb); clear HX HB ; have HX := n0_; have HB := m_; clear n0_ m_; clear hI hb; clear tn2 _t) | (go_at_call 20; refine (Copy_ok A c la _ (by repeat (first | exact Kd.C_below HRA.out HB.out | exact HRA.out | (with_reducible refine Kd.C_alloc ?_ _) | (with_reducible refine Kd.C_drewN ?_ _) | (with_reducible refine Kd.C_drew ?_))) HCA.out (by omega)).mono ?_; rintro e w' ⟨v, rfl, hv, hb⟩; have HV := Aside0.mk hv; have HBV := Aside0.mk hb; have HRBV := Aside0.mk (Kd.C_below (Kd.C_below HRB.out (by repeat (first | exact HB.out | apply pw_below_drewN))) hb); clear hv hb) | (at_builtin; refine Kd.R_append_rows (Kd.int .u8) (w0 := w1) w1.heap.size rfl (.tmp 42) (.tmp 43) 22 5 (.int .u8 0) 1 rfl Try.underlying22 info5 rfl (by decide) (by omega) v la ma _ _ _ (fun _ => True) (fun _ => False) rfl rfl ?aO ?aR (fun _ _ h => h) (fun _ h => h.elim) ?aF ?aB ?aS ?aL ?_; (case aR => exact HRBV.out); (case aB => exact HBV.out); (case aF => exact (fun _ _ => trivial)); (case aO => exact HV.out); (case aS => exact HBV.out.size); (case aL => omega); intro v1 w3 ho hb hg hat; rw [← HZA.out] at ho; obtain ⟨A3, c3, rfl⟩ := Kd.R_slice ho; have HO := Aside0.mk (Kd.R_reads' ho); have n0_ := Aside0.mk (IsIdx.below HX.out hb); have n1_ := Aside0.mk (IsIdx.below HY.out hb); have m_ := Aside0.mk (below_step HB.out hb); clear HX HY HB HBV HV ho hg hat; have HX := n0_; have HY := n1_; have HB := m_; clear n0_ n1_ m_ hb) | (go_at_call 21; refine (New_ok kz A3 c3 za z1 _ HO.out.2.2 HO.out.2.1 HKZ.out (by have := HZL.out; omega)).mono ?_; rintro e w1 ⟨a_HZ, rfl, hle_, hI, hb⟩; have HZ := Aside0.mk hI; have n0_ := Aside0.mk (IsIdx.below (by repeat (first | exact HX.out | apply IsIdx.alloc | apply IsIdx.drewN)) hb); have n1_ := Aside0.mk (IsIdx.below (by repeat (first | exact HY.out | apply IsIdx.alloc | apply IsIdx.drewN)) hb); have m_ := Aside0.mk (below_step (by repeat (first | exact HB.out | apply below_alloc | apply pw_below_drewN | apply below_drew1)) hb); clear HX HY HB ; have HX := n0_; have HY := n1_; have HB := m_; clear n0_ n1_ m_; clear hI hb) | (have _t := tx; go_at_call 26; refine (Count_ok a_HX _ _ (by repeat (first | exact HX.out | apply IsIdx.alloc | apply IsIdx.drewN)) (by exact HPA.out) (by exact HSA.out)).mono ?_; rintro e w' ⟨rfl, hb⟩; have n0_ := Aside0.mk (IsIdx.below (by repeat (first | exact HX.out | apply IsIdx.alloc | apply IsIdx.drewN)) hb); have n1_ := Aside0.mk (IsIdx.below (by repeat (first | exact HY.out | apply IsIdx.alloc | apply IsIdx.drewN)) hb); have n2_ := Aside0.mk (IsIdx.below (by repeat (first | exact HZ.out | apply IsIdx.alloc | apply IsIdx.drewN)) hb); have m_ := Aside0.mk (below_step (by repeat (first | exact HB.out | apply below_alloc | apply pw_below_drewN | apply below_drew1)) hb); clear HX HY HZ HB ; have HX := n0_; have HY := n1_; have HZ := n2_; have HB := m_; clear n0_ n1_ n2_ m_; clear tx _t) | (have _t := ty; go_at_call 26; refine (Count_ok a_HY _ _ (by repeat (first | exact HY.out | apply IsIdx.alloc | apply IsIdx.drewN)) (by exact HPB.out) (by exact HSB.out)).mono ?_; rintro e w' ⟨rfl, hb⟩; have n0_ := Aside0.mk (IsIdx.below (by repeat (first | exact HX.out | apply IsIdx.alloc | apply IsIdx.drewN)) hb); have n1_ := Aside0.mk (IsIdx.below (by repeat (first | exact HY.out | apply IsIdx.alloc | apply IsIdx.drewN)) hb); have n2_ := Aside0.mk (IsIdx.below (by repeat (first | exact HZ.out | apply IsIdx.alloc | apply IsIdx.drewN)) hb); have m_ := Aside0.mk (below_step (by repeat (first | exact HB.out | apply below_alloc | apply pw_below_drewN | apply below_drew1)) hb); clear HX HY HZ HB ; have HX := n0_; have HY := n1_; have HZ := n2_; have HB := m_; clear n0_ n1_ n2_ m_; clear ty _t))
        have hn := HN.out
        have hzl := HZL.out
        obtain ⟨w1_, w2_, w3_⟩ := counts_w (lns la 0 0).length (lns ma 0 0).length (by omega) (by omega) HPA.out
        have hca := HCA.out
        have hcb := HCB.out
        clear HN HZL sa sb sz hzl
        by_cases hl0 : la.length = 0
        · have hn := hn.2 (fun h => by rw [Meet, List.length_eq_zero_iff.1 hl0] at h; simp at h)
          have d1 : ¬ (0 < la.length) := by omega
          have d2_ : ((lns za 0 0).length : Int) = (lns la 0 0).length + (lns ma 0 0).length - 1 := by omega
          clear hl0
          (go_wp2_with (go_at_call 26; refine (Count_ok a_HZ _ _ (by repeat (first | exact HZ.out | apply IsIdx.alloc | apply IsIdx.drewN)) (by exact HPZ.out) (by exact HSZ.out)).mono ?_; rintro e w' ⟨rfl, hb⟩; have n0_ := Aside0.mk (IsIdx.below (by repeat (first | exact HX.out | apply IsIdx.alloc | apply IsIdx.drewN)) hb); have n1_ := Aside0.mk (IsIdx.below (by repeat (first | exact HY.out | apply IsIdx.alloc | apply IsIdx.drewN)) hb); have n2_ := Aside0.mk (IsIdx.below (by repeat (first | exact HZ.out | apply IsIdx.alloc | apply IsIdx.drewN)) hb); have m_ := Aside0.mk (below_step (by repeat (first | exact HB.out | apply below_alloc | apply pw_below_drewN | apply below_drew1)) hb); clear HX HY HZ HB ; have HX := n0_; have HY := n1_; have HZ := n2_; have HB := m_; clear n0_ n1_ n2_ m_); go_ret; exact ⟨rfl, (by repeat (first | exact HB.out | apply below_alloc | apply pw_below_drewN | apply below_drew1))⟩)
        · by_cases hm0 : ma.length = 0
          · have hn := hn.2 (fun h => by rw [Meet, List.length_eq_zero_iff.1 hm0] at h; simp at h)
            have d1 : 0 < la.length := by omega
            have d3 : ¬ (0 < ma.length) := by omega
            have d2_ : ((lns za 0 0).length : Int) = (lns la 0 0).length + (lns ma 0 0).length - 1 := by omega
            clear hl0 hm0
            (go_wp2_with (go_at_call 26; refine (Count_ok a_HZ _ _ (by repeat (first | exact HZ.out | apply IsIdx.alloc | apply IsIdx.drewN)) (by exact HPZ.out) (by exact HSZ.out)).mono ?_; rintro e w' ⟨rfl, hb⟩; have n0_ := Aside0.mk (IsIdx.below (by repeat (first | exact HX.out | apply IsIdx.alloc | apply IsIdx.drewN)) hb); have n1_ := Aside0.mk (IsIdx.below (by repeat (first | exact HY.out | apply IsIdx.alloc | apply IsIdx.drewN)) hb); have n2_ := Aside0.mk (IsIdx.below (by repeat (first | exact HZ.out | apply IsIdx.alloc | apply IsIdx.drewN)) hb); have m_ := Aside0.mk (below_step (by repeat (first | exact HB.out | apply below_alloc | apply pw_below_drewN | apply below_drew1)) hb); clear HX HY HZ HB ; have HX := n0_; have HY := n1_; have HZ := n2_; have HB := m_; clear n0_ n1_ n2_ m_); go_ret; exact ⟨rfl, (by repeat (first | exact HB.out | apply below_alloc | apply pw_below_drewN | apply below_drew1))⟩)
          · obtain ⟨na, hna⟩ : ∃ na, la.length = na + 1 := ⟨la.length - 1, by omega⟩
            obtain ⟨nb, hnb⟩ : ∃ nb, ma.length = nb + 1 := ⟨ma.length - 1, by omega⟩
            obtain ⟨ad, e1, x1_⟩ := Kd.at_int HRA.out (na : Int) (by omega) (by omega)
            obtain ⟨bd, e2, x2_⟩ := Kd.at_int HRB.out 0 (by omega) (by omega)
            have y1_ := (HB.out.cell (World.block_lt_of_cell? w _ x1_)).trans x1_
            have y2_ := (HB.out.cell (World.block_lt_of_cell? w _ x2_)).trans x2_
            subst e1 e2
            rw [Int.toNat_natCast] at y1_
            rw [Int.toNat_zero, show bd.add 0 = bd by simp [Addr.add]] at y2_
            have hg1 : la.getLast? = some (rd la na) := by rw [List.getLast?_eq_getElem?, hna]; simp [rd, List.getD, show na < la.length by omega]
            have hg2 : ma.head? = some (rd ma 0) := by rw [List.head?_eq_getElem?]; simp [rd, List.getD, show 0 < ma.length by omega]
            unfold Meet at hn
            rw [hg1, hg2, Option.some.injEq, Option.some.injEq] at hn
            have c1 : (na : Int) < ((na : Int) + 1) := by omega
            have w4_ : wrap64 (na : Int) = na := w64 _ (by omega) (by omega)
            rw [hna] at HRA
            rw [hnb] at HRB HRBV
            rw [hna, hnb]
            clear hg1 hg2 x1_ x2_ hl0 hm0 hna hnb
            by_cases h13 : rd la na = 13
            · rw [h13] at y1_
              by_cases h10 : rd ma 0 = 10
              · have hn := hn.1 ⟨h13, h10⟩
                have d2_ : ((lns za 0 0).length : Int) = (lns la 0 0).length + (lns ma 0 0).length - 1 - 1 := by omega
                rw [h10] at y2_
                clear h13 h10
                (go_wp2_with (go_at_call 26; refine (Count_ok a_HZ _ _ (by repeat (first | exact HZ.out | apply IsIdx.alloc | apply IsIdx.drewN)) (by exact HPZ.out) (by exact HSZ.out)).mono ?_; rintro e w' ⟨rfl, hb⟩; have n0_ := Aside0.mk (IsIdx.below (by repeat (first | exact HX.out | apply IsIdx.alloc | apply IsIdx.drewN)) hb); have n1_ := Aside0.mk (IsIdx.below (by repeat (first | exact HY.out | apply IsIdx.alloc | apply IsIdx.drewN)) hb); have n2_ := Aside0.mk (IsIdx.below (by repeat (first | exact HZ.out | apply IsIdx.alloc | apply IsIdx.drewN)) hb); have m_ := Aside0.mk (below_step (by repeat (first | exact HB.out | apply below_alloc | apply pw_below_drewN | apply below_drew1)) hb); clear HX HY HZ HB ; have HX := n0_; have HY := n1_; have HZ := n2_; have HB := m_; clear n0_ n1_ n2_ m_); go_ret; exact ⟨rfl, (by repeat (first | exact HB.out | apply below_alloc | apply pw_below_drewN | apply below_drew1))⟩)
              · have hn := hn.2 (fun h => h10 h.2)
                have d2_ : ((lns za 0 0).length : Int) = (lns la 0 0).length + (lns ma 0 0).length - 1 := by omega
                have b10 : (rd ma 0 == 10) = false := beq_eq_false_iff_ne.mpr h10
                clear h13
                (go_wp2_with (go_at_call 26; refine (Count_ok a_HZ _ _ (by repeat (first | exact HZ.out | apply IsIdx.alloc | apply IsIdx.drewN)) (by exact HPZ.out) (by exact HSZ.out)).mono ?_; rintro e w' ⟨rfl, hb⟩; have n0_ := Aside0.mk (IsIdx.below (by repeat (first | exact HX.out | apply IsIdx.alloc | apply IsIdx.drewN)) hb); have n1_ := Aside0.mk (IsIdx.below (by repeat (first | exact HY.out | apply IsIdx.alloc | apply IsIdx.drewN)) hb); have n2_ := Aside0.mk (IsIdx.below (by repeat (first | exact HZ.out | apply IsIdx.alloc | apply IsIdx.drewN)) hb); have m_ := Aside0.mk (below_step (by repeat (first | exact HB.out | apply below_alloc | apply pw_below_drewN | apply below_drew1)) hb); clear HX HY HZ HB ; have HX := n0_; have HY := n1_; have HZ := n2_; have HB := m_; clear n0_ n1_ n2_ m_); go_ret; exact ⟨rfl, (by repeat (first | exact HB.out | apply below_alloc | apply pw_below_drewN | apply below_drew1))⟩)
            · have hn := hn.2 (fun h => h13 h.1)
              have d2_ : ((lns za 0 0).length : Int) = (lns la 0 0).length + (lns ma 0 0).length - 1 := by omega
              have b13 : (rd la na == 13) = false := beq_eq_false_iff_ne.mpr h13
              (go_wp2_with (go_at_call 26; refine (Count_ok a_HZ _ _ (by repeat (first | exact HZ.out | apply IsIdx.alloc | apply IsIdx.drewN)) (by exact HPZ.out) (by exact HSZ.out)).mono ?_; rintro e w' ⟨rfl, hb⟩; have n0_ := Aside0.mk (IsIdx.below (by repeat (first | exact HX.out | apply IsIdx.alloc | apply IsIdx.drewN)) hb); have n1_ := Aside0.mk (IsIdx.below (by repeat (first | exact HY.out | apply IsIdx.alloc | apply IsIdx.drewN)) hb); have n2_ := Aside0.mk (IsIdx.below (by repeat (first | exact HZ.out | apply IsIdx.alloc | apply IsIdx.drewN)) hb); have m_ := Aside0.mk (below_step (by repeat (first | exact HB.out | apply below_alloc | apply pw_below_drewN | apply below_drew1)) hb); clear HX HY HZ HB ; have HX := n0_; have HY := n1_; have HZ := n2_; have HB := m_; clear n0_ n1_ n2_ m_); go_ret; exact ⟨rfl, (by repeat (first | exact HB.out | apply below_alloc | apply pw_below_drewN | apply below_drew1))⟩)
      · have hy2 : (y2 != 0) = true := bne_iff_ne.mpr hy
        go_wp2_with (first | (have _t := tn; go_at_call 21; refine (New_ok kx A c _ x1 _ (by repeat (first | exact Kd.C_below HRA.out HB.out | exact HRA.out | (with_reducible refine Kd.C_alloc ?_ _) | (with_reducible refine Kd.C_drewN ?_ _) | (with_reducible refine Kd.C_drew ?_))) HCA.out HKX.out (by omega)).mono ?_; rintro e w1 ⟨a_HX, rfl, hle_, hI, hb⟩; have HX := Aside0.mk hI; have m_ := Aside0.mk (below_step (by repeat (first | exact HB.out | apply below_alloc | apply pw_below_drewN | apply below_drew1)) hb); clear  HB ; have HB := m_; clear  m_; clear hI hb; clear tn _t) | (go_at_call 21; refine (New_err ky B d _ y1 y2 _ (by repeat (first | exact Kd.C_below HRB.out HB.out | exact HRB.out | (with_reducible refine Kd.C_alloc ?_ _) | (with_reducible refine Kd.C_drewN ?_ _) | (with_reducible refine Kd.C_drew ?_))) HCB.out HKY.out hy).mono ?_; rintro e w1 ⟨rfl, hb⟩; have n0_ := Aside0.mk (IsIdx.below (by repeat (first | exact HX.out | apply IsIdx.alloc | apply IsIdx.drewN)) hb); have m_ := Aside0.mk (below_step (by repeat (first | exact HB.out | apply below_alloc | apply pw_below_drewN | apply below_drew1)) hb); clear HX HB ; have HX := n0_; have HB := m_; clear n0_ m_; clear hb))
        go_ret
        exact ⟨rfl, (by repeat (first | exact HB.out | apply below_alloc | apply pw_below_drewN | apply below_drew1))⟩
    · have hx2 : (x2 != 0) = true := bne_iff_ne.mpr hx
      by_cases hy : y2 = 0
      · subst hy
        go_wp2_with (first | (have _t := tn; go_at_call 21; refine (New_err kx A c _ x1 x2 _ (by repeat (first | exact Kd.C_below HRA.out HB.out | exact HRA.out | (with_reducible refine Kd.C_alloc ?_ _) | (with_reducible refine Kd.C_drewN ?_ _) | (with_reducible refine Kd.C_drew ?_))) HCA.out HKX.out hx).mono ?_; rintro e w1 ⟨rfl, hb⟩; have m_ := Aside0.mk (below_step (by repeat (first | exact HB.out | apply below_alloc | apply pw_below_drewN | apply below_drew1)) hb); clear  HB ; have HB := m_; clear  m_; clear hb; clear tn _t) | (go_at_call 21; refine (New_ok ky B d _ y1 _ (by repeat (first | exact Kd.C_below HRB.out HB.out | exact HRB.out | (with_reducible refine Kd.C_alloc ?_ _) | (with_reducible refine Kd.C_drewN ?_ _) | (with_reducible refine Kd.C_drew ?_))) HCB.out HKY.out (by omega)).mono ?_; rintro e w1 ⟨a_HY, rfl, hle_, hI, hb⟩; have HY := Aside0.mk hI; have m_ := Aside0.mk (below_step (by repeat (first | exact HB.out | apply below_alloc | apply pw_below_drewN | apply below_drew1)) hb); clear  HB ; have HB := m_; clear  m_; clear hI hb))
        go_ret
        exact ⟨rfl, (by repeat (first | exact HB.out | apply below_alloc | apply pw_below_drewN | apply below_drew1))⟩
      · go_wp2_with (first | (have _t := tn; go_at_call 21; refine (New_err kx A c _ x1 x2 _ (by repeat (first | exact Kd.C_below HRA.out HB.out | exact HRA.out | (with_reducible refine Kd.C_alloc ?_ _) | (with_reducible refine Kd.C_drewN ?_ _) | (with_reducible refine Kd.C_drew ?_))) HCA.out HKX.out hx).mono ?_; rintro e w1 ⟨rfl, hb⟩; have m_ := Aside0.mk (below_step (by repeat (first | exact HB.out | apply below_alloc | apply pw_below_drewN | apply below_drew1)) hb); clear  HB ; have HB := m_; clear  m_; clear hb; clear tn _t) | (go_at_call 21; refine (New_err ky B d _ y1 y2 _ (by repeat (first | exact Kd.C_below HRB.out HB.out | exact HRB.out | (with_reducible refine Kd.C_alloc ?_ _) | (with_reducible refine Kd.C_drewN ?_ _) | (with_reducible refine Kd.C_drew ?_))) HCB.out HKY.out hy).mono ?_; rintro e w1 ⟨rfl, hb⟩; have m_ := Aside0.mk (below_step (by repeat (first | exact HB.out | apply below_alloc | apply pw_below_drewN | apply below_drew1)) hb); clear  HB ; have HB := m_; clear  m_; clear hb))
        go_ret
        exact ⟨rfl, (by repeat (first | exact HB.out | apply below_alloc | apply pw_below_drewN | apply below_drew1))⟩

theorem LinesTwo_row (A : Option Addr) (n c : Nat) (zs : List Int) (B : Option Addr) (m d : Nat) (ys : List Int) (W : World) (h : IsRow .u8 W A n c zs) (hb : c ≤ 1048576) (h2 : IsRow .u8 W B m d ys) (hb2 : d ≤ 1048576) :
    Calls Try.prog 8 #[.slice A n c, .slice B m d] W fun e w' => e = .returned (.bool true) ∧ Below W.heap.size W w' := by
  obtain ⟨l, rfl, hc, hC, hw⟩ := h.reads
  obtain ⟨l2, rfl, hc2, hC2, hw2⟩ := h2.reads
  exact LinesTwo_ok A B c d l l2 W hC hc hC2 hc2 (Kd.C_max hC) (Kd.C_max hC2) (fun x hx => byte_wf (hw x hx)) (fun x hx => byte_wf (hw2 x hx))

theorem LinesTwo_said (A : Option Addr) (n c : Nat) (zs : List Int) (B : Option Addr) (m d : Nat) (ys : List Int) (W : World) (h : IsRow .u8 W A n c zs) (h2 : IsRow .u8 W B m d ys) :
    Calls Try.prog 8 #[.slice A n c, .slice B m d] W fun e w' => e = .returned (.bool true) ∧ Below W.heap.size W w' := by
  obtain ⟨l, rfl, hc, hC, hw⟩ := h.reads
  obtain ⟨l2, rfl, hc2, hC2, hw2⟩ := h2.reads
  exact LinesTwo_ok A B c d l l2 W hC hc hC2 hc2 (Kd.C_max hC) (Kd.C_max hC2) (fun x hx => byte_wf (hw x hx)) (fun x hx => byte_wf (hw2 x hx))
end Go.Proofs.Ytogfaahdbecdnaa.B
