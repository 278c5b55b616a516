/-
  Texts of this session, one behind the other: T9, T10, T11, T12, T13, T14, T15, T16, T30, T31, T32, FBasex6, T33, T20, T21, T22, T24, T34, T35, T36.
-/
import Derived.Test.YtingbjdpjimikaaZT370
set_option linter.unusedSimpArgs false
set_option linter.unusedVariables false
namespace Go.Proofs.Ytingbjdpjimikaa.B
open Go.RowKit Go.Proofs Go.Proofs.YtingbjdpjimikaaW.PrintWords Go.Proofs.YtingbjdpjimikaaW.PrintLast Go.Proofs.YtingbjdpjimikaaW.PrintMore Go.Proofs.Ytingbjdpjimikaa.FBase
def ckk (l1 l2 : List Sp) : Nat → Int
  | 0 => sCheck l1
  | _ => sCheck l2
def sMade (p : Bool → Bool → Bool) (l1 l2 : List Sp) : List Sp × Int :=
  if sCheck l1 ≠ 0 then ([], sCheck l1) else if sCheck l2 ≠ 0 then ([], sCheck l2) else
    if 256 < (mkS (fun c => p (sHas l1 c) (sHas l2 c)) (cutsOf (l1 ++ l2)) []).length then ([], 5) else (mkS (fun c => p (sHas l1 c) (sHas l2 c)) (cutsOf (l1 ++ l2)) [], 0)
theorem check_ff (l : List Sp) {k : Nat} (hk : l.length < k) : charset_Check.f k l = some (sCheck l) := by
  by_cases h : l.length ≤ 4611686018427387904
  · exact check_f l h hk
  · unfold charset_Check.f sCheck
    rw [if_pos (by omega), if_pos (by omega)]
theorem Sep.all : ∀ {s : List Sp} {lo : Int}, Sep lo s → ∀ x ∈ s, lo ≤ x.f0 ∧ x.f0 < x.f1
  | [], _, _, x, hx => by cases hx
  | y :: s, lo, h, x, hx => by
    rcases List.mem_cons.1 hx with rfl | hx
    · exact ⟨h.1, h.2.1⟩
    · have h1 := Sep.all h.2.2 x hx
      have h2 := h.1
      have h3 := h.2.1
      exact ⟨by omega, h1.2⟩
theorem may_of {l : List Sp} (h : sCheck l = 0) {x : Sp} (hx : x ∈ l) : may x := by
  obtain ⟨_, h1, h2⟩ := (sCheck_ok l).1 h
  have h3 := h1.all x hx
  have h4 := h2 x hx
  unfold may
  omega
theorem cutI (m : Nat) (A : Option Addr) (c : Nat) (h : m + 1 ≤ c) : ∀ W1 : World, (Instr.slice 53 (.slice A (m + 1) c) none (some (.int .i64 (m : Int))) none).run Try.prog W1 = .ok (.slice A m c) W1 := by
  obtain ⟨i0, hi0, _, hsz, _⟩ := info_parts info3
  have hcut := cut_to (P := Try.prog) 53 3 .i64 Try.underlying53 hi0 A (m + 1) c (m : Int) (by omega) (by omega) h
  simpa using hcut
theorem clo_Made_union (x y : Bool) (W : World) : Calls Try.prog 43 #[.bool x, .bool y] W fun e w' => e = .returned (.bool (x || y)) ∧ w' = W := by
  cases x <;> cases y <;> (go_enter Try.func43, Try.ntmps43; go_wp2; go_ret; exact ⟨rfl, rfl⟩)
set_option maxRecDepth 100000 in
set_option maxHeartbeats 4000000 in
theorem Made_union (A1 A2 : Option Addr) (c1 c2 : Nat) (l1 l2 : List Sp) (w : World) (hr1 : Kd.C k39 w A1 l1.length l1) (hr2 : Kd.C k39 w A2 l2.length l2) (hc1 : l1.length ≤ c1) (hc2 : l2.length ≤ c2) : Calls Try.prog 42 #[.slice A1 l1.length c1, .slice A2 l2.length c2, .func (.func 43) #[] #[]] w fun e w' => ∃ v : Value, e = .returned (.tuple #[v, .int .i64 (sMade or l1 l2).2]) ∧ Kd.R k39 39 w' w.heap.size (fun _ => True) v (sMade or l1 l2).1 ∧ Below w.heap.size w w' := by
  have HS0 := Aside0.mk (Sta.start w)
  have H1 := Aside0.mk hr1
  have H2 := Aside0.mk hr2
  have HCC1 := Aside0.mk hc1
  have HCC2 := Aside0.mk hc2
  clear hr1 hr2 hc1 hc2
  go_enter Try.func42, Try.ntmps42
  go_wp2
  go_loopw [19] (fun s19 W => ∃ k : Nat, s19 = .int .i64 k ∧ k ≤ 2 ∧ Aside0 (∀ i, i < k → ckk l1 l2 i = 0) ∧ Aside0 (Sta w W (fun W => IsBlk W w.heap.size (.cells #[.slice A1 l1.length c1, .slice A2 l2.length c2] 22 (0, 0))))) (fun s19 _ => 2 - (intOf s19).toNat)
  case atStart => exact ⟨0, rfl, by omega, ⟨fun i hi => absurd hi (Nat.not_lt_zero _)⟩, ⟨below_alloc (Below.refl _ _) _, blk_new w _, keeps_blk _ _⟩⟩
  case round =>
    obtain ⟨k, rfl, hk, HZ, HS⟩ := hrel
    by_cases h1 : k < 2
    · obtain ⟨A0, c0, l0, hcell, hC0, hc0, hck⟩ : ∃ A0 c0 l0, wr.cell? ⟨w.heap.size, k, none⟩ = some (.slice A0 l0.length c0) ∧ Aside0 (Kd.C k39 w A0 l0.length l0) ∧ Aside0 (l0.length ≤ c0) ∧ ckk l1 l2 k = sCheck l0 := by
        have hbk := HS.out.now
        rcases (show k = 0 ∨ k = 1 by omega) with rfl | rfl
        · exact ⟨A1, c1, l1, hbk.cell 0, H1, HCC1, rfl⟩
        · exact ⟨A2, c2, l2, hbk.cell 1, H2, HCC2, rfl⟩
      have g2 : decide ((k : Int) < 2) = true := decide_eq_true (by omega)
      have hwk : wrap64 ((k : Int) + 1) = (k : Int) + 1 := by unfold wrap64; omega
      have hl0 : l0.length ≤ 9223372036854775807 := hC0.out.2.1
      have hcalls : ∀ W, Below wr.heap.size wr W → Calls Try.prog 14 #[.slice A0 l0.length c0] W fun e w' => e = .returned (.int .i64 (sCheck l0)) ∧ Below W.heap.size W w' := fun W hW =>
        charset_Check.calls (l0.length + 1) A0 c0 l0 _ W (Kd.C_below hC0.out (below_step HS.out.bel hW)) hc0.out (check_ff l0 (Nat.lt_succ_self _))
      obtain ⟨r, hrr⟩ : ∃ r, sCheck l0 = r := ⟨_, rfl⟩
      rw [hrr] at hcalls hck
      have HCK := Aside0.mk hcalls
      clear hcalls hrr hC0 hc0 hl0
      by_cases hz : r = 0
      · subst hz
        have HZ2 := Aside0.mk (show ∀ i, i < k + 1 → ckk l1 l2 i = 0 from fun i hi => by
          by_cases hik : i = k
          · rw [hik]; exact hck
          · exact HZ.out i (by omega))
        clear hck HZ
        go_wp2_with (go_at_call 14; refine (HCK.out _ (by repeat (first | exact Below.refl _ _ | apply zq2 | apply zq3 | apply zq4 | apply zq5))).mono ?_; rintro e w' ⟨rfl, hb⟩; have m_ := Aside0.mk (HS.out.call (by repeat (first | exact Below.refl _ _ | apply zq2 | apply zq3 | apply zq4 | apply zq5)) hb); clear HS hb; have HS := m_; clear m_)
        go_roundw
        case measure => (first | rw [hwk] | skip); show 2 - ((k : Int) + 1).toNat < 2 - (k : Int).toNat; omega
        case rel => exact ⟨k + 1, by (first | rw [hwk] | skip); rfl, by omega, HZ2, HS⟩
      · have hz1 : (r != 0) = true := bne_iff_ne.mpr hz
        have hfin : sMade or l1 l2 = ([], r) := by
          unfold sMade
          rcases (show k = 0 ∨ k = 1 by omega) with rfl | rfl
          · rw [if_pos (show sCheck l1 ≠ 0 from fun h => hz (hck.symm.trans h)), show sCheck l1 = r from hck]
          · rw [if_neg (show ¬ sCheck l1 ≠ 0 from fun h => h (HZ.out 0 (by omega))), if_pos (show sCheck l2 ≠ 0 from fun h => hz (hck.symm.trans h)), show sCheck l2 = r from hck]
        have HFIN := Aside0.mk hfin
        clear hfin hck HZ hz
        go_wp2_with (go_at_call 14; refine (HCK.out _ (by repeat (first | exact Below.refl _ _ | apply zq2 | apply zq3 | apply zq4 | apply zq5))).mono ?_; rintro e w' ⟨rfl, hb⟩; have m_ := Aside0.mk (HS.out.call (by repeat (first | exact Below.refl _ _ | apply zq2 | apply zq3 | apply zq4 | apply zq5)) hb); clear HS hb; have HS := m_; clear m_)
        go_ret2
        rw [HFIN.out]
        exact ⟨_, rfl, Kd.R_nil _ _ _ _ _, HS.out.bel⟩
    · have hk2 : k = 2 := by omega
      subst hk2
      have z1 : sCheck l1 = 0 := HZ.out 0 (by omega)
      have z2 : sCheck l2 = 0 := HZ.out 1 (by omega)
      obtain ⟨hl1, _, hs1⟩ := (sCheck_ok l1).1 z1
      obtain ⟨hl2, _, hs2⟩ := (sCheck_ok l2).1 z2
      have hmay : ∀ x ∈ l1 ++ l2, may x := fun x hx => (List.mem_append.1 hx).elim (fun h => may_of z1 h) (fun h => may_of z2 h)
      obtain ⟨m, hm, hm2⟩ : ∃ m, (cutsOf (l1 ++ l2)).length = m + 1 ∧ m ≤ 1100 := by
        have h8 : (0 : Int) ∈ cutsOf (l1 ++ l2) := ((cutsOf_ok _ hmay).2 0).2 (.inl (.inl rfl))
        have h9 := List.length_pos_of_mem h8
        have h7 := cuts_len (l1 ++ l2)
        rw [List.length_append] at h7
        exact ⟨(cutsOf (l1 ++ l2)).length - 1, by omega, by omega⟩
      have hct := fun (b : Nat) (W : World) (hb : IsBlk W b (.cells #[.slice A1 l1.length c1, .slice A2 l2.length c2] 22 (0, 0))) (hW : Below wr.heap.size wr W) => cuts_ok b A1 A2 c1 c2 l1 l2 W hb (Kd.C_below H1.out (below_step HS.out.bel hW)) (Kd.C_below H2.out (below_step HS.out.bel hW)) hl1 hl2 hmay
      have hfin : sMade or l1 l2 = (if 256 < (mkS (fun c => or (sHas l1 c) (sHas l2 c)) (cutsOf (l1 ++ l2)) []).length then ([], 5) else (mkS (fun c => or (sHas l1 c) (sHas l2 c)) (cutsOf (l1 ++ l2)) [], 0)) := by
        unfold sMade
        rw [if_neg (show ¬ sCheck l1 ≠ 0 from fun h => h z1), if_neg (show ¬ sCheck l2 ≠ 0 from fun h => h z2)]
      obtain ⟨cu, hcu⟩ : ∃ cu, cutsOf (l1 ++ l2) = cu := ⟨_, rfl⟩
      obtain ⟨f, hf⟩ : ∃ f : Int → Bool, (fun c => or (sHas l1 c) (sHas l2 c)) = f := ⟨_, rfl⟩
      have hfx : ∀ x, f x = or (sHas l1 x) (sHas l2 x) := fun x => by rw [← hf]
      rw [hcu, hf] at hfin
      rw [hcu] at hm hct
      rw [hm] at hct
      have HFIN := Aside0.mk hfin
      have HCT := Aside0.mk hct
      have HFX := Aside0.mk hfx
      have HLM := Aside0.mk hm
      clear hfin hct hfx hm hcu hf hmay hs1 hs2 hl1 hl2 z1 z2 HZ
      have hwa : wrap64 (m : Int) = (m : Int) := by unfold wrap64; omega
      have hwb : wrap64 ((m : Int) + 1 - 1) = (m : Int) := by unfold wrap64; omega
      go_wp2_with (go_at_call 47; refine (HCT.out _ _ (blk_new wr _) (by repeat (first | exact Below.refl _ _ | apply zq2 | apply zq3 | apply zq4 | apply zq5))).mono ?_; rintro e w3 ⟨A3, c3, rfl, hR, hb⟩; have HCR := Aside0.mk (Kd.R_lower hR (HS.out.step (by repeat (first | exact Below.refl _ _ | apply zq2 | apply zq3 | apply zq4 | apply zq5))).bel.size); clear hR; have m_ := Aside0.mk (HS.out.call (by repeat (first | exact Below.refl _ _ | apply zq2 | apply zq3 | apply zq4 | apply zq5)) hb); clear HS hb; have HS := m_; clear m_; have hcut := cutI m A3 c3 (Kd.R_reads' HCR.out).2.1; obtain ⟨g, c9, e3, _, hgl, _⟩ := Kd.R_form HCR.out (by have := HLM.out; omega); rw [HLM.out] at e3; cases e3)
      go_loopw [11, 39] (fun s11 s39 W => ∃ (k : Nat) (B2 : Option Addr) (d2 : Nat) (out : List Sp), s39 = .int .i64 k ∧ s11 = .slice B2 out.length d2 ∧ k ≤ m ∧ Aside0 (out.length ≤ k) ∧ Aside0 (mkS f (cu.drop k) out = mkS f cu []) ∧ Aside0 (Kd.R k39 39 W w3.heap.size (fun _ => True) (.slice B2 out.length d2) out) ∧ Aside0 (Below w3.heap.size w3 W)) (fun _ s39 _ => m - (intOf s39).toNat)
      case atStart => exact ⟨0, none, 0, [], rfl, rfl, Nat.zero_le _, ⟨Nat.le_refl _⟩, ⟨rfl⟩, ⟨Kd.R_nil _ _ _ _ _⟩, ⟨Below.refl _ _⟩⟩
      case round =>
        obtain ⟨k, B2, d2, out, rfl, rfl, hk, HOL, HMK, HO, HB2⟩ := hrel
        by_cases h1 : k < m
        · have g2 : decide (k < m) = true := decide_eq_true h1
          have hw : wrap64 ((k : Int) + 1) = (k : Int) + 1 := by unfold wrap64; omega
          have hcr := Kd.R_below HCR.out HB2.out
          have x0 := (cell_own hcr k (by omega)).1
          have x1 := (cell_own hcr (k + 1) (by omega)).1
          have hlm := HLM.out
          have hk0 : k < cu.length := by omega
          have hk1 : k + 1 < cu.length := by omega
          have e0 : rd cu (k : Int) = cu[k] := rdI hk0
          have e1 : rd cu ((k + 1 : Nat) : Int) = cu[k + 1] := rdI hk1
          rw [e0] at x0
          rw [e1] at x1
          have hmk := HMK.out
          rw [List.drop_eq_getElem_cons hk0, List.drop_eq_getElem_cons hk1, show mkS f (cu[k] :: cu[k + 1] :: cu.drop (k + 1 + 1)) out = mkS f (cu[k + 1] :: cu.drop (k + 1 + 1)) (if f cu[k] then sAdd out cu[k] cu[k + 1] else out) from rfl, ← List.drop_eq_getElem_cons hk1, HFX.out] at hmk
          obtain ⟨a, ha⟩ : ∃ a, cu[k] = a := ⟨_, rfl⟩
          obtain ⟨a2, ha2⟩ : ∃ a, cu[k + 1] = a := ⟨_, rfl⟩
          rw [ha] at x0 hmk
          rw [ha2] at x1 hmk
          clear e0 e1 hlm hcr HMK ha ha2 hk0 hk1
          have hh1 := fun W (hW : Below w3.heap.size w3 W) => Has_ok A1 c1 l1 a W (Kd.C_below H1.out (below_step HS.out.bel hW))
          have hh2 := fun W (hW : Below w3.heap.size w3 W) => Has_ok A2 c2 l2 a W (Kd.C_below H2.out (below_step HS.out.bel hW))
          obtain ⟨b1, hb1⟩ : ∃ b, sHas l1 a = b := ⟨_, rfl⟩
          obtain ⟨b2, hb2⟩ : ∃ b, sHas l2 a = b := ⟨_, rfl⟩
          rw [hb1] at hh1 hmk
          rw [hb2] at hh2 hmk
          have hcl := clo_Made_union b1 b2
          have HH1 := Aside0.mk hh1
          have HH2 := Aside0.mk hh2
          have tk1 := True.intro
          have tk2 := True.intro
          clear hh1 hh2 hb1 hb2
          cases hp : or b1 b2 with
          | true =>
            rw [hp] at hcl hmk
            rw [if_pos rfl] at hmk
            have HCL := Aside0.mk hcl
            have HMK := Aside0.mk hmk
            have HPUT := Aside0.mk (put_eq out a a2 (by have := HOL.out; omega))
            clear hcl hmk hp
            go_wp2_with (first | (have _t := tk1; go_at_call 16; refine (HH1.out _ (by repeat (first | exact HB2.out | exact Below.refl _ _ | apply below_alloc | apply pw_below_drewN | apply below_drew1))).mono ?_; rintro e w' ⟨rfl, hb⟩; have x9 := cell_below x1 hb; clear x1; have x1 := x9; clear x9; have m_ := Aside0.mk (below_step (by repeat (first | exact HB2.out | exact Below.refl _ _ | apply below_alloc | apply pw_below_drewN | apply below_drew1)) hb); have n_ := Aside0.mk (Kd.R_below (by (with_reducible repeat (first | apply Kd.R_alloc | apply Kd.R_drewN | apply Kd.R_drew)); exact HO.out) hb); clear HB2 HO hb; have HB2 := m_; have HO := n_; clear m_ n_ tk1 _t) | (have _t := tk2; go_at_call 16; refine (HH2.out _ (by repeat (first | exact HB2.out | exact Below.refl _ _ | apply below_alloc | apply pw_below_drewN | apply below_drew1))).mono ?_; rintro e w' ⟨rfl, hb⟩; have x9 := cell_below x1 hb; clear x1; have x1 := x9; clear x9; have m_ := Aside0.mk (below_step (by repeat (first | exact HB2.out | exact Below.refl _ _ | apply below_alloc | apply pw_below_drewN | apply below_drew1)) hb); have n_ := Aside0.mk (Kd.R_below (by (with_reducible repeat (first | apply Kd.R_alloc | apply Kd.R_drewN | apply Kd.R_drew)); exact HO.out) hb); clear HB2 HO hb; have HB2 := m_; have HO := n_; clear m_ n_ tk2 _t) | (go_at_call 43; refine (HCL.out _).mono ?_; rintro e w' ⟨rfl, rfl⟩) | (go_at_call 48; refine (charset_put.calls (fun _ => True) _ out _ _ _ w3 _ (by repeat (first | exact HB2.out | exact Below.refl _ _ | apply below_alloc | apply pw_below_drewN | apply below_drew1)) (by (with_reducible repeat (first | apply Kd.R_alloc | apply Kd.R_drewN | apply Kd.R_drew)); exact HO.out) HPUT.out).mono ?_; rintro e w5 ⟨v5, rfl, hR5, hb5, _⟩; have n0_ := Aside0.mk hb5; have n1_ := Aside0.mk (Kd.R_mono hR5 (fun _ _ => trivial)); clear hR5 hb5))
            go_roundw
            case measure => (first | rw [hw] | skip); show m - ((k : Int) + 1).toNat < m - (k : Int).toNat; omega
            case rel =>
              obtain ⟨A4, c4, e3⟩ := Kd.R_slice n1_.out
              subst e3
              exact ⟨k + 1, A4, c4, _, by (first | rw [hw] | skip); rfl, rfl, by omega, ⟨by have := sAdd_len out a a2; have := HOL.out; omega⟩, HMK, n1_, n0_⟩
          | false =>
            rw [hp] at hcl hmk
            rw [if_neg (by simp)] at hmk
            have HCL := Aside0.mk hcl
            have HMK := Aside0.mk hmk
            clear hcl hmk hp
            go_wp2_with (first | (have _t := tk1; go_at_call 16; refine (HH1.out _ (by repeat (first | exact HB2.out | exact Below.refl _ _ | apply below_alloc | apply pw_below_drewN | apply below_drew1))).mono ?_; rintro e w' ⟨rfl, hb⟩; have x9 := cell_below x1 hb; clear x1; have x1 := x9; clear x9; have m_ := Aside0.mk (below_step (by repeat (first | exact HB2.out | exact Below.refl _ _ | apply below_alloc | apply pw_below_drewN | apply below_drew1)) hb); have n_ := Aside0.mk (Kd.R_below (by (with_reducible repeat (first | apply Kd.R_alloc | apply Kd.R_drewN | apply Kd.R_drew)); exact HO.out) hb); clear HB2 HO hb; have HB2 := m_; have HO := n_; clear m_ n_ tk1 _t) | (have _t := tk2; go_at_call 16; refine (HH2.out _ (by repeat (first | exact HB2.out | exact Below.refl _ _ | apply below_alloc | apply pw_below_drewN | apply below_drew1))).mono ?_; rintro e w' ⟨rfl, hb⟩; have x9 := cell_below x1 hb; clear x1; have x1 := x9; clear x9; have m_ := Aside0.mk (below_step (by repeat (first | exact HB2.out | exact Below.refl _ _ | apply below_alloc | apply pw_below_drewN | apply below_drew1)) hb); have n_ := Aside0.mk (Kd.R_below (by (with_reducible repeat (first | apply Kd.R_alloc | apply Kd.R_drewN | apply Kd.R_drew)); exact HO.out) hb); clear HB2 HO hb; have HB2 := m_; have HO := n_; clear m_ n_ tk2 _t) | (go_at_call 43; refine (HCL.out _).mono ?_; rintro e w' ⟨rfl, rfl⟩))
            go_roundw
            case measure => (first | rw [hw] | skip); show m - ((k : Int) + 1).toNat < m - (k : Int).toNat; omega
            case rel =>
              exact ⟨k + 1, B2, d2, out, by (first | rw [hw] | skip); rfl, rfl, by omega, ⟨by have := HOL.out; omega⟩, HMK, ⟨(by (with_reducible repeat (first | apply Kd.R_alloc | apply Kd.R_drewN | apply Kd.R_drew)); exact HO.out)⟩, ⟨(by repeat (first | exact HB2.out | exact Below.refl _ _ | apply below_alloc | apply pw_below_drewN | apply below_drew1))⟩⟩
        · have g2 : decide (k < m) = false := decide_eq_false h1
          have hfin2 : mkS f cu [] = out := by
            have hlm := HLM.out
            rw [← HMK.out, List.drop_eq_getElem_cons (by omega), List.drop_eq_nil_of_le (by omega)]
            rfl
          have hfin := HFIN.out
          rw [hfin2] at hfin
          clear HFIN HMK hfin2
          by_cases h9 : 256 < out.length
          · rw [if_pos h9] at hfin
            have g3 : decide (256 < (out.length : Int)) = true := decide_eq_true (by omega)
            have HFIN := Aside0.mk hfin
            clear hfin
            go_wp2
            go_ret2
            rw [HFIN.out]
            exact ⟨_, rfl, Kd.R_nil _ _ _ _ _, below_step HS.out.bel HB2.out⟩
          · rw [if_neg h9] at hfin
            have g3 : decide (256 < (out.length : Int)) = false := decide_eq_false (by omega)
            have HFIN := Aside0.mk hfin
            clear hfin
            go_wp2
            go_ret2
            rw [HFIN.out]
            exact ⟨_, rfl, Kd.R_lower HO.out HS.out.bel.size, below_step HS.out.bel HB2.out⟩
def pNot (x _ : Bool) : Bool := !x
theorem clo_Made_both (x y : Bool) (W : World) : Calls Try.prog 45 #[.bool x, .bool y] W fun e w' => e = .returned (.bool (and x y)) ∧ w' = W := by
  cases x <;> cases y <;> (go_enter Try.func45, Try.ntmps45; go_wp2; go_ret; exact ⟨rfl, rfl⟩)
theorem clo_Made_not (x y : Bool) (W : World) : Calls Try.prog 46 #[.bool x, .bool y] W fun e w' => e = .returned (.bool (pNot x y)) ∧ w' = W := by
  cases x <;> cases y <;> (go_enter Try.func46, Try.ntmps46; go_wp2; go_ret; exact ⟨rfl, rfl⟩)
set_option maxRecDepth 100000 in
set_option maxHeartbeats 4000000 in
theorem Made_both (A1 A2 : Option Addr) (c1 c2 : Nat) (l1 l2 : List Sp) (w : World) (hr1 : Kd.C k39 w A1 l1.length l1) (hr2 : Kd.C k39 w A2 l2.length l2) (hc1 : l1.length ≤ c1) (hc2 : l2.length ≤ c2) : Calls Try.prog 42 #[.slice A1 l1.length c1, .slice A2 l2.length c2, .func (.func 45) #[] #[]] w fun e w' => ∃ v : Value, e = .returned (.tuple #[v, .int .i64 (sMade and l1 l2).2]) ∧ Kd.R k39 39 w' w.heap.size (fun _ => True) v (sMade and l1 l2).1 ∧ Below w.heap.size w w' := by
  have HS0 := Aside0.mk (Sta.start w)
  have H1 := Aside0.mk hr1
  have H2 := Aside0.mk hr2
  have HCC1 := Aside0.mk hc1
  have HCC2 := Aside0.mk hc2
  clear hr1 hr2 hc1 hc2
  go_enter Try.func42, Try.ntmps42
  go_wp2
  go_loopw [19] (fun s19 W => ∃ k : Nat, s19 = .int .i64 k ∧ k ≤ 2 ∧ Aside0 (∀ i, i < k → ckk l1 l2 i = 0) ∧ Aside0 (Sta w W (fun W => IsBlk W w.heap.size (.cells #[.slice A1 l1.length c1, .slice A2 l2.length c2] 22 (0, 0))))) (fun s19 _ => 2 - (intOf s19).toNat)
  case atStart => exact ⟨0, rfl, by omega, ⟨fun i hi => absurd hi (Nat.not_lt_zero _)⟩, ⟨below_alloc (Below.refl _ _) _, blk_new w _, keeps_blk _ _⟩⟩
  case round =>
    obtain ⟨k, rfl, hk, HZ, HS⟩ := hrel
    by_cases h1 : k < 2
    · obtain ⟨A0, c0, l0, hcell, hC0, hc0, hck⟩ : ∃ A0 c0 l0, wr.cell? ⟨w.heap.size, k, none⟩ = some (.slice A0 l0.length c0) ∧ Aside0 (Kd.C k39 w A0 l0.length l0) ∧ Aside0 (l0.length ≤ c0) ∧ ckk l1 l2 k = sCheck l0 := by
        have hbk := HS.out.now
        rcases (show k = 0 ∨ k = 1 by omega) with rfl | rfl
        · exact ⟨A1, c1, l1, hbk.cell 0, H1, HCC1, rfl⟩
        · exact ⟨A2, c2, l2, hbk.cell 1, H2, HCC2, rfl⟩
      have g2 : decide ((k : Int) < 2) = true := decide_eq_true (by omega)
      have hwk : wrap64 ((k : Int) + 1) = (k : Int) + 1 := by unfold wrap64; omega
      have hl0 : l0.length ≤ 9223372036854775807 := hC0.out.2.1
      have hcalls : ∀ W, Below wr.heap.size wr W → Calls Try.prog 14 #[.slice A0 l0.length c0] W fun e w' => e = .returned (.int .i64 (sCheck l0)) ∧ Below W.heap.size W w' := fun W hW =>
        charset_Check.calls (l0.length + 1) A0 c0 l0 _ W (Kd.C_below hC0.out (below_step HS.out.bel hW)) hc0.out (check_ff l0 (Nat.lt_succ_self _))
      obtain ⟨r, hrr⟩ : ∃ r, sCheck l0 = r := ⟨_, rfl⟩
      rw [hrr] at hcalls hck
      have HCK := Aside0.mk hcalls
      clear hcalls hrr hC0 hc0 hl0
      by_cases hz : r = 0
      · subst hz
        have HZ2 := Aside0.mk (show ∀ i, i < k + 1 → ckk l1 l2 i = 0 from fun i hi => by
          by_cases hik : i = k
          · rw [hik]; exact hck
          · exact HZ.out i (by omega))
        clear hck HZ
        go_wp2_with (go_at_call 14; refine (HCK.out _ (by repeat (first | exact Below.refl _ _ | apply zq2 | apply zq3 | apply zq4 | apply zq5))).mono ?_; rintro e w' ⟨rfl, hb⟩; have m_ := Aside0.mk (HS.out.call (by repeat (first | exact Below.refl _ _ | apply zq2 | apply zq3 | apply zq4 | apply zq5)) hb); clear HS hb; have HS := m_; clear m_)
        go_roundw
        case measure => (first | rw [hwk] | skip); show 2 - ((k : Int) + 1).toNat < 2 - (k : Int).toNat; omega
        case rel => exact ⟨k + 1, by (first | rw [hwk] | skip); rfl, by omega, HZ2, HS⟩
      · have hz1 : (r != 0) = true := bne_iff_ne.mpr hz
        have hfin : sMade and l1 l2 = ([], r) := by
          unfold sMade
          rcases (show k = 0 ∨ k = 1 by omega) with rfl | rfl
          · rw [if_pos (show sCheck l1 ≠ 0 from fun h => hz (hck.symm.trans h)), show sCheck l1 = r from hck]
          · rw [if_neg (show ¬ sCheck l1 ≠ 0 from fun h => h (HZ.out 0 (by omega))), if_pos (show sCheck l2 ≠ 0 from fun h => hz (hck.symm.trans h)), show sCheck l2 = r from hck]
        have HFIN := Aside0.mk hfin
        clear hfin hck HZ hz
        go_wp2_with (go_at_call 14; refine (HCK.out _ (by repeat (first | exact Below.refl _ _ | apply zq2 | apply zq3 | apply zq4 | apply zq5))).mono ?_; rintro e w' ⟨rfl, hb⟩; have m_ := Aside0.mk (HS.out.call (by repeat (first | exact Below.refl _ _ | apply zq2 | apply zq3 | apply zq4 | apply zq5)) hb); clear HS hb; have HS := m_; clear m_)
        go_ret2
        rw [HFIN.out]
        exact ⟨_, rfl, Kd.R_nil _ _ _ _ _, HS.out.bel⟩
    · have hk2 : k = 2 := by omega
      subst hk2
      have z1 : sCheck l1 = 0 := HZ.out 0 (by omega)
      have z2 : sCheck l2 = 0 := HZ.out 1 (by omega)
      obtain ⟨hl1, _, hs1⟩ := (sCheck_ok l1).1 z1
      obtain ⟨hl2, _, hs2⟩ := (sCheck_ok l2).1 z2
      have hmay : ∀ x ∈ l1 ++ l2, may x := fun x hx => (List.mem_append.1 hx).elim (fun h => may_of z1 h) (fun h => may_of z2 h)
      obtain ⟨m, hm, hm2⟩ : ∃ m, (cutsOf (l1 ++ l2)).length = m + 1 ∧ m ≤ 1100 := by
        have h8 : (0 : Int) ∈ cutsOf (l1 ++ l2) := ((cutsOf_ok _ hmay).2 0).2 (.inl (.inl rfl))
        have h9 := List.length_pos_of_mem h8
        have h7 := cuts_len (l1 ++ l2)
        rw [List.length_append] at h7
        exact ⟨(cutsOf (l1 ++ l2)).length - 1, by omega, by omega⟩
      have hct := fun (b : Nat) (W : World) (hb : IsBlk W b (.cells #[.slice A1 l1.length c1, .slice A2 l2.length c2] 22 (0, 0))) (hW : Below wr.heap.size wr W) => cuts_ok b A1 A2 c1 c2 l1 l2 W hb (Kd.C_below H1.out (below_step HS.out.bel hW)) (Kd.C_below H2.out (below_step HS.out.bel hW)) hl1 hl2 hmay
      have hfin : sMade and l1 l2 = (if 256 < (mkS (fun c => and (sHas l1 c) (sHas l2 c)) (cutsOf (l1 ++ l2)) []).length then ([], 5) else (mkS (fun c => and (sHas l1 c) (sHas l2 c)) (cutsOf (l1 ++ l2)) [], 0)) := by
        unfold sMade
        rw [if_neg (show ¬ sCheck l1 ≠ 0 from fun h => h z1), if_neg (show ¬ sCheck l2 ≠ 0 from fun h => h z2)]
      obtain ⟨cu, hcu⟩ : ∃ cu, cutsOf (l1 ++ l2) = cu := ⟨_, rfl⟩
      obtain ⟨f, hf⟩ : ∃ f : Int → Bool, (fun c => and (sHas l1 c) (sHas l2 c)) = f := ⟨_, rfl⟩
      have hfx : ∀ x, f x = and (sHas l1 x) (sHas l2 x) := fun x => by rw [← hf]
      rw [hcu, hf] at hfin
      rw [hcu] at hm hct
      rw [hm] at hct
      have HFIN := Aside0.mk hfin
      have HCT := Aside0.mk hct
      have HFX := Aside0.mk hfx
      have HLM := Aside0.mk hm
      clear hfin hct hfx hm hcu hf hmay hs1 hs2 hl1 hl2 z1 z2 HZ
      have hwa : wrap64 (m : Int) = (m : Int) := by unfold wrap64; omega
      have hwb : wrap64 ((m : Int) + 1 - 1) = (m : Int) := by unfold wrap64; omega
      go_wp2_with (go_at_call 47; refine (HCT.out _ _ (blk_new wr _) (by repeat (first | exact Below.refl _ _ | apply zq2 | apply zq3 | apply zq4 | apply zq5))).mono ?_; rintro e w3 ⟨A3, c3, rfl, hR, hb⟩; have HCR := Aside0.mk (Kd.R_lower hR (HS.out.step (by repeat (first | exact Below.refl _ _ | apply zq2 | apply zq3 | apply zq4 | apply zq5))).bel.size); clear hR; have m_ := Aside0.mk (HS.out.call (by repeat (first | exact Below.refl _ _ | apply zq2 | apply zq3 | apply zq4 | apply zq5)) hb); clear HS hb; have HS := m_; clear m_; have hcut := cutI m A3 c3 (Kd.R_reads' HCR.out).2.1; obtain ⟨g, c9, e3, _, hgl, _⟩ := Kd.R_form HCR.out (by have := HLM.out; omega); rw [HLM.out] at e3; cases e3)
      go_loopw [11, 39] (fun s11 s39 W => ∃ (k : Nat) (B2 : Option Addr) (d2 : Nat) (out : List Sp), s39 = .int .i64 k ∧ s11 = .slice B2 out.length d2 ∧ k ≤ m ∧ Aside0 (out.length ≤ k) ∧ Aside0 (mkS f (cu.drop k) out = mkS f cu []) ∧ Aside0 (Kd.R k39 39 W w3.heap.size (fun _ => True) (.slice B2 out.length d2) out) ∧ Aside0 (Below w3.heap.size w3 W)) (fun _ s39 _ => m - (intOf s39).toNat)
      case atStart => exact ⟨0, none, 0, [], rfl, rfl, Nat.zero_le _, ⟨Nat.le_refl _⟩, ⟨rfl⟩, ⟨Kd.R_nil _ _ _ _ _⟩, ⟨Below.refl _ _⟩⟩
      case round =>
        obtain ⟨k, B2, d2, out, rfl, rfl, hk, HOL, HMK, HO, HB2⟩ := hrel
        by_cases h1 : k < m
        · have g2 : decide (k < m) = true := decide_eq_true h1
          have hw : wrap64 ((k : Int) + 1) = (k : Int) + 1 := by unfold wrap64; omega
          have hcr := Kd.R_below HCR.out HB2.out
          have x0 := (cell_own hcr k (by omega)).1
          have x1 := (cell_own hcr (k + 1) (by omega)).1
          have hlm := HLM.out
          have hk0 : k < cu.length := by omega
          have hk1 : k + 1 < cu.length := by omega
          have e0 : rd cu (k : Int) = cu[k] := rdI hk0
          have e1 : rd cu ((k + 1 : Nat) : Int) = cu[k + 1] := rdI hk1
          rw [e0] at x0
          rw [e1] at x1
          have hmk := HMK.out
          rw [List.drop_eq_getElem_cons hk0, List.drop_eq_getElem_cons hk1, show mkS f (cu[k] :: cu[k + 1] :: cu.drop (k + 1 + 1)) out = mkS f (cu[k + 1] :: cu.drop (k + 1 + 1)) (if f cu[k] then sAdd out cu[k] cu[k + 1] else out) from rfl, ← List.drop_eq_getElem_cons hk1, HFX.out] at hmk
          obtain ⟨a, ha⟩ : ∃ a, cu[k] = a := ⟨_, rfl⟩
          obtain ⟨a2, ha2⟩ : ∃ a, cu[k + 1] = a := ⟨_, rfl⟩
          rw [ha] at x0 hmk
          rw [ha2] at x1 hmk
          clear e0 e1 hlm hcr HMK ha ha2 hk0 hk1
          have hh1 := fun W (hW : Below w3.heap.size w3 W) => Has_ok A1 c1 l1 a W (Kd.C_below H1.out (below_step HS.out.bel hW))
          have hh2 := fun W (hW : Below w3.heap.size w3 W) => Has_ok A2 c2 l2 a W (Kd.C_below H2.out (below_step HS.out.bel hW))
          obtain ⟨b1, hb1⟩ : ∃ b, sHas l1 a = b := ⟨_, rfl⟩
          obtain ⟨b2, hb2⟩ : ∃ b, sHas l2 a = b := ⟨_, rfl⟩
          rw [hb1] at hh1 hmk
          rw [hb2] at hh2 hmk
          have hcl := clo_Made_both b1 b2
          have HH1 := Aside0.mk hh1
          have HH2 := Aside0.mk hh2
          have tk1 := True.intro
          have tk2 := True.intro
          clear hh1 hh2 hb1 hb2
          cases hp : and b1 b2 with
          | true =>
            rw [hp] at hcl hmk
            rw [if_pos rfl] at hmk
            have HCL := Aside0.mk hcl
            have HMK := Aside0.mk hmk
            have HPUT := Aside0.mk (put_eq out a a2 (by have := HOL.out; omega))
            clear hcl hmk hp
            go_wp2_with (first | (have _t := tk1; go_at_call 16; refine (HH1.out _ (by repeat (first | exact HB2.out | exact Below.refl _ _ | apply below_alloc | apply pw_below_drewN | apply below_drew1))).mono ?_; rintro e w' ⟨rfl, hb⟩; have x9 := cell_below x1 hb; clear x1; have x1 := x9; clear x9; have m_ := Aside0.mk (below_step (by repeat (first | exact HB2.out | exact Below.refl _ _ | apply below_alloc | apply pw_below_drewN | apply below_drew1)) hb); have n_ := Aside0.mk (Kd.R_below (by (with_reducible repeat (first | apply Kd.R_alloc | apply Kd.R_drewN | apply Kd.R_drew)); exact HO.out) hb); clear HB2 HO hb; have HB2 := m_; have HO := n_; clear m_ n_ tk1 _t) | (have _t := tk2; go_at_call 16; refine (HH2.out _ (by repeat (first | exact HB2.out | exact Below.refl _ _ | apply below_alloc | apply pw_below_drewN | apply below_drew1))).mono ?_; rintro e w' ⟨rfl, hb⟩; have x9 := cell_below x1 hb; clear x1; have x1 := x9; clear x9; have m_ := Aside0.mk (below_step (by repeat (first | exact HB2.out | exact Below.refl _ _ | apply below_alloc | apply pw_below_drewN | apply below_drew1)) hb); have n_ := Aside0.mk (Kd.R_below (by (with_reducible repeat (first | apply Kd.R_alloc | apply Kd.R_drewN | apply Kd.R_drew)); exact HO.out) hb); clear HB2 HO hb; have HB2 := m_; have HO := n_; clear m_ n_ tk2 _t) | (go_at_call 45; refine (HCL.out _).mono ?_; rintro e w' ⟨rfl, rfl⟩) | (go_at_call 48; refine (charset_put.calls (fun _ => True) _ out _ _ _ w3 _ (by repeat (first | exact HB2.out | exact Below.refl _ _ | apply below_alloc | apply pw_below_drewN | apply below_drew1)) (by (with_reducible repeat (first | apply Kd.R_alloc | apply Kd.R_drewN | apply Kd.R_drew)); exact HO.out) HPUT.out).mono ?_; rintro e w5 ⟨v5, rfl, hR5, hb5, _⟩; have n0_ := Aside0.mk hb5; have n1_ := Aside0.mk (Kd.R_mono hR5 (fun _ _ => trivial)); clear hR5 hb5))
            go_roundw
            case measure => (first | rw [hw] | skip); show m - ((k : Int) + 1).toNat < m - (k : Int).toNat; omega
            case rel =>
              obtain ⟨A4, c4, e3⟩ := Kd.R_slice n1_.out
              subst e3
              exact ⟨k + 1, A4, c4, _, by (first | rw [hw] | skip); rfl, rfl, by omega, ⟨by have := sAdd_len out a a2; have := HOL.out; omega⟩, HMK, n1_, n0_⟩
          | false =>
            rw [hp] at hcl hmk
            rw [if_neg (by simp)] at hmk
            have HCL := Aside0.mk hcl
            have HMK := Aside0.mk hmk
            clear hcl hmk hp
            go_wp2_with (first | (have _t := tk1; go_at_call 16; refine (HH1.out _ (by repeat (first | exact HB2.out | exact Below.refl _ _ | apply below_alloc | apply pw_below_drewN | apply below_drew1))).mono ?_; rintro e w' ⟨rfl, hb⟩; have x9 := cell_below x1 hb; clear x1; have x1 := x9; clear x9; have m_ := Aside0.mk (below_step (by repeat (first | exact HB2.out | exact Below.refl _ _ | apply below_alloc | apply pw_below_drewN | apply below_drew1)) hb); have n_ := Aside0.mk (Kd.R_below (by (with_reducible repeat (first | apply Kd.R_alloc | apply Kd.R_drewN | apply Kd.R_drew)); exact HO.out) hb); clear HB2 HO hb; have HB2 := m_; have HO := n_; clear m_ n_ tk1 _t) | (have _t := tk2; go_at_call 16; refine (HH2.out _ (by repeat (first | exact HB2.out | exact Below.refl _ _ | apply below_alloc | apply pw_below_drewN | apply below_drew1))).mono ?_; rintro e w' ⟨rfl, hb⟩; have x9 := cell_below x1 hb; clear x1; have x1 := x9; clear x9; have m_ := Aside0.mk (below_step (by repeat (first | exact HB2.out | exact Below.refl _ _ | apply below_alloc | apply pw_below_drewN | apply below_drew1)) hb); have n_ := Aside0.mk (Kd.R_below (by (with_reducible repeat (first | apply Kd.R_alloc | apply Kd.R_drewN | apply Kd.R_drew)); exact HO.out) hb); clear HB2 HO hb; have HB2 := m_; have HO := n_; clear m_ n_ tk2 _t) | (go_at_call 45; refine (HCL.out _).mono ?_; rintro e w' ⟨rfl, rfl⟩))
            go_roundw
            case measure => (first | rw [hw] | skip); show m - ((k : Int) + 1).toNat < m - (k : Int).toNat; omega
            case rel =>
              exact ⟨k + 1, B2, d2, out, by (first | rw [hw] | skip); rfl, rfl, by omega, ⟨by have := HOL.out; omega⟩, HMK, ⟨(by (with_reducible repeat (first | apply Kd.R_alloc | apply Kd.R_drewN | apply Kd.R_drew)); exact HO.out)⟩, ⟨(by repeat (first | exact HB2.out | exact Below.refl _ _ | apply below_alloc | apply pw_below_drewN | apply below_drew1))⟩⟩
        · have g2 : decide (k < m) = false := decide_eq_false h1
          have hfin2 : mkS f cu [] = out := by
            have hlm := HLM.out
            rw [← HMK.out, List.drop_eq_getElem_cons (by omega), List.drop_eq_nil_of_le (by omega)]
            rfl
          have hfin := HFIN.out
          rw [hfin2] at hfin
          clear HFIN HMK hfin2
          by_cases h9 : 256 < out.length
          · rw [if_pos h9] at hfin
            have g3 : decide (256 < (out.length : Int)) = true := decide_eq_true (by omega)
            have HFIN := Aside0.mk hfin
            clear hfin
            go_wp2
            go_ret2
            rw [HFIN.out]
            exact ⟨_, rfl, Kd.R_nil _ _ _ _ _, below_step HS.out.bel HB2.out⟩
          · rw [if_neg h9] at hfin
            have g3 : decide (256 < (out.length : Int)) = false := decide_eq_false (by omega)
            have HFIN := Aside0.mk hfin
            clear hfin
            go_wp2
            go_ret2
            rw [HFIN.out]
            exact ⟨_, rfl, Kd.R_lower HO.out HS.out.bel.size, below_step HS.out.bel HB2.out⟩
set_option maxRecDepth 100000 in
set_option maxHeartbeats 4000000 in
theorem Made_not (A1 A2 : Option Addr) (c1 c2 : Nat) (l1 l2 : List Sp) (w : World) (hr1 : Kd.C k39 w A1 l1.length l1) (hr2 : Kd.C k39 w A2 l2.length l2) (hc1 : l1.length ≤ c1) (hc2 : l2.length ≤ c2) : Calls Try.prog 42 #[.slice A1 l1.length c1, .slice A2 l2.length c2, .func (.func 46) #[] #[]] w fun e w' => ∃ v : Value, e = .returned (.tuple #[v, .int .i64 (sMade pNot l1 l2).2]) ∧ Kd.R k39 39 w' w.heap.size (fun _ => True) v (sMade pNot l1 l2).1 ∧ Below w.heap.size w w' := by
  have HS0 := Aside0.mk (Sta.start w)
  have H1 := Aside0.mk hr1
  have H2 := Aside0.mk hr2
  have HCC1 := Aside0.mk hc1
  have HCC2 := Aside0.mk hc2
  clear hr1 hr2 hc1 hc2
  go_enter Try.func42, Try.ntmps42
  go_wp2
  go_loopw [19] (fun s19 W => ∃ k : Nat, s19 = .int .i64 k ∧ k ≤ 2 ∧ Aside0 (∀ i, i < k → ckk l1 l2 i = 0) ∧ Aside0 (Sta w W (fun W => IsBlk W w.heap.size (.cells #[.slice A1 l1.length c1, .slice A2 l2.length c2] 22 (0, 0))))) (fun s19 _ => 2 - (intOf s19).toNat)
  case atStart => exact ⟨0, rfl, by omega, ⟨fun i hi => absurd hi (Nat.not_lt_zero _)⟩, ⟨below_alloc (Below.refl _ _) _, blk_new w _, keeps_blk _ _⟩⟩
  case round =>
    obtain ⟨k, rfl, hk, HZ, HS⟩ := hrel
    by_cases h1 : k < 2
    · obtain ⟨A0, c0, l0, hcell, hC0, hc0, hck⟩ : ∃ A0 c0 l0, wr.cell? ⟨w.heap.size, k, none⟩ = some (.slice A0 l0.length c0) ∧ Aside0 (Kd.C k39 w A0 l0.length l0) ∧ Aside0 (l0.length ≤ c0) ∧ ckk l1 l2 k = sCheck l0 := by
        have hbk := HS.out.now
        rcases (show k = 0 ∨ k = 1 by omega) with rfl | rfl
        · exact ⟨A1, c1, l1, hbk.cell 0, H1, HCC1, rfl⟩
        · exact ⟨A2, c2, l2, hbk.cell 1, H2, HCC2, rfl⟩
      have g2 : decide ((k : Int) < 2) = true := decide_eq_true (by omega)
      have hwk : wrap64 ((k : Int) + 1) = (k : Int) + 1 := by unfold wrap64; omega
      have hl0 : l0.length ≤ 9223372036854775807 := hC0.out.2.1
      have hcalls : ∀ W, Below wr.heap.size wr W → Calls Try.prog 14 #[.slice A0 l0.length c0] W fun e w' => e = .returned (.int .i64 (sCheck l0)) ∧ Below W.heap.size W w' := fun W hW =>
        charset_Check.calls (l0.length + 1) A0 c0 l0 _ W (Kd.C_below hC0.out (below_step HS.out.bel hW)) hc0.out (check_ff l0 (Nat.lt_succ_self _))
      obtain ⟨r, hrr⟩ : ∃ r, sCheck l0 = r := ⟨_, rfl⟩
      rw [hrr] at hcalls hck
      have HCK := Aside0.mk hcalls
      clear hcalls hrr hC0 hc0 hl0
      by_cases hz : r = 0
      · subst hz
        have HZ2 := Aside0.mk (show ∀ i, i < k + 1 → ckk l1 l2 i = 0 from fun i hi => by
          by_cases hik : i = k
          · rw [hik]; exact hck
          · exact HZ.out i (by omega))
        clear hck HZ
        go_wp2_with (go_at_call 14; refine (HCK.out _ (by repeat (first | exact Below.refl _ _ | apply zq2 | apply zq3 | apply zq4 | apply zq5))).mono ?_; rintro e w' ⟨rfl, hb⟩; have m_ := Aside0.mk (HS.out.call (by repeat (first | exact Below.refl _ _ | apply zq2 | apply zq3 | apply zq4 | apply zq5)) hb); clear HS hb; have HS := m_; clear m_)
        go_roundw
        case measure => (first | rw [hwk] | skip); show 2 - ((k : Int) + 1).toNat < 2 - (k : Int).toNat; omega
        case rel => exact ⟨k + 1, by (first | rw [hwk] | skip); rfl, by omega, HZ2, HS⟩
      · have hz1 : (r != 0) = true := bne_iff_ne.mpr hz
        have hfin : sMade pNot l1 l2 = ([], r) := by
          unfold sMade
          rcases (show k = 0 ∨ k = 1 by omega) with rfl | rfl
          · rw [if_pos (show sCheck l1 ≠ 0 from fun h => hz (hck.symm.trans h)), show sCheck l1 = r from hck]
          · rw [if_neg (show ¬ sCheck l1 ≠ 0 from fun h => h (HZ.out 0 (by omega))), if_pos (show sCheck l2 ≠ 0 from fun h => hz (hck.symm.trans h)), show sCheck l2 = r from hck]
        have HFIN := Aside0.mk hfin
        clear hfin hck HZ hz
        go_wp2_with (go_at_call 14; refine (HCK.out _ (by repeat (first | exact Below.refl _ _ | apply zq2 | apply zq3 | apply zq4 | apply zq5))).mono ?_; rintro e w' ⟨rfl, hb⟩; have m_ := Aside0.mk (HS.out.call (by repeat (first | exact Below.refl _ _ | apply zq2 | apply zq3 | apply zq4 | apply zq5)) hb); clear HS hb; have HS := m_; clear m_)
        go_ret2
        rw [HFIN.out]
        exact ⟨_, rfl, Kd.R_nil _ _ _ _ _, HS.out.bel⟩
    · have hk2 : k = 2 := by omega
      subst hk2
      have z1 : sCheck l1 = 0 := HZ.out 0 (by omega)
      have z2 : sCheck l2 = 0 := HZ.out 1 (by omega)
      obtain ⟨hl1, _, hs1⟩ := (sCheck_ok l1).1 z1
      obtain ⟨hl2, _, hs2⟩ := (sCheck_ok l2).1 z2
      have hmay : ∀ x ∈ l1 ++ l2, may x := fun x hx => (List.mem_append.1 hx).elim (fun h => may_of z1 h) (fun h => may_of z2 h)
      obtain ⟨m, hm, hm2⟩ : ∃ m, (cutsOf (l1 ++ l2)).length = m + 1 ∧ m ≤ 1100 := by
        have h8 : (0 : Int) ∈ cutsOf (l1 ++ l2) := ((cutsOf_ok _ hmay).2 0).2 (.inl (.inl rfl))
        have h9 := List.length_pos_of_mem h8
        have h7 := cuts_len (l1 ++ l2)
        rw [List.length_append] at h7
        exact ⟨(cutsOf (l1 ++ l2)).length - 1, by omega, by omega⟩
      have hct := fun (b : Nat) (W : World) (hb : IsBlk W b (.cells #[.slice A1 l1.length c1, .slice A2 l2.length c2] 22 (0, 0))) (hW : Below wr.heap.size wr W) => cuts_ok b A1 A2 c1 c2 l1 l2 W hb (Kd.C_below H1.out (below_step HS.out.bel hW)) (Kd.C_below H2.out (below_step HS.out.bel hW)) hl1 hl2 hmay
      have hfin : sMade pNot l1 l2 = (if 256 < (mkS (fun c => pNot (sHas l1 c) (sHas l2 c)) (cutsOf (l1 ++ l2)) []).length then ([], 5) else (mkS (fun c => pNot (sHas l1 c) (sHas l2 c)) (cutsOf (l1 ++ l2)) [], 0)) := by
        unfold sMade
        rw [if_neg (show ¬ sCheck l1 ≠ 0 from fun h => h z1), if_neg (show ¬ sCheck l2 ≠ 0 from fun h => h z2)]
      obtain ⟨cu, hcu⟩ : ∃ cu, cutsOf (l1 ++ l2) = cu := ⟨_, rfl⟩
      obtain ⟨f, hf⟩ : ∃ f : Int → Bool, (fun c => pNot (sHas l1 c) (sHas l2 c)) = f := ⟨_, rfl⟩
      have hfx : ∀ x, f x = pNot (sHas l1 x) (sHas l2 x) := fun x => by rw [← hf]
      rw [hcu, hf] at hfin
      rw [hcu] at hm hct
      rw [hm] at hct
      have HFIN := Aside0.mk hfin
      have HCT := Aside0.mk hct
      have HFX := Aside0.mk hfx
      have HLM := Aside0.mk hm
      clear hfin hct hfx hm hcu hf hmay hs1 hs2 hl1 hl2 z1 z2 HZ
      have hwa : wrap64 (m : Int) = (m : Int) := by unfold wrap64; omega
      have hwb : wrap64 ((m : Int) + 1 - 1) = (m : Int) := by unfold wrap64; omega
      go_wp2_with (go_at_call 47; refine (HCT.out _ _ (blk_new wr _) (by repeat (first | exact Below.refl _ _ | apply zq2 | apply zq3 | apply zq4 | apply zq5))).mono ?_; rintro e w3 ⟨A3, c3, rfl, hR, hb⟩; have HCR := Aside0.mk (Kd.R_lower hR (HS.out.step (by repeat (first | exact Below.refl _ _ | apply zq2 | apply zq3 | apply zq4 | apply zq5))).bel.size); clear hR; have m_ := Aside0.mk (HS.out.call (by repeat (first | exact Below.refl _ _ | apply zq2 | apply zq3 | apply zq4 | apply zq5)) hb); clear HS hb; have HS := m_; clear m_; have hcut := cutI m A3 c3 (Kd.R_reads' HCR.out).2.1; obtain ⟨g, c9, e3, _, hgl, _⟩ := Kd.R_form HCR.out (by have := HLM.out; omega); rw [HLM.out] at e3; cases e3)
      go_loopw [11, 39] (fun s11 s39 W => ∃ (k : Nat) (B2 : Option Addr) (d2 : Nat) (out : List Sp), s39 = .int .i64 k ∧ s11 = .slice B2 out.length d2 ∧ k ≤ m ∧ Aside0 (out.length ≤ k) ∧ Aside0 (mkS f (cu.drop k) out = mkS f cu []) ∧ Aside0 (Kd.R k39 39 W w3.heap.size (fun _ => True) (.slice B2 out.length d2) out) ∧ Aside0 (Below w3.heap.size w3 W)) (fun _ s39 _ => m - (intOf s39).toNat)
      case atStart => exact ⟨0, none, 0, [], rfl, rfl, Nat.zero_le _, ⟨Nat.le_refl _⟩, ⟨rfl⟩, ⟨Kd.R_nil _ _ _ _ _⟩, ⟨Below.refl _ _⟩⟩
      case round =>
        obtain ⟨k, B2, d2, out, rfl, rfl, hk, HOL, HMK, HO, HB2⟩ := hrel
        by_cases h1 : k < m
        · have g2 : decide (k < m) = true := decide_eq_true h1
          have hw : wrap64 ((k : Int) + 1) = (k : Int) + 1 := by unfold wrap64; omega
          have hcr := Kd.R_below HCR.out HB2.out
          have x0 := (cell_own hcr k (by omega)).1
          have x1 := (cell_own hcr (k + 1) (by omega)).1
          have hlm := HLM.out
          have hk0 : k < cu.length := by omega
          have hk1 : k + 1 < cu.length := by omega
          have e0 : rd cu (k : Int) = cu[k] := rdI hk0
          have e1 : rd cu ((k + 1 : Nat) : Int) = cu[k + 1] := rdI hk1
          rw [e0] at x0
          rw [e1] at x1
          have hmk := HMK.out
          rw [List.drop_eq_getElem_cons hk0, List.drop_eq_getElem_cons hk1, show mkS f (cu[k] :: cu[k + 1] :: cu.drop (k + 1 + 1)) out = mkS f (cu[k + 1] :: cu.drop (k + 1 + 1)) (if f cu[k] then sAdd out cu[k] cu[k + 1] else out) from rfl, ← List.drop_eq_getElem_cons hk1, HFX.out] at hmk
          obtain ⟨a, ha⟩ : ∃ a, cu[k] = a := ⟨_, rfl⟩
          obtain ⟨a2, ha2⟩ : ∃ a, cu[k + 1] = a := ⟨_, rfl⟩
          rw [ha] at x0 hmk
          rw [ha2] at x1 hmk
          clear e0 e1 hlm hcr HMK ha ha2 hk0 hk1
          have hh1 := fun W (hW : Below w3.heap.size w3 W) => Has_ok A1 c1 l1 a W (Kd.C_below H1.out (below_step HS.out.bel hW))
          have hh2 := fun W (hW : Below w3.heap.size w3 W) => Has_ok A2 c2 l2 a W (Kd.C_below H2.out (below_step HS.out.bel hW))
          obtain ⟨b1, hb1⟩ : ∃ b, sHas l1 a = b := ⟨_, rfl⟩
          obtain ⟨b2, hb2⟩ : ∃ b, sHas l2 a = b := ⟨_, rfl⟩
          rw [hb1] at hh1 hmk
          rw [hb2] at hh2 hmk
          have hcl := clo_Made_not b1 b2
          have HH1 := Aside0.mk hh1
          have HH2 := Aside0.mk hh2
          have tk1 := True.intro
          have tk2 := True.intro
          clear hh1 hh2 hb1 hb2
          cases hp : pNot b1 b2 with
          | true =>
            rw [hp] at hcl hmk
            rw [if_pos rfl] at hmk
            have HCL := Aside0.mk hcl
            have HMK := Aside0.mk hmk
            have HPUT := Aside0.mk (put_eq out a a2 (by have := HOL.out; omega))
            clear hcl hmk hp
            go_wp2_with (first | (have _t := tk1; go_at_call 16; refine (HH1.out _ (by repeat (first | exact HB2.out | exact Below.refl _ _ | apply below_alloc | apply pw_below_drewN | apply below_drew1))).mono ?_; rintro e w' ⟨rfl, hb⟩; have x9 := cell_below x1 hb; clear x1; have x1 := x9; clear x9; have m_ := Aside0.mk (below_step (by repeat (first | exact HB2.out | exact Below.refl _ _ | apply below_alloc | apply pw_below_drewN | apply below_drew1)) hb); have n_ := Aside0.mk (Kd.R_below (by (with_reducible repeat (first | apply Kd.R_alloc | apply Kd.R_drewN | apply Kd.R_drew)); exact HO.out) hb); clear HB2 HO hb; have HB2 := m_; have HO := n_; clear m_ n_ tk1 _t) | (have _t := tk2; go_at_call 16; refine (HH2.out _ (by repeat (first | exact HB2.out | exact Below.refl _ _ | apply below_alloc | apply pw_below_drewN | apply below_drew1))).mono ?_; rintro e w' ⟨rfl, hb⟩; have x9 := cell_below x1 hb; clear x1; have x1 := x9; clear x9; have m_ := Aside0.mk (below_step (by repeat (first | exact HB2.out | exact Below.refl _ _ | apply below_alloc | apply pw_below_drewN | apply below_drew1)) hb); have n_ := Aside0.mk (Kd.R_below (by (with_reducible repeat (first | apply Kd.R_alloc | apply Kd.R_drewN | apply Kd.R_drew)); exact HO.out) hb); clear HB2 HO hb; have HB2 := m_; have HO := n_; clear m_ n_ tk2 _t) | (go_at_call 46; refine (HCL.out _).mono ?_; rintro e w' ⟨rfl, rfl⟩) | (go_at_call 48; refine (charset_put.calls (fun _ => True) _ out _ _ _ w3 _ (by repeat (first | exact HB2.out | exact Below.refl _ _ | apply below_alloc | apply pw_below_drewN | apply below_drew1)) (by (with_reducible repeat (first | apply Kd.R_alloc | apply Kd.R_drewN | apply Kd.R_drew)); exact HO.out) HPUT.out).mono ?_; rintro e w5 ⟨v5, rfl, hR5, hb5, _⟩; have n0_ := Aside0.mk hb5; have n1_ := Aside0.mk (Kd.R_mono hR5 (fun _ _ => trivial)); clear hR5 hb5))
            go_roundw
            case measure => (first | rw [hw] | skip); show m - ((k : Int) + 1).toNat < m - (k : Int).toNat; omega
            case rel =>
              obtain ⟨A4, c4, e3⟩ := Kd.R_slice n1_.out
              subst e3
              exact ⟨k + 1, A4, c4, _, by (first | rw [hw] | skip); rfl, rfl, by omega, ⟨by have := sAdd_len out a a2; have := HOL.out; omega⟩, HMK, n1_, n0_⟩
          | false =>
            rw [hp] at hcl hmk
            rw [if_neg (by simp)] at hmk
            have HCL := Aside0.mk hcl
            have HMK := Aside0.mk hmk
            clear hcl hmk hp
            go_wp2_with (first | (have _t := tk1; go_at_call 16; refine (HH1.out _ (by repeat (first | exact HB2.out | exact Below.refl _ _ | apply below_alloc | apply pw_below_drewN | apply below_drew1))).mono ?_; rintro e w' ⟨rfl, hb⟩; have x9 := cell_below x1 hb; clear x1; have x1 := x9; clear x9; have m_ := Aside0.mk (below_step (by repeat (first | exact HB2.out | exact Below.refl _ _ | apply below_alloc | apply pw_below_drewN | apply below_drew1)) hb); have n_ := Aside0.mk (Kd.R_below (by (with_reducible repeat (first | apply Kd.R_alloc | apply Kd.R_drewN | apply Kd.R_drew)); exact HO.out) hb); clear HB2 HO hb; have HB2 := m_; have HO := n_; clear m_ n_ tk1 _t) | (have _t := tk2; go_at_call 16; refine (HH2.out _ (by repeat (first | exact HB2.out | exact Below.refl _ _ | apply below_alloc | apply pw_below_drewN | apply below_drew1))).mono ?_; rintro e w' ⟨rfl, hb⟩; have x9 := cell_below x1 hb; clear x1; have x1 := x9; clear x9; have m_ := Aside0.mk (below_step (by repeat (first | exact HB2.out | exact Below.refl _ _ | apply below_alloc | apply pw_below_drewN | apply below_drew1)) hb); have n_ := Aside0.mk (Kd.R_below (by (with_reducible repeat (first | apply Kd.R_alloc | apply Kd.R_drewN | apply Kd.R_drew)); exact HO.out) hb); clear HB2 HO hb; have HB2 := m_; have HO := n_; clear m_ n_ tk2 _t) | (go_at_call 46; refine (HCL.out _).mono ?_; rintro e w' ⟨rfl, rfl⟩))
            go_roundw
            case measure => (first | rw [hw] | skip); show m - ((k : Int) + 1).toNat < m - (k : Int).toNat; omega
            case rel =>
              exact ⟨k + 1, B2, d2, out, by (first | rw [hw] | skip); rfl, rfl, by omega, ⟨by have := HOL.out; omega⟩, HMK, ⟨(by (with_reducible repeat (first | apply Kd.R_alloc | apply Kd.R_drewN | apply Kd.R_drew)); exact HO.out)⟩, ⟨(by repeat (first | exact HB2.out | exact Below.refl _ _ | apply below_alloc | apply pw_below_drewN | apply below_drew1))⟩⟩
        · have g2 : decide (k < m) = false := decide_eq_false h1
          have hfin2 : mkS f cu [] = out := by
            have hlm := HLM.out
            rw [← HMK.out, List.drop_eq_getElem_cons (by omega), List.drop_eq_nil_of_le (by omega)]
            rfl
          have hfin := HFIN.out
          rw [hfin2] at hfin
          clear HFIN HMK hfin2
          by_cases h9 : 256 < out.length
          · rw [if_pos h9] at hfin
            have g3 : decide (256 < (out.length : Int)) = true := decide_eq_true (by omega)
            have HFIN := Aside0.mk hfin
            clear hfin
            go_wp2
            go_ret2
            rw [HFIN.out]
            exact ⟨_, rfl, Kd.R_nil _ _ _ _ _, below_step HS.out.bel HB2.out⟩
          · rw [if_neg h9] at hfin
            have g3 : decide (256 < (out.length : Int)) = false := decide_eq_false (by omega)
            have HFIN := Aside0.mk hfin
            clear hfin
            go_wp2
            go_ret2
            rw [HFIN.out]
            exact ⟨_, rfl, Kd.R_lower HO.out HS.out.bel.size, below_step HS.out.bel HB2.out⟩
set_option maxRecDepth 100000 in
set_option maxHeartbeats 4000000 in
theorem Union_ok (A1 A2 : Option Addr) (c1 c2 : Nat) (l1 l2 : List Sp) (w : World) (hr1 : Kd.C k39 w A1 l1.length l1) (hr2 : Kd.C k39 w A2 l2.length l2) (hc1 : l1.length ≤ c1) (hc2 : l2.length ≤ c2) :
    Calls Try.prog 20 #[.slice A1 l1.length c1, .slice A2 l2.length c2] w fun e w' => ∃ v : Value, e = .returned (.tuple #[v, .int .i64 (sMade or l1 l2).2]) ∧ Kd.R k39 39 w' w.heap.size (fun _ => True) v (sMade or l1 l2).1 ∧ Below w.heap.size w w' := by
  have HC := Aside0.mk (Made_union A1 A2 c1 c2 l1 l2 w hr1 hr2 hc1 hc2)
  clear hr1 hr2 hc1 hc2
  generalize sMade or l1 l2 = r at HC ⊢
  go_enter Try.func20, Try.ntmps20
  go_wp2_with (go_at_call 42; refine HC.out.mono ?_; rintro e w' ⟨v, rfl, hR, hb⟩; have HR := Aside0.mk hR; have HB := Aside0.mk hb; clear hR hb HC)
  go_ret2
  exact ⟨_, rfl, HR.out, HB.out⟩
set_option maxRecDepth 100000 in
set_option maxHeartbeats 4000000 in
theorem Both_ok (A1 A2 : Option Addr) (c1 c2 : Nat) (l1 l2 : List Sp) (w : World) (hr1 : Kd.C k39 w A1 l1.length l1) (hr2 : Kd.C k39 w A2 l2.length l2) (hc1 : l1.length ≤ c1) (hc2 : l2.length ≤ c2) :
    Calls Try.prog 22 #[.slice A1 l1.length c1, .slice A2 l2.length c2] w fun e w' => ∃ v : Value, e = .returned (.tuple #[v, .int .i64 (sMade and l1 l2).2]) ∧ Kd.R k39 39 w' w.heap.size (fun _ => True) v (sMade and l1 l2).1 ∧ Below w.heap.size w w' := by
  have HC := Aside0.mk (Made_both A1 A2 c1 c2 l1 l2 w hr1 hr2 hc1 hc2)
  clear hr1 hr2 hc1 hc2
  generalize sMade and l1 l2 = r at HC ⊢
  go_enter Try.func22, Try.ntmps22
  go_wp2_with (go_at_call 42; refine HC.out.mono ?_; rintro e w' ⟨v, rfl, hR, hb⟩; have HR := Aside0.mk hR; have HB := Aside0.mk hb; clear hR hb HC)
  go_ret2
  exact ⟨_, rfl, HR.out, HB.out⟩
set_option maxRecDepth 100000 in
set_option maxHeartbeats 4000000 in
theorem Not_ok (A1 : Option Addr) (c1 : Nat) (l1 : List Sp) (w : World) (hr1 : Kd.C k39 w A1 l1.length l1) (hc1 : l1.length ≤ c1) :
    Calls Try.prog 24 #[.slice A1 l1.length c1] w fun e w' => ∃ v : Value, e = .returned (.tuple #[v, .int .i64 (sMade pNot l1 []).2]) ∧ Kd.R k39 39 w' w.heap.size (fun _ => True) v (sMade pNot l1 []).1 ∧ Below w.heap.size w w' := by
  have HC := Aside0.mk (Made_not A1 none c1 0 l1 [] w hr1 (Kd.C_nil _ _) hc1 (Nat.le_refl _))
  clear hr1 hc1
  generalize sMade pNot l1 [] = r at HC ⊢
  go_enter Try.func24, Try.ntmps24
  go_wp2_with (go_at_call 42; refine HC.out.mono ?_; rintro e w' ⟨v, rfl, hR, hb⟩; have HR := Aside0.mk hR; have HB := Aside0.mk hb; clear hR hb HC)
  go_ret2
  exact ⟨_, rfl, HR.out, HB.out⟩
def flatSp (l : List Sp) : List Value := l.flatMap fun x => [.int .i64 x.f0, .int .i64 x.f1]
theorem flat_get : ∀ (l : List Sp) (j : Nat) (p : Sp), l[j]? = some p → (flatSp l)[j * 2]? = some (.int .i64 p.f0) ∧ (flatSp l)[j * 2 + 1]? = some (.int .i64 p.f1)
  | [], j, p, h => by simp at h
  | x :: l, 0, p, h => by
    obtain rfl : x = p := by simpa using h
    exact ⟨rfl, rfl⟩
  | x :: l, j + 1, p, h => by
    have ih := flat_get l j p (by simpa using h)
    rw [show (j + 1) * 2 = j * 2 + 1 + 1 by omega]
    exact ih
theorem lit_sp (W : World) (g : Nat) (l : List Sp) (cs : Array Value) (t : TypeId) (hg : W.heap.size = g) (hcs : cs.toList = flatSp l) (hn : l.length ≤ 9223372036854775807) : Kd.C k39 (W.alloc (.cells cs t)) (some ⟨g, 0, none⟩) l.length l := by
  subst hg
  refine ⟨rfl, hn, fun _ => ⟨_, rfl, fun j p hp => ⟨[.int .i64 p.f0, .int .i64 p.f1], rfl, k39_mk _ _, fun i u hi => ?_⟩⟩⟩
  have h := flat_get l j p hp
  show (W.alloc (.cells cs t)).cell? ((⟨W.heap.size, 0, none⟩ : Addr).add (j * 2 + i)) = some u
  rw [show (⟨W.heap.size, 0, none⟩ : Addr).add (j * 2 + i) = ⟨W.heap.size, j * 2 + i, none⟩ by simp [Addr.add]; omega, blk_cell (blk_new W _), ← Array.getElem?_toList, hcs]
  match i, hi with
  | 0, hi => rw [← hi]; exact h.1
  | 1, hi => rw [← hi]; exact h.2
  | i + 2, hi => simp at hi
theorem lit_i64 (W : World) (g : Nat) (l : List Int) (cs : Array Value) (t : TypeId) (hg : W.heap.size = g) (hcs : cs.toList = l.map (Value.int .i64)) (hn : l.length ≤ 9223372036854775807) : Kd.C (Kd.int .i64) (W.alloc (.cells cs t)) (some ⟨g, 0, none⟩) l.length l := by
  subst hg
  refine Kd.C_of_reads (d := 0) ⟨rfl, hn, fun _ => ⟨_, rfl, fun j hj => ?_⟩⟩
  rw [show (⟨W.heap.size, 0, none⟩ : Addr).add j = ⟨W.heap.size, j, none⟩ by simp [Addr.add]; omega, blk_cell (blk_new W _) j, ← Array.getElem?_toList, hcs]
  simp [List.getD, hj]
theorem wk_of : sOf [⟨3, 5⟩, ⟨1, 2⟩, ⟨5, 9⟩, ⟨4, 4⟩] = ([⟨1, 2⟩, ⟨3, 9⟩], 0) := by kernel_rfl
theorem wk_un : sMade or [⟨1, 3⟩] [⟨3, 5⟩] = ([⟨1, 5⟩], 0) := by kernel_rfl
theorem wk_bo : sMade and [⟨1, 4⟩] [⟨2, 9⟩] = ([⟨2, 4⟩], 0) := by kernel_rfl
theorem wk_no : sMade pNot [⟨1, 4⟩] [] = ([⟨0, 1⟩, ⟨4, 1114112⟩], 0) := by kernel_rfl
theorem read_of {l : List Sp} {v : Value} {base : Nat} {W : World} (h : Kd.R k39 39 W base (fun _ => True) v l) : ∃ A c, v = .slice A l.length c ∧ l.length ≤ c ∧ Kd.C k39 W A l.length l := by
  obtain ⟨A, c, rfl⟩ := Kd.R_slice h
  exact ⟨A, c, rfl, (Kd.R_reads' h).2⟩
theorem Of_w (W : World) (g : Nat) (hg : W.heap.size = g) : Calls Try.prog 11 #[.slice (some ⟨g, 0, none⟩) 4 4] (W.alloc (.cells #[.int .i64 3, .int .i64 5, .int .i64 1, .int .i64 2, .int .i64 5, .int .i64 9, .int .i64 4, .int .i64 4] 39)) fun e w' => ∃ A c, e = .returned (.tuple #[.slice A 2 c, .int .i64 0]) ∧ 2 ≤ c ∧ Kd.C k39 w' A 2 [⟨1, 2⟩, ⟨3, 9⟩] ∧ Below (W.alloc (.cells #[.int .i64 3, .int .i64 5, .int .i64 1, .int .i64 2, .int .i64 5, .int .i64 9, .int .i64 4, .int .i64 4] 39)).heap.size (W.alloc (.cells #[.int .i64 3, .int .i64 5, .int .i64 1, .int .i64 2, .int .i64 5, .int .i64 9, .int .i64 4, .int .i64 4] 39)) w' := by
  refine (Of_ok (some ⟨g, 0, none⟩) 4 [⟨3, 5⟩, ⟨1, 2⟩, ⟨5, 9⟩, ⟨4, 4⟩] _ (lit_sp W g _ _ _ hg rfl (by decide))).mono ?_
  rintro e w' ⟨v, rfl, hR, hb⟩
  rw [wk_of] at hR ⊢
  obtain ⟨A, c, rfl, hl, hC⟩ := read_of hR
  exact ⟨A, c, rfl, hl, hC, hb⟩
theorem set_w (a b : Int) (W : World) : Calls Try.prog 33 #[.int .i64 a, .int .i64 b] W fun e w' => ∃ A c, e = .returned (.slice A 1 c) ∧ 1 ≤ c ∧ Kd.C k39 w' A 1 [⟨a, b⟩] ∧ Below W.heap.size W w' := by
  refine (colophonlaw17_set.calls a b _ W rfl).mono ?_
  rintro e w' ⟨v, rfl, hR, hb⟩
  obtain ⟨A, c, rfl, hl, hC⟩ := read_of hR
  exact ⟨A, c, rfl, hl, hC, hb⟩
theorem Union_w (A1 A2 : Option Addr) (c1 c2 : Nat) (W : World) (h1 : Kd.C k39 W A1 1 [⟨1, 3⟩]) (h2 : Kd.C k39 W A2 1 [⟨3, 5⟩]) (hc1 : 1 ≤ c1) (hc2 : 1 ≤ c2) : Calls Try.prog 20 #[.slice A1 1 c1, .slice A2 1 c2] W fun e w' => ∃ A c, e = .returned (.tuple #[.slice A 1 c, .int .i64 0]) ∧ 1 ≤ c ∧ Kd.C k39 w' A 1 [⟨1, 5⟩] ∧ Below W.heap.size W w' := by
  refine (Union_ok A1 A2 c1 c2 [⟨1, 3⟩] [⟨3, 5⟩] W h1 h2 hc1 hc2).mono ?_
  rintro e w' ⟨v, rfl, hR, hb⟩
  rw [wk_un] at hR ⊢
  obtain ⟨A, c, rfl, hl, hC⟩ := read_of hR
  exact ⟨A, c, rfl, hl, hC, hb⟩
theorem Both_w (A1 A2 : Option Addr) (c1 c2 : Nat) (W : World) (h1 : Kd.C k39 W A1 1 [⟨1, 4⟩]) (h2 : Kd.C k39 W A2 1 [⟨2, 9⟩]) (hc1 : 1 ≤ c1) (hc2 : 1 ≤ c2) : Calls Try.prog 22 #[.slice A1 1 c1, .slice A2 1 c2] W fun e w' => ∃ A c, e = .returned (.tuple #[.slice A 1 c, .int .i64 0]) ∧ 1 ≤ c ∧ Kd.C k39 w' A 1 [⟨2, 4⟩] ∧ Below W.heap.size W w' := by
  refine (Both_ok A1 A2 c1 c2 [⟨1, 4⟩] [⟨2, 9⟩] W h1 h2 hc1 hc2).mono ?_
  rintro e w' ⟨v, rfl, hR, hb⟩
  rw [wk_bo] at hR ⊢
  obtain ⟨A, c, rfl, hl, hC⟩ := read_of hR
  exact ⟨A, c, rfl, hl, hC, hb⟩
theorem Not_w (A1 : Option Addr) (c1 : Nat) (W : World) (h1 : Kd.C k39 W A1 1 [⟨1, 4⟩]) (hc1 : 1 ≤ c1) : Calls Try.prog 24 #[.slice A1 1 c1] W fun e w' => ∃ A c, e = .returned (.tuple #[.slice A 2 c, .int .i64 0]) ∧ 2 ≤ c ∧ Kd.C k39 w' A 2 [⟨0, 1⟩, ⟨4, 1114112⟩] ∧ Below W.heap.size W w' := by
  refine (Not_ok A1 c1 [⟨1, 4⟩] W h1 hc1).mono ?_
  rintro e w' ⟨v, rfl, hR, hb⟩
  rw [wk_no] at hR ⊢
  obtain ⟨A, c, rfl, hl, hC⟩ := read_of hR
  exact ⟨A, c, rfl, hl, hC, hb⟩
theorem is_w (A : Option Addr) (c : Nat) (l : List Sp) (x : List Int) (W : World) (g : Nat) (hg : W.heap.size = g) {cs : Array Value} {t : TypeId} (hcs : cs.toList = x.map (Value.int .i64)) (hn : x.length ≤ 9223372036854775807) (hc : l.length ≤ c) (h : Kd.C k39 (W.alloc (.cells cs t)) A l.length l) (hf : colophonlaw17_is.f 10 l 0 x = some true) :
    Calls Try.prog 34 #[.slice A l.length c, .int .i64 0, .slice (some ⟨g, 0, none⟩) x.length x.length] (W.alloc (.cells cs t)) fun e w' => e = .returned (.bool true) ∧ Below (W.alloc (.cells cs t)).heap.size (W.alloc (.cells cs t)) w' :=
  (colophonlaw17_is.calls 10 A c l 0 _ _ x true _ h hc (lit_i64 W g x cs t hg hcs hn) (Nat.le_refl _) hf).mono fun _ _ ⟨he, hd⟩ => ⟨he, hd.below⟩
theorem Has_w (A : Option Addr) (c : Nat) (l : List Sp) (x : Int) (r : Bool) (W : World) (h : Kd.C k39 W A l.length l) (hr : sHas l x = r) : Calls Try.prog 16 #[.slice A l.length c, .int .i64 x] W fun e w' => e = .returned (.bool r) ∧ Below W.heap.size W w' := by
  rw [← hr]
  exact Has_ok A c l x W h
set_option maxRecDepth 100000 in
set_option maxHeartbeats 4000000 in
theorem works17_ok (w : World) : Calls Try.prog 19 #[] w fun e w' => e = .returned (.bool true) ∧ Below w.heap.size w w' := by
  have HS := Aside0.mk (Sta.start w)
  have t0 := True.intro
  have t1 := True.intro
  have t2 := True.intro
  have t3 := True.intro
  have t4 := True.intro
  have t5 := True.intro
  have t6 := True.intro
  have t7 := True.intro
  have t8 := True.intro
  have u0 := True.intro
  have u1 := True.intro
  have u2 := True.intro
  have u3 := True.intro
  have u4 := True.intro
  have u5 := True.intro
  go_enter Try.func19, Try.ntmps19
  go_wp2_with (first | (go_at_call 28; refine (colophonlaw17_span.calls _ _ _ _ _ rfl).mono ?_; rintro e w' ⟨rfl, hb⟩; have m_ := Aside0.mk (HS.out.call (by repeat (first | exact Below.refl _ _ | apply zq2 | apply zq3 | apply zq4 | apply zq5)) hb); clear HS hb; have HS := m_; clear m_) | (have _t := t0; go_at_call 11; refine (Of_w _ _ (by simp)).mono ?_; rintro e w' ⟨Ao, co, rfl, ho, hC, hb⟩; have m_ := Aside0.mk ((HS.out.call (by repeat (first | exact Below.refl _ _ | apply zq2 | apply zq3 | apply zq4 | apply zq5)) hb).add hC (keeps_C _ _ _ _)); clear HS hb hC; have HS := m_; clear m_; clear t0 _t) | (have _t := t1; go_at_call 33; refine (set_w 1 3 _).mono ?_; rintro e w' ⟨A1, c1, rfl, h1, hC, hb⟩; have m_ := Aside0.mk ((HS.out.call (by repeat (first | exact Below.refl _ _ | apply zq2 | apply zq3 | apply zq4 | apply zq5)) hb).add hC (keeps_C _ _ _ _)); clear HS hb hC; have HS := m_; clear m_; clear t1 _t) | (have _t := t2; go_at_call 33; refine (set_w 3 5 _).mono ?_; rintro e w' ⟨A2, c2, rfl, h2, hC, hb⟩; have m_ := Aside0.mk ((HS.out.call (by repeat (first | exact Below.refl _ _ | apply zq2 | apply zq3 | apply zq4 | apply zq5)) hb).add hC (keeps_C _ _ _ _)); clear HS hb hC; have HS := m_; clear m_; clear t2 _t) | (have _t := t3; go_at_call 20; refine (Union_w A1 A2 c1 c2 _ (HS.out.step (by repeat (first | exact Below.refl _ _ | apply zq2 | apply zq3 | apply zq4 | apply zq5))).now.2.1 (HS.out.step (by repeat (first | exact Below.refl _ _ | apply zq2 | apply zq3 | apply zq4 | apply zq5))).now.1 h1 h2).mono ?_; rintro e w' ⟨Au, cu, rfl, hu, hC, hb⟩; have m_ := Aside0.mk ((HS.out.call (by repeat (first | exact Below.refl _ _ | apply zq2 | apply zq3 | apply zq4 | apply zq5)) hb).add hC (keeps_C _ _ _ _)); clear HS hb hC; have HS := m_; clear m_; clear t3 _t) | (have _t := t4; go_at_call 33; refine (set_w 1 4 _).mono ?_; rintro e w' ⟨A3, c3, rfl, h3, hC, hb⟩; have m_ := Aside0.mk ((HS.out.call (by repeat (first | exact Below.refl _ _ | apply zq2 | apply zq3 | apply zq4 | apply zq5)) hb).add hC (keeps_C _ _ _ _)); clear HS hb hC; have HS := m_; clear m_; clear t4 _t) | (have _t := t5; go_at_call 33; refine (set_w 2 9 _).mono ?_; rintro e w' ⟨A4, c4, rfl, h4, hC, hb⟩; have m_ := Aside0.mk ((HS.out.call (by repeat (first | exact Below.refl _ _ | apply zq2 | apply zq3 | apply zq4 | apply zq5)) hb).add hC (keeps_C _ _ _ _)); clear HS hb hC; have HS := m_; clear m_; clear t5 _t) | (have _t := t6; go_at_call 22; refine (Both_w A3 A4 c3 c4 _ (HS.out.step (by repeat (first | exact Below.refl _ _ | apply zq2 | apply zq3 | apply zq4 | apply zq5))).now.2.1 (HS.out.step (by repeat (first | exact Below.refl _ _ | apply zq2 | apply zq3 | apply zq4 | apply zq5))).now.1 h3 h4).mono ?_; rintro e w' ⟨Ab, cb, rfl, hb2, hC, hb⟩; have m_ := Aside0.mk ((HS.out.call (by repeat (first | exact Below.refl _ _ | apply zq2 | apply zq3 | apply zq4 | apply zq5)) hb).add hC (keeps_C _ _ _ _)); clear HS hb hC; have HS := m_; clear m_; clear t6 _t) | (have _t := t7; go_at_call 33; refine (set_w 1 4 _).mono ?_; rintro e w' ⟨A5, c5, rfl, h5, hC, hb⟩; have m_ := Aside0.mk ((HS.out.call (by repeat (first | exact Below.refl _ _ | apply zq2 | apply zq3 | apply zq4 | apply zq5)) hb).add hC (keeps_C _ _ _ _)); clear HS hb hC; have HS := m_; clear m_; clear t7 _t) | (have _t := t8; go_at_call 24; refine (Not_w A5 c5 _ (HS.out.step (by repeat (first | exact Below.refl _ _ | apply zq2 | apply zq3 | apply zq4 | apply zq5))).now.1 h5).mono ?_; rintro e w' ⟨An, cn, rfl, hn, hC, hb⟩; have m_ := Aside0.mk ((HS.out.call (by repeat (first | exact Below.refl _ _ | apply zq2 | apply zq3 | apply zq4 | apply zq5)) hb).add hC (keeps_C _ _ _ _)); clear HS hb hC; have HS := m_; clear m_; clear t8 _t) | (have _t := u0; go_at_call 34; refine (is_w Ao co [⟨1, 2⟩, ⟨3, 9⟩] [1, 2, 3, 9] _ _ (by simp) rfl (by decide) ho (HS.out.step (by repeat (first | exact Below.refl _ _ | apply zq2 | apply zq3 | apply zq4 | apply zq5))).now.2.2.2.2.2.2.2.2.1 (by kernel_rfl)).mono ?_; rintro e w' ⟨rfl, hb⟩; have m_ := Aside0.mk (HS.out.call (by repeat (first | exact Below.refl _ _ | apply zq2 | apply zq3 | apply zq4 | apply zq5)) hb); clear HS hb; have HS := m_; clear m_; clear u0 _t) | (have _t := u1; go_at_call 34; refine (is_w Au cu [⟨1, 5⟩] [1, 5] _ _ (by simp) rfl (by decide) hu (HS.out.step (by repeat (first | exact Below.refl _ _ | apply zq2 | apply zq3 | apply zq4 | apply zq5))).now.2.2.2.2.2.1 (by kernel_rfl)).mono ?_; rintro e w' ⟨rfl, hb⟩; have m_ := Aside0.mk (HS.out.call (by repeat (first | exact Below.refl _ _ | apply zq2 | apply zq3 | apply zq4 | apply zq5)) hb); clear HS hb; have HS := m_; clear m_; clear u1 _t) | (have _t := u2; go_at_call 34; refine (is_w Ab cb [⟨2, 4⟩] [2, 4] _ _ (by simp) rfl (by decide) hb2 (HS.out.step (by repeat (first | exact Below.refl _ _ | apply zq2 | apply zq3 | apply zq4 | apply zq5))).now.2.2.1 (by kernel_rfl)).mono ?_; rintro e w' ⟨rfl, hb⟩; have m_ := Aside0.mk (HS.out.call (by repeat (first | exact Below.refl _ _ | apply zq2 | apply zq3 | apply zq4 | apply zq5)) hb); clear HS hb; have HS := m_; clear m_; clear u2 _t) | (have _t := u3; go_at_call 34; refine (is_w An cn [⟨0, 1⟩, ⟨4, 1114112⟩] [0, 1, 4, 1114112] _ _ (by simp) rfl (by decide) hn (HS.out.step (by repeat (first | exact Below.refl _ _ | apply zq2 | apply zq3 | apply zq4 | apply zq5))).now.1 (by kernel_rfl)).mono ?_; rintro e w' ⟨rfl, hb⟩; have m_ := Aside0.mk (HS.out.call (by repeat (first | exact Below.refl _ _ | apply zq2 | apply zq3 | apply zq4 | apply zq5)) hb); clear HS hb; have HS := m_; clear m_; clear u3 _t) | (have _t := u4; go_at_call 16; refine ((Has_w Ao co [⟨1, 2⟩, ⟨3, 9⟩] 8 true _ (HS.out.step (by repeat (first | exact Below.refl _ _ | apply zq2 | apply zq3 | apply zq4 | apply zq5))).now.2.2.2.2.2.2.2.2.1 rfl)).mono ?_; rintro e w' ⟨rfl, hb⟩; have m_ := Aside0.mk (HS.out.call (by repeat (first | exact Below.refl _ _ | apply zq2 | apply zq3 | apply zq4 | apply zq5)) hb); clear HS hb; have HS := m_; clear m_; clear u4 _t) | (have _t := u5; go_at_call 16; refine ((Has_w Ao co [⟨1, 2⟩, ⟨3, 9⟩] 2 false _ (HS.out.step (by repeat (first | exact Below.refl _ _ | apply zq2 | apply zq3 | apply zq4 | apply zq5))).now.2.2.2.2.2.2.2.2.1 rfl)).mono ?_; rintro e w' ⟨rfl, hb⟩; have m_ := Aside0.mk (HS.out.call (by repeat (first | exact Below.refl _ _ | apply zq2 | apply zq3 | apply zq4 | apply zq5)) hb); clear HS hb; have HS := m_; clear m_; clear u5 _t))
  go_ret
  exact ⟨rfl, HS.out.bel⟩
theorem foldl_len : ∀ (l s : List Sp), (l.foldl sMrg s).length ≤ s.length + l.length
  | [], s => Nat.le_refl _
  | x :: l, s => by
    have h1 := foldl_len l (sMrg s x)
    have h2 := sMrg_len s x
    rw [List.foldl_cons, List.length_cons]
    omega
theorem sOf_good (l : List Sp) : sCheck (sOf l).1 = 0 := by
  have h0 : sCheck [] = 0 := rfl
  unfold sOf
  split
  · exact h0
  · rename_i hl
    split
    · rename_i ha
      have hm : ∀ x ∈ l, may x := fun x hx => (mayB_iff x).1 (List.all_eq_true.1 ha x hx)
      obtain ⟨srt, hp, hs⟩ : ∃ srt : List Sp, srt.Perm (l.filter fun x => decide (x.f0 < x.f1)) ∧ srt.Pairwise (fun a b => a.f0 ≤ b.f0) := by
        refine ⟨(l.filter fun x => decide (x.f0 < x.f1)).mergeSort (fun a b => decide (a.f0 ≤ b.f0)), List.mergeSort_perm _ _, ?_⟩
        have := List.pairwise_mergeSort (le := fun a b : Sp => decide (a.f0 ≤ b.f0)) (by simp; omega) (by simp; omega) (l.filter fun x => decide (x.f0 < x.f1))
        exact this.imp (by simp)
      have hmem : ∀ x ∈ srt, 0 ≤ x.f0 ∧ x.f0 < x.f1 ∧ x.f1 ≤ 1114112 := fun x hx => by
        have h1 := List.mem_filter.1 (hp.mem_iff.1 hx)
        have h2 := hm x h1.1
        unfold may at h2
        exact ⟨h2.1, by simpa using h1.2, h2.2.2⟩
      show sCheck (mkS (sHas l) (cutsOf l) []) = 0
      rw [← sOf_mrg l hm srt hp hs]
      have h1 := fold_mrg srt [] trivial (fun x hx => ⟨(hmem x hx).1, (hmem x hx).2.1⟩) hs (fun y hy => nomatch hy)
      refine (sCheck_ok _).2 ⟨?_, h1.1, fun x hx => ?_⟩
      · have h2 := foldl_len srt []
        have h3 := hp.length_eq
        have h4 := List.length_filter_le (fun x : Sp => decide (x.f0 < x.f1)) l
        simp at h2
        omega
      · have h2 := h1.1.all x hx
        have h3 : sHas (srt.foldl sMrg []) (x.f1 - 1) = true := List.any_eq_true.2 ⟨x, hx, (inS_iff x _).2 ⟨by omega, by omega⟩⟩
        rw [h1.2, sHas_nil, Bool.false_or] at h3
        obtain ⟨y, hy, hin⟩ := List.any_eq_true.1 h3
        have h4 := (inS_iff y _).1 hin
        have h5 := hmem y hy
        omega
    · exact h0
theorem cutS_to (A : Option Addr) (c n m : Nat) (h : m ≤ n) (hc : n ≤ c) : ∀ W1 : World, (Instr.slice 22 (.slice A n c) none (some (.int .i64 (m : Int))) none).run Try.prog W1 = .ok (.slice A m c) W1 := by
  obtain ⟨i0, hi0, _, hsz, _⟩ := info_parts info39
  have hcut := cut_to (P := Try.prog) 22 39 .i64 Try.underlying22 hi0 A n c (m : Int) (by omega) (by omega) hc
  simpa using hcut
theorem flat_len {l : List (List Sp)} (hs : ∀ s ∈ l, s.length ≤ 256) (k : Nat) : (l.take k).flatten.length ≤ 256 * k := by
  induction k generalizing l with
  | zero => simp
  | succ k ih =>
    cases l with
    | nil => simp
    | cons s l =>
      have h1 := ih (l := l) (fun t ht => hs t (List.mem_cons_of_mem _ ht))
      have h2 := hs s (by simp)
      rw [List.take_succ_cons, List.flatten_cons, List.length_append]
      omega
theorem flat_step {l : List (List Sp)} {k : Nat} (h : k < l.length) : (l.take (k + 1)).flatten = (l.take k).flatten ++ l[k] := by
  rw [List.take_succ_eq_append_getElem h, List.flatten_append]
  simp
theorem rdL {l : List (List Sp)} {i : Nat} (h : i < l.length) : rd_L2 l (i : Int) = l[i] := by simp [rd_L2, List.getD, h]
set_option maxRecDepth 100000 in
set_option maxHeartbeats 4000000 in
theorem cutsL_ok (A : Option Addr) (c : Nat) (l : List (List Sp)) (w : World) (hr : Kd.C (Kd.slice 39 k39) w A l.length l) (hl : l.length ≤ 40) (hs : ∀ s ∈ l, s.length ≤ 256) (hm : ∀ x ∈ l.flatten, may x) :
    Calls Try.prog 47 #[.slice A l.length c] w fun e w' => ∃ (A : Option Addr) (c : Nat), e = .returned (.slice A (cutsOf l.flatten).length c) ∧ Kd.R (Kd.int .i64) 3 w' w.heap.size (fun _ => True) (.slice A (cutsOf l.flatten).length c) (cutsOf l.flatten) ∧ Below w.heap.size w w' := by
  have H1 := Aside0.mk hr
  have HM := Aside0.mk hm
  have HSL := Aside0.mk hs
  clear hr hm hs
  go_enter Try.func47, Try.ntmps47
  go_wp2
  go_loopw [3, 11] (fun s3 s11 W => ∃ (k : Nat) (A3 : Option Addr) (c3 : Nat) (acc : List Int), s11 = .int .i64 k ∧ s3 = .slice A3 acc.length c3 ∧ k ≤ l.length ∧ Aside0 (acc.length = 2 + 2 * (l.take k).flatten.length) ∧ Aside0 (acc = [0, 1114112] ++ pts ((l.take k).flatten)) ∧ Aside0 (Kd.R (Kd.int .i64) 3 W w.heap.size (fun _ => True) (.slice A3 acc.length c3) acc) ∧ Aside0 (Below w.heap.size w W)) (fun _ s11 _ => l.length - (intOf s11).toNat)
  case atStart => exact ⟨0, _, _, [0, 1114112], rfl, rfl, by omega, ⟨rfl⟩, ⟨rfl⟩, ⟨lit_own2 _ _ _ _ (Nat.le_refl _)⟩, ⟨below_alloc (Below.refl _ _) _⟩⟩
  case round =>
    obtain ⟨k, A3, c3, acc, rfl, rfl, hk, HAL, HACC, HO, HB⟩ := hrel
    by_cases h1 : k < l.length
    · obtain ⟨ad, A0, c0, e0, hcell0, hl0c, hC00⟩ := at_L2 (Kd.C_below H1.out HB.out) (k : Int) (by omega) (by omega)
      obtain ⟨ad', A0', c0', e0', hcell0', hl0c', hC0w⟩ := at_L2 H1.out (k : Int) (by omega) (by omega)
      cases e0
      cases e0'
      have hcell := hcell0
      rw [Int.toNat_natCast] at hcell hcell0'
      have hcw := cell_below hcell0' HB.out
      rw [hcell] at hcw
      injection hcw with hcw
      injection hcw with e1 e2 e3
      subst e1; subst e3
      have hl0 := HSL.out l[k] (List.getElem_mem h1)
      have hpk := flat_step h1
      rw [rdL h1] at hcell hC0w
      obtain ⟨l0, hl0e⟩ : ∃ l0, l[k] = l0 := ⟨_, rfl⟩
      rw [hl0e] at hl0 hpk hcell hC0w
      have hC0 := Aside0.mk hC0w
      have hkl : (l.take k).flatten.length ≤ 256 * 40 := Nat.le_trans (flat_len HSL.out k) (by omega)
      have g2 : decide (k < l.length) = true := decide_eq_true (by omega)
      clear hl0e hC0w hC00 hcell0 hcell0' hl0c hl0c' e2
      have hwk : wrap64 ((k : Int) + 1) = (k : Int) + 1 := by unfold wrap64; omega
      have HPK := Aside0.mk hpk
      clear hpk
      go_wp2
      go_loopw [3, 17] (fun s3 s17 W => ∃ (j : Nat) (A3 : Option Addr) (c3 : Nat) (acc : List Int), s17 = .int .i64 j ∧ s3 = .slice A3 acc.length c3 ∧ j ≤ l0.length ∧ Aside0 (acc.length = 2 + 2 * ((l.take k).flatten.length + j)) ∧ Aside0 (acc = [0, 1114112] ++ pts ((l.take k).flatten ++ l0.take j)) ∧ Aside0 (Kd.R (Kd.int .i64) 3 W w.heap.size (fun _ => True) (.slice A3 acc.length c3) acc) ∧ Aside0 (Below w.heap.size w W)) (fun _ s17 _ => l0.length - (intOf s17).toNat)
      case atStart => exact ⟨0, A3, c3, acc, rfl, rfl, Nat.zero_le _, HAL, ⟨by rw [HACC.out, List.take_zero, List.append_nil]⟩, HO, HB⟩
      case round =>
        clear HACC HO HB HAL hcell
        obtain ⟨j, A3, c3, acc, rfl, rfl, hj, HAL, HACC, HO, HB⟩ := hrel
        by_cases h2 : j < l0.length
        · have g3 : decide (j < l0.length) = true := decide_eq_true h2
          obtain ⟨ad, e1, y0, y1⟩ := at_T39 (Kd.C_below hC0.out HB.out) (j : Int) (by omega) (by omega)
          cases e1
          rw [Int.toNat_natCast] at y0 y1
          have hw : wrap64 ((j : Int) + 1) = (j : Int) + 1 := by unfold wrap64; omega
          have hx : rd_T39 l0 (j : Int) = l0[j] := rdS h2
          have hacc2 : acc ++ [l0[j].f0, l0[j].f1] = [0, 1114112] ++ pts ((l.take k).flatten ++ l0.take (j + 1)) := by
            rw [List.take_succ_eq_append_getElem h2, ← List.append_assoc (l.take k).flatten, pts_app ((l.take k).flatten ++ l0.take j), ← List.append_assoc, ← HACC.out]
            rfl
          rw [← hx] at hacc2
          have HA2 := Aside0.mk hacc2
          clear hacc2 hx HACC
          generalize rd_T39 l0 (j : Int) = x at *
          go_wp2_with ((with_reducible refine gate_builtin (b := .append) (xs := #[.tmp 21, .tmp 26]) rfl ?_); at_builtin; go_loud (refine Kd.R_append_rows (Kd.int .i64) (w0 := w) w.heap.size rfl (.tmp 21) (.tmp 26) 53 3 (.int .i64 0) 8 rfl Try.underlying53 info3 rfl (by decide) (by omega) (.slice A3 acc.length c3) acc [x.f0, x.f1] _ _ _ (fun _ => True) (fun _ => False) rfl rfl ?aO ?aR (fun _ _ h => h) (fun _ h => h.elim) ?aF ?aB ?aS ?aL ?_; (case aR => (have h8 := (Kd.R_reads' (lit_own2 (wr.alloc (.cells #[.int .i64 x.f0, .int .i64 x.f1] 39)) w.heap.size x.f0 x.f1 (below_size (by repeat (first | exact HB.out | exact Below.refl _ _ | apply below_alloc | apply pw_below_drewN | apply below_drew1))))).2.2; rw [World.size_alloc] at h8; exact h8)); (case aB => exact (by repeat (first | exact HB.out | exact Below.refl _ _ | apply below_alloc | apply pw_below_drewN | apply below_drew1))); (case aF => exact (fun _ _ => trivial)); (case aO => exact (by (with_reducible repeat (first | apply Kd.R_alloc | apply Kd.R_drewN | apply Kd.R_drew)); exact HO.out)); (case aS => exact (below_size (by repeat (first | exact HB.out | exact Below.refl _ _ | apply below_alloc | apply pw_below_drewN | apply below_drew1)))); (case aL => have h7 := HAL.out; simp; omega); intro v3 w3 ho hb hg hat; have n0_ := Aside0.mk hb; have n1_ := Aside0.mk ho; clear ho hb hg hat))
          go_roundw
          case measure => (first | rw [hw] | skip); show l0.length - ((j : Int) + 1).toNat < l0.length - (j : Int).toNat; omega
          case rel =>
            obtain ⟨A4, c4, e3⟩ := Kd.R_slice n1_.out
            subst e3
            exact ⟨j + 1, A4, c4, _, by (first | rw [hw] | skip); rfl, rfl, by omega, ⟨by rw [List.length_append, HAL.out]; simp; omega⟩, HA2, n1_, n0_⟩
        · have g3 : decide (j < l0.length) = false := decide_eq_false h2
          have hjl : j = l0.length := by omega
          subst hjl
          rw [List.take_length, ← HPK.out] at HACC
          have hpl : (l.take (k + 1)).flatten.length = (l.take k).flatten.length + l0.length := by rw [HPK.out, List.length_append]
          have HPL := Aside0.mk hpl
          clear hpl
          go_wp2
          go_roundw
          case measure => (first | rw [hwk] | skip); show l.length - ((k : Int) + 1).toNat < l.length - (k : Int).toNat; omega
          case rel => exact ⟨k + 1, A3, c3, acc, by (first | rw [hwk] | skip); rfl, rfl, by omega, ⟨by rw [HAL.out, HPL.out]⟩, HACC, HO, HB⟩
    · have hk2 : k = l.length := by omega
      subst hk2
      have g2 : decide (l.length < l.length) = false := decide_eq_false (by omega)
      rw [List.take_length] at HAL HACC
      have hlen : l.flatten.length ≤ 256 * 40 := by
        have := flat_len HSL.out l.length
        rw [List.take_length] at this
        omega
      have hal := HAL.out
      have HS1 := Aside0.mk fun W (h : Kd.R (Kd.int .i64) 3 W w.heap.size (fun _ => True) (.slice A3 acc.length c3) acc) => SortI_ok A3 acc.length c3 acc _ _ W h (by omega) (by omega)
      have hms : (acc.mergeSort fun x y => decide (x ≤ y)).length = acc.length := List.length_mergeSort _
      have HS2 := Aside0.mk fun W (h : Kd.R (Kd.int .i64) 3 W w.heap.size (fun _ => True) (.slice A3 acc.length c3) (acc.mergeSort fun x y => decide (x ≤ y))) => CompI_ok A3 acc.length c3 _ _ _ W h (by omega) (by omega)
      have hce : Lib.compact (acc.mergeSort fun x y => decide (x ≤ y)) = cutsOf l.flatten := by
        rw [HACC.out]
        exact cuts_eq l.flatten HM.out
      rw [hce] at HS2
      clear hce hms hlen hal
      go_wp2_with (first | (go_at_call 56; refine (HS1.out _ HO.out).mono ?_; rintro e w3 ⟨rfl, ho, hg⟩; have hb3 := Aside0.mk (HB.out.grown hg HB.out.size (own_base (Kd.R_own HO.out).choose_spec)); have HO3 := Aside0.mk ho; clear HO HB ho hg) | (go_at_call 57; refine (HS2.out _ HO3.out).mono ?_; rintro e w4 ⟨rfl, ho, hg⟩; have hb4 := Aside0.mk (hb3.out.grown hg hb3.out.size (own_base (Kd.R_own HO3.out).choose_spec)); have HO4 := Aside0.mk ho; clear HO3 hb3 ho hg))
      go_ret
      exact ⟨A3, c3, rfl, HO4.out, hb4.out⟩
structure MpI {H : Type} (D : DataW H) (f : Lit → Option Int) : Prop where
  isMap : Maps.IsMap D
  yes : ∀ k c, f k = some c → Maps.has D k = true ∧ ∀ z, D.atKey k z = .lit (.int .i64 c)
  no : ∀ k, f k = none → Maps.has D k = false
theorem MpI.empty {H : Type} : MpI (.map [] : DataW H) (fun _ => none) := ⟨Maps.isMap_empty, fun _ _ h => (nomatch h), fun _ _ => rfl⟩
open Classical in
theorem MpI.put {H : Type} {D : DataW H} {f : Lit → Option Int} (h : MpI D f) {k : Lit} (hk : WideAt.IsKeyLit k) (c : Int) : MpI (D.put k (.lit (.int .i64 c))) (fun q => if q = k then some c else f q) := by
  refine ⟨h.isMap.put _ _, fun q x hq => ?_, fun q hq => ?_⟩
  · by_cases e : q = k
    · subst e
      rw [if_pos rfl] at hq
      cases hq
      exact ⟨Maps.has_put_same h.isMap hk _, fun z => Maps.atKey_put_same h.isMap hk _ z⟩
    · rw [if_neg e] at hq
      obtain ⟨h1, h2⟩ := h.yes q x hq
      exact ⟨(Maps.has_put_other e _).trans h1, fun z => (Maps.atKey_put_other e _ z).trans (h2 z)⟩
  · by_cases e : q = k
    · subst e
      rw [if_pos rfl] at hq
      cases hq
    · rw [if_neg e] at hq
      exact (Maps.has_put_other e _).trans (h.no q hq)
theorem MpI.congr {H : Type} {D : DataW H} {f g : Lit → Option Int} (h : MpI D f) (e : ∀ q, f q = g q) : MpI D g := by
  have : f = g := funext e
  rwa [this] at h
def kindP (l : List (List Sp)) (c : Int) : Nat → Nat
  | 0 => 0
  | k + 1 => kindP l c k + (if sHas (l.getD k []) c then 2 ^ k else 0)
theorem kindP_lt (l : List (List Sp)) (c : Int) : ∀ k, kindP l c k < 2 ^ k
  | 0 => by simp [kindP]
  | k + 1 => by
    have := kindP_lt l c k
    rw [kindP, Nat.pow_succ]
    split <;> omega
def kindOf (l : List (List Sp)) (c : Int) : Int := (kindP l c l.length : Nat)
abbrev PSt := List Int × List (List Sp)
def pAdd (k a b : Int) (st : PSt) : PSt := if st.1.idxOf k = st.1.length then (st.1 ++ [k], st.2 ++ [sAdd [] a b]) else (st.1, st.2.set (st.1.idxOf k) (sAdd (st.2.getD (st.1.idxOf k) []) a b))
def pFold (f : Int → Int) : List Int → PSt → PSt
  | a :: b :: r, st => pFold f (b :: r) (pAdd (f a) a b st)
  | _, st => st
def firstErr : List (List Sp) → Int
  | [] => 0
  | s :: l => if sCheck s ≠ 0 then sCheck s else firstErr l
def sParts (l : List (List Sp)) : List (List Sp) × Int :=
  if 32 < l.length then ([], 5) else if firstErr l ≠ 0 then ([], firstErr l) else
    if (pFold (kindOf l) (cutsOf l.flatten) ([], [])).2.any (fun s => decide (256 < s.length)) then ([], 5) else ((pFold (kindOf l) (cutsOf l.flatten) ([], [])).2, 0)
theorem firstErr_all {l : List (List Sp)} (h : ∀ s ∈ l, sCheck s = 0) : firstErr l = 0 := by
  induction l with
  | nil => rfl
  | cons t l ih =>
    rw [firstErr, if_neg (fun h1 => h1 (h t (by simp)))]
    exact ih fun s hs => h s (List.mem_cons_of_mem _ hs)
theorem firstErr_at {l : List (List Sp)} {k : Nat} (hk : k < l.length) (h : ∀ i (hi : i < k), sCheck (l[i]'(by omega)) = 0) (he : sCheck l[k] ≠ 0) : firstErr l = sCheck l[k] := by
  induction l generalizing k with
  | nil => simp at hk
  | cons t l ih =>
    rw [firstErr]
    cases k with
    | zero => exact if_pos he
    | succ k =>
      rw [if_neg (fun h1 => h1 (h 0 (by omega)))]
      exact ih (by simpa using hk) (fun i hi => h (i + 1) (by omega)) he
theorem flat_may {l : List (List Sp)} (h : ∀ s ∈ l, sCheck s = 0) : ∀ x ∈ l.flatten, may x := fun x hx => by
  obtain ⟨s, hs, hx⟩ := List.mem_flatten.1 hx
  exact may_of (h s hs) hx
theorem PartsC_ok (A : Option Addr) (d n : Nat) (W : World) : Calls Try.prog 50 #[.slice A n d] W fun e w' => e = .returned (.bool (decide (256 < n))) ∧ w' = W := by
  by_cases h : 256 < n
  · have g : decide (256 < (n : Int)) = true := decide_eq_true (by omega)
    go_enter Try.func50, Try.ntmps50
    go_wp2
    go_ret
    exact ⟨by rw [decide_eq_true h]; rfl, rfl⟩
  · have g : decide (256 < (n : Int)) = false := decide_eq_false (by omega)
    go_enter Try.func50, Try.ntmps50
    go_wp2
    go_ret
    exact ⟨by rw [decide_eq_false h]; rfl, rfl⟩
set_option maxRecDepth 100000 in
set_option maxHeartbeats 2000000 in
theorem IdxL_ok (A : Option Addr) (d : Nat) (l : List (List Sp)) (w : World) (hr : Kd.C (Kd.slice 39 k39) w A l.length l) :
    Calls Try.prog 58 #[.slice A l.length d, .func (.func 50) #[] #[]] w fun e w' => ∃ r : Int, e = .returned (.int .i64 r) ∧ decide (0 ≤ r) = l.any (fun s => decide (256 < s.length)) ∧ w' = w := by
  have HR := Aside0.mk hr
  have hlm : l.length ≤ 9223372036854775807 := hr.2.1
  clear hr
  go_enter Try.func58, Try.ntmps58
  go_wp2
  go_loopw [8] (fun s8 W => ∃ k : Nat, s8 = .int .i64 k ∧ k ≤ l.length ∧ Aside0 ((l.take k).any (fun s => decide (256 < s.length)) = false) ∧ W = w) (fun s8 _ => l.length - (intOf s8).toNat)
  case atStart => exact ⟨0, rfl, Nat.zero_le _, ⟨rfl⟩, rfl⟩
  case round =>
    obtain ⟨k, rfl, hk, HN, rfl⟩ := hrel
    by_cases h1 : k < l.length
    · have g2 : decide (k < l.length) = true := decide_eq_true h1
      obtain ⟨ad, A0, c0, e0, hcell, hl0c, hC0⟩ := at_L2 HR.out (k : Int) (by omega) (by omega)
      cases e0
      rw [Int.toNat_natCast] at hcell
      rw [rdL h1] at hcell
      have ht : (l.take (k + 1)).any (fun s => decide (256 < s.length)) = ((l.take k).any (fun s => decide (256 < s.length)) || decide (256 < (l[k]).length)) := by
        rw [List.take_succ_eq_append_getElem h1, List.any_append]
        simp
      have hm : decide (256 < (l[k]).length) = true → l.any (fun s => decide (256 < s.length)) = true := fun h => List.any_eq_true.2 ⟨_, List.getElem_mem h1, h⟩
      rw [HN.out, Bool.false_or] at ht
      obtain ⟨n, hn⟩ : ∃ n, (l[k]).length = n := ⟨_, rfl⟩
      rw [hn] at hcell ht hm
      have hcl := fun W => PartsC_ok A0 c0 n W
      have hw : wrap64 ((k : Int) + 1) = (k : Int) + 1 := by unfold wrap64; omega
      have HT := Aside0.mk ht
      have HM := Aside0.mk hm
      clear ht hm hn hl0c hC0
      cases hx : decide (256 < n) with
      | true =>
        rw [hx] at HM hcl
        have HCL := Aside0.mk hcl
        have HM2 := Aside0.mk (HM.out rfl)
        clear hx HM HT hcl
        go_wp2_with (go_at_call 50; refine (HCL.out _).mono ?_; rintro e w' ⟨rfl, rfl⟩)
        go_ret
        exact ⟨k, rfl, by rw [HM2.out]; exact decide_eq_true (by omega), rfl⟩
      | false =>
        rw [hx] at HT hcl
        have HCL := Aside0.mk hcl
        clear hx HM hcl
        go_wp2_with (go_at_call 50; refine (HCL.out _).mono ?_; rintro e w' ⟨rfl, rfl⟩)
        go_roundw
        case measure => (first | rw [hw] | skip); show l.length - ((k : Int) + 1).toNat < l.length - (k : Int).toNat; omega
        case rel => exact ⟨k + 1, by (first | rw [hw] | skip); rfl, by omega, HT, trivial⟩
    · have g2 : decide (k < l.length) = false := decide_eq_false h1
      go_wp2
      go_ret
      refine ⟨-1, rfl, ?_, rfl⟩
      have := HN.out
      rw [List.take_of_length_le (by omega)] at this
      rw [this]
      rfl
set_option maxRecDepth 100000 in
set_option maxHeartbeats 2000000 in
theorem ConL_ok (A : Option Addr) (d : Nat) (l : List (List Sp)) (w : World) (hr : Kd.C (Kd.slice 39 k39) w A l.length l) :
    Calls Try.prog 49 #[.slice A l.length d, .func (.func 50) #[] #[]] w fun e w' => e = .returned (.bool (l.any (fun s => decide (256 < s.length)))) ∧ w' = w := by
  have HI := Aside0.mk (IdxL_ok A d l w hr)
  clear hr
  go_enter Try.func49, Try.ntmps49
  go_wp2_with (go_at_call 58; refine HI.out.mono ?_; rintro e w' ⟨r, rfl, hr, rfl⟩; have HR := Aside0.mk hr; clear hr)
  go_ret
  exact ⟨by rw [← HR.out]; rfl, rfl⟩
end Go.Proofs.Ytingbjdpjimikaa.B
namespace Go.Proofs.Ytingbjdpjimikaa.B
open Go.RowKit Go.Proofs Go.Proofs.YtingbjdpjimikaaW.PrintWords Go.Proofs.YtingbjdpjimikaaW.PrintLast Go.Proofs.YtingbjdpjimikaaW.PrintMore Go.Proofs.Ytingbjdpjimikaa.FBase
theorem ownsMap_move {H : Type} {P : Program} {k : TypeId} {R : Value → Option (DataW H × List MemPlace)} {W W' : World} {b n : Nat} {D : DataW H} (h : W.ownsMap P k R b n D) (e : W'.heap[b]? = W.heap[b]?) : W'.ownsMap P k R b n D := by
  obtain ⟨es, clock, hb, r⟩ := h
  exact ⟨es, clock, e.trans hb, r⟩
def idF (ks : List Int) : Lit → Option Int
  | .int .u32 x => if ks.idxOf x = ks.length then none else some (ks.idxOf x : Nat)
  | _ => none
theorem idF_nil (q : Lit) : (none : Option Int) = idF [] q := by
  unfold idF
  split <;> rfl
theorem or_step (x k : Nat) (hx : x < 2 ^ k) (hk : k < 32) : Go.bits BinOp.or .u32 (x : Int) (2 ^ k % 4294967296) = ((x + 2 ^ k : Nat) : Int) := by
  have hp : 2 ^ k < 2 ^ 32 := Nat.pow_lt_pow_right (by decide) hk
  have h1 : (2 : Int) ^ k % 4294967296 = ((2 ^ k : Nat) : Int) := by
    have e : (2 : Int) ^ k = ((2 ^ k : Nat) : Int) := by simp
    rw [e]
    omega
  rw [h1, (Go.bits_nat .u32 32 (by decide) (fun n h0 h1 => by rw [IntKind.wrap_u32]; omega) x (2 ^ k) (by omega) hp).2]
  have h2 := Nat.two_pow_add_eq_or_of_lt hx 1
  rw [Nat.mul_one] at h2
  rw [Nat.or_comm, ← h2, Nat.add_comm]
theorem zeroI (W : World) : (zeroValue 3).run Try.prog W = .ok (.int .i64 0) W := by kernel_rfl
theorem key_u32 {x : Int} (h0 : 0 ≤ x) (h1 : x < 4294967296) : keyOf Try.prog 64 (.int .u32 x) = some (.int .u32 x) := by
  have hw : (Lit.int .u32 x).wf = true := WalkArith.wf_u32 ⟨h0, by omega⟩
  simp [keyOf, mapKey, Try.underlying64, hw]
theorem run_look {W : World} {gm n : Nat} {D : DataW Unit} {f : Lit → Option Int} (h : W.ownsMap Try.prog 64 (plainElem Try.prog 3) gm n D) (hm : MpI D f) (x : Int) (h0 : 0 ≤ x) (h1 : x < 4294967296) :
    Sem.run Try.prog (Instr.lookup 62 (.map (some gm)) (.int .u32 x) true) W = .ok (.tuple #[.int .i64 ((f (.int .u32 x)).getD 0), .bool (f (.int .u32 x)).isSome]) W := by
  obtain ⟨v, ps, hrun, hv⟩ := h.look_ok (Maps.int_keyed Try.underlying64) Try.underlying62 (zeroI W) (zd := .lit (.int .i64 0)) (zp := []) (plainElem_int Try.underlying3 (by decide)) (key_u32 h0 h1)
  obtain ⟨c, rfl, hc, _⟩ := plainElem_int_inv Try.underlying3 hv
  have hc1 := congrArg Prod.fst hc
  cases hf : f (.int .u32 x) with
  | none =>
    have hn := hm.no _ hf
    rw [hn] at hrun
    rw [Maps.atKey_of_not_has hn] at hc1
    cases hc1
    exact hrun
  | some d =>
    obtain ⟨hy, ha⟩ := hm.yes _ _ hf
    rw [hy] at hrun
    rw [ha] at hc1
    cases hc1
    exact hrun
theorem run_upd {W : World} {gm n : Nat} {D : DataW Unit} (h : W.ownsMap Try.prog 64 (plainElem Try.prog 3) gm n D) (x : Int) (h0 : 0 ≤ x) (h1 : x < 4294967296) (c : Int) (c0 : 0 ≤ c) (c1 : c ≤ 9223372036854775807) (hn : n < maxLen) :
    ∃ w', Sem.run Try.prog (Instr.mapUpdate 62 (.map (some gm)) (.int .u32 x) (.int .i64 c)) W = .ok () w' ∧ w'.ownsMap Try.prog 64 (plainElem Try.prog 3) gm (n + 1) (D.put (.int .u32 x) (.lit (.int .i64 c))) ∧ W.mapTurned w' gm :=
  h.store (Maps.int_keyed Try.underlying64) Try.underlying62 hn (key_u32 h0 h1) (plainElem_int Try.underlying3 (WalkArith.wf_i64 ⟨by omega, c1⟩))
theorem idxOf_app (ks : List Int) (x y : Int) (h : ks.idxOf y = ks.length) : (ks ++ [y]).idxOf x = if x = y then ks.length else if ks.idxOf x = ks.length then ks.length + 1 else ks.idxOf x := by
  have hny : y ∉ ks := fun hm => by
    have := List.idxOf_lt_length_iff.2 hm
    omega
  by_cases hxy : x = y
  · subst hxy
    rw [if_pos rfl, List.idxOf_append, if_neg hny]
    simp
  · rw [if_neg hxy, List.idxOf_append]
    by_cases hx : x ∈ ks
    · rw [if_pos hx, if_neg (by have := List.idxOf_lt_length_iff.2 hx; omega)]
    · rw [if_neg hx, List.idxOf_eq_length hx, if_pos rfl]
      have : [y].idxOf x = 1 := by
        rw [List.idxOf_eq_length (by simpa using hxy)]
        rfl
      omega
open Classical in
theorem idF_put {D : DataW Unit} {ks : List Int} (h : MpI D (idF ks)) {y : Int} (hy : ks.idxOf y = ks.length) {n : Nat} (hn : ks.length = n) : MpI (D.put (.int .u32 y) (.lit (.int .i64 n))) (idF (ks ++ [y])) := by
  subst hn
  refine (h.put (k := .int .u32 y) trivial (ks.length : Int)).congr fun q => ?_
  by_cases hq : q = .int .u32 y
  · subst hq
    rw [if_pos rfl]
    show _ = if (ks ++ [y]).idxOf y = (ks ++ [y]).length then none else some ((ks ++ [y]).idxOf y : Int)
    rw [idxOf_app ks y y hy, if_pos rfl, if_neg (by simp)]
  · rw [if_neg hq]
    unfold idF
    split
    · rename_i x
      have hxy : x ≠ y := fun e => hq (by rw [e])
      rw [idxOf_app ks x y hy, if_neg hxy, List.length_append]
      have hle := List.idxOf_le_length (a := x) (l := ks)
      by_cases hx : ks.idxOf x = ks.length
      · rw [if_pos hx, if_pos hx, if_pos (by simp)]
      · rw [if_neg hx, if_neg hx, if_neg (by simp; omega)]
    · rfl
theorem infoSS : (Try.prog.info? 22).map (fun i => (i.zero, i.size, i.bytes)) = some (some (.slice none 0 0), 1, 24) := by kernel_rfl
theorem frozen_kept {W W2 : World} {S : Nat → Prop} {p : Addr} {v : Value} (hc : W.cell? p = some v) (hf : W.frozen? p = false) (hk : Kept W W2 S) (hne : ¬ S p.block) : W2.frozen? p = false := by
  have h := hk.2 p.block (World.block_lt_of_cell? W p hc) hne
  simp only [World.frozen?] at hf ⊢
  rw [h]
  exact hf
theorem put_c (oki : Nat → Prop) (v : Value) (s : List Sp) (a a2 : Int) (w W0 W : World) (hB : Below w.heap.size w W0) (hR : Kd.R k39 39 W0 w.heap.size oki v s) (hs : s.length ≤ 30000) (hW : Below W0.heap.size W0 W) :
    Calls Try.prog 48 #[v, .int .i64 a, .int .i64 a2] W fun e w' => ∃ A5 c5, e = .returned (.slice A5 (sAdd s a a2).length c5) ∧ Kd.R k39 39 w' w.heap.size (fun k => oki k ∨ W0.heap.size ≤ k) (.slice A5 (sAdd s a a2).length c5) (sAdd s a a2) ∧ Below w.heap.size w w' ∧ Kept W0 w' oki := by
  refine (charset_put.calls oki v s a a2 _ w W (below_step hB hW) (Kd.R_below hR hW) (put_eq s a a2 (by omega))).mono ?_
  rintro e w' ⟨v5, rfl, h1, h2, h3⟩
  obtain ⟨A5, c5, e5⟩ := Kd.R_slice h1
  subst e5
  exact ⟨A5, c5, rfl, Kd.R_mono h1 (fun k hk => hk.imp id (fun h => Nat.le_trans hW.size h)), h2, (Kept.of_below hW oki).then_ h3 (fun k hk => .inl hk)⟩
theorem set_bound {out : List (List Sp)} {j n : Nat} {s : List Sp} (h : ∀ t ∈ out, t.length ≤ j) (hs : out.getD n [] = s) (a b : Int) (n' : Nat) : ∀ t ∈ out.set n' (sAdd s a b), t.length ≤ j + 1 := by
  intro t ht
  rcases List.mem_or_eq_of_mem_set ht with h1 | h1
  · have := h t h1; omega
  · rw [h1]
    have h2 := sAdd_len s a b
    have h3 : s.length ≤ j := by
      rw [← hs, List.getD_eq_getElem?_getD]
      cases hg : out[n]? with
      | none => simp
      | some q => exact h q (List.mem_of_getElem? hg)
    omega
theorem ownsMap_set {H : Type} {P : Program} {k : TypeId} {R : Value → Option (DataW H × List MemPlace)} {W : World} {b n : Nat} {D : DataW H} (h : W.ownsMap P k R b n D) {p : Addr} (hp : b ≠ p.block) (u : Value) : (W.setCell p u).ownsMap P k R b n D :=
  ownsMap_move h (Below.heap_setCell W p u b hp)
theorem row_back {W7 w5 : World} {base B g7 n c7 n7 : Nat} {out7 : List (List Sp)} {oki : Nat → Prop} {vi : Value} {A5 : Option Addr} {c5 : Nat} {s' : List Sp}
    (hH : Kd.H (Kd.slice 39 k39) 22 W7 base (fun k => B ≤ k) (.slice (some ⟨g7, 0, none⟩) n c7) out7 (n7 : Int) (fun k => oki k ∨ B ≤ k ∧ W7.heap.size ≤ k) [vi]) (hk : Kept W7 w5 oki) (hR : Kd.R k39 39 w5 base (fun k => oki k ∨ W7.heap.size ≤ k) (.slice A5 s'.length c5) s')
    (ho : ∀ k, oki k → B ≤ k ∧ k ≠ g7) (hB : B ≤ W7.heap.size) (hg : g7 < W7.heap.size) (hn : n7 < out7.length) (hlen : n = out7.length) :
    Kd.S (Kd.slice 39 k39) 22 (w5.setCell ⟨g7, n7, none⟩ (.slice A5 s'.length c5)) base (fun k => B ≤ k) (.slice (some ⟨g7, 0, none⟩) (out7.set n7 s').length c7) (out7.set n7 s') := by
  subst hlen
  rw [List.length_set]
  have h5 := Kd.H_kept hH hk (fun k _ hn hS => hn (.inl hS))
  obtain ⟨h6, hg6⟩ := Kd.H_seg h5 (by omega) (by omega) (seg := [.slice A5 s'.length c5]) (j := 0) (Nat.le_refl 1) (fun q hq => by rw [List.mem_singleton.1 hq]; rfl)
  have hM : Kd.M (Kd.slice 39 k39) (w5.setCells g7 ((n7 : Int).toNat * (Kd.sz (Kd.slice 39 k39)) + 0) [.slice A5 s'.length c5]) base (fun k => oki k ∨ B ≤ k ∧ W7.heap.size ≤ k) s' ([vi].take 0 ++ [.slice A5 s'.length c5] ++ [vi].drop (0 + [Value.slice A5 s'.length c5].length)) :=
    ⟨_, rfl, Kd.R_grown (Kd.R_mono hR (fun k hk => hk.imp id (fun h => ⟨Nat.le_trans hB h, h⟩))) hg6 (fun k hk he => by
      injection he with he
      rcases hk with h | h
      · exact (ho k h).2 he
      · omega)⟩
  have h7 := Kd.H_back h6 hM (fun k hk => hk)
  rw [Int.toNat_natCast, show Kd.sz (Kd.slice 39 k39) = 1 from rfl, Nat.mul_one, Nat.add_zero] at h7
  exact h7
set_option maxRecDepth 100000 in
set_option maxHeartbeats 4000000 in
theorem Parts_many (A : Option Addr) (c : Nat) (l : List (List Sp)) (w : World) (hr : Kd.C (Kd.slice 39 k39) w A l.length l) (hc : l.length ≤ c) (hm : 32 < l.length) : Calls Try.prog 30 #[.slice A l.length c] w fun e w' => ∃ v : Value, e = .returned (.tuple #[v, .int .i64 (sParts l).2]) ∧ Kd.S (Kd.slice 39 k39) 22 w' w.heap.size (fun _ => True) v (sParts l).1 ∧ Below w.heap.size w w' := by
  have g1 : decide (32 < (l.length : Int)) = true := decide_eq_true (by omega)
  rw [show sParts l = ([], 5) from if_pos hm]
  clear hr
  go_enter Try.func30, Try.ntmps30
  go_wp2
  go_ret2
  exact ⟨_, rfl, Kd.S_nil _ _ _ _ _, Below.refl _ _⟩
set_option maxRecDepth 100000 in
set_option maxHeartbeats 4000000 in
theorem Parts_one (A : Option Addr) (c : Nat) (l : List (List Sp)) (w : World) (hr : Kd.C (Kd.slice 39 k39) w A l.length l) (hc : l.length ≤ c) (hm : ¬ 32 < l.length) : Calls Try.prog 30 #[.slice A l.length c] w fun e w' => ∃ v : Value, e = .returned (.tuple #[v, .int .i64 (sParts l).2]) ∧ Kd.S (Kd.slice 39 k39) 22 w' w.heap.size (fun _ => True) v (sParts l).1 ∧ Below w.heap.size w w' := by
  have g1 : decide (32 < (l.length : Int)) = false := decide_eq_false (by omega)
  have HS : Aside0 (Sta w w (fun W => Kd.C (Kd.slice 39 k39) W A l.length l ∧ True)) := ⟨⟨Below.refl _ _, ⟨hr, trivial⟩, keeps_and (keeps_C _ _ _ _) (fun _ _ h _ => h)⟩⟩
  have hmm := @run_makeMap Try.prog
  have HRW := Aside0.mk hr
  clear hr
  go_enter Try.func30, Try.ntmps30
  go_wp2
  go_loopw [22] (fun s22 W => ∃ k : Nat, s22 = .int .i64 k ∧ k ≤ l.length ∧ Aside0 (∀ i (hi : i < k) (h : i < l.length), sCheck l[i] = 0) ∧ Aside0 (Sta w W (fun W => Kd.C (Kd.slice 39 k39) W A l.length l ∧ True))) (fun s22 _ => l.length - (intOf s22).toNat)
  case atStart => exact ⟨0, rfl, Nat.zero_le _, ⟨fun i hi => absurd hi (Nat.not_lt_zero _)⟩, HS⟩
  case round =>
    clear HS
    obtain ⟨k, rfl, hk, HZ, HS⟩ := hrel
    by_cases h1 : k < l.length
    · have g2 : decide (k < l.length) = true := decide_eq_true h1
      obtain ⟨ad, A0, c0, e0, hcell, hl0c, hC0⟩ := at_L2 HS.out.now.1 (k : Int) (by omega) (by omega)
      cases e0
      rw [Int.toNat_natCast] at hcell
      rw [rdL h1] at hcell hl0c hC0
      have hcalls : ∀ W, Below wr.heap.size wr W → Calls Try.prog 14 #[.slice A0 l[k].length c0] W fun e w' => e = .returned (.int .i64 (sCheck l[k])) ∧ Below W.heap.size W w' := fun W hW =>
        charset_Check.calls (l[k].length + 1) A0 c0 l[k] _ W (Kd.C_below hC0 hW) hl0c (check_ff l[k] (Nat.lt_succ_self _))
      obtain ⟨r, hrr⟩ : ∃ r, sCheck l[k] = r := ⟨_, rfl⟩
      obtain ⟨n0, hn0⟩ : ∃ n, l[k].length = n := ⟨_, rfl⟩
      rw [hrr, hn0] at hcalls
      rw [hn0] at hcell
      have HCK := Aside0.mk hcalls
      have HRR := Aside0.mk hrr
      have hwk : wrap64 ((k : Int) + 1) = (k : Int) + 1 := by unfold wrap64; omega
      clear hcalls hrr hC0 hn0 hl0c
      by_cases hz : r = 0
      · subst hz
        have HZ2 := Aside0.mk (show ∀ i (hi : i < k + 1) (h : i < l.length), sCheck l[i] = 0 from fun i hi h => by
          by_cases hik : i = k
          · subst hik; exact HRR.out
          · exact HZ.out i (by omega) h)
        clear HZ
        go_wp2_with (go_at_call 14; refine (HCK.out _ (by repeat (first | exact Below.refl _ _ | apply zq2 | apply zq3 | apply zq4 | apply zq5))).mono ?_; rintro e w' ⟨rfl, hb⟩; have m_ := Aside0.mk (HS.out.call (by repeat (first | exact Below.refl _ _ | apply zq2 | apply zq3 | apply zq4 | apply zq5)) hb); clear HS hb; have HS := m_; clear m_)
        go_roundw
        case measure => (first | rw [hwk] | skip); show l.length - ((k : Int) + 1).toNat < l.length - (k : Int).toNat; omega
        case rel => exact ⟨k + 1, by (first | rw [hwk] | skip); rfl, by omega, HZ2, HS⟩
      · have hz1 : (r != 0) = true := bne_iff_ne.mpr hz
        have hfin : sParts l = ([], r) := by
          unfold sParts
          have := firstErr_at h1 (fun i hi => HZ.out i hi (by omega)) (by rw [HRR.out]; exact hz)
          rw [if_neg hm, this, HRR.out, if_pos hz]
        have HFIN := Aside0.mk hfin
        clear hfin HZ hz
        go_wp2_with (go_at_call 14; refine (HCK.out _ (by repeat (first | exact Below.refl _ _ | apply zq2 | apply zq3 | apply zq4 | apply zq5))).mono ?_; rintro e w' ⟨rfl, hb⟩; have m_ := Aside0.mk (HS.out.call (by repeat (first | exact Below.refl _ _ | apply zq2 | apply zq3 | apply zq4 | apply zq5)) hb); clear HS hb; have HS := m_; clear m_)
        go_ret2
        rw [HFIN.out]
        exact ⟨_, rfl, Kd.S_nil _ _ _ _ _, HS.out.bel⟩
    · have g2 : decide (k < l.length) = false := decide_eq_false h1
      have hkl : k = l.length := by omega
      subst hkl
      have hz : ∀ s ∈ l, sCheck s = 0 := fun s hs => by
        obtain ⟨i, hi, rfl⟩ := List.mem_iff_getElem.1 hs
        exact HZ.out i hi hi
      have h256 : ∀ s ∈ l, s.length ≤ 256 := fun s hs => ((sCheck_ok s).1 (hz s hs)).1
      have hmay := flat_may hz
      have hfin : sParts l = (if (pFold (kindOf l) (cutsOf l.flatten) ([], [])).2.any (fun s => decide (256 < s.length)) then ([], 5) else ((pFold (kindOf l) (cutsOf l.flatten) ([], [])).2, 0)) := by
        unfold sParts
        rw [if_neg hm, if_neg (fun h => h (firstErr_all hz))]
      obtain ⟨m, hm1, hm2⟩ : ∃ m, (cutsOf l.flatten).length = m + 1 ∧ m ≤ 20000 := by
        have h8 : (0 : Int) ∈ cutsOf l.flatten := ((cutsOf_ok _ hmay).2 0).2 (.inl (.inl rfl))
        have h9 := List.length_pos_of_mem h8
        have h7 := cuts_len l.flatten
        have h6 := flat_len h256 l.length
        rw [List.take_length] at h6
        exact ⟨(cutsOf l.flatten).length - 1, by omega, by omega⟩
      have hct := fun (W : World) (hW : Below wr.heap.size wr W) => cutsL_ok A c l W (Kd.C_below HS.out.now.1 hW) (by omega) h256 hmay
      obtain ⟨cu, hcu⟩ : ∃ cu, cutsOf l.flatten = cu := ⟨_, rfl⟩
      obtain ⟨f, hf⟩ : ∃ f, kindOf l = f := ⟨_, rfl⟩
      have HFX := Aside0.mk (show ∀ x, f x = (kindP l x l.length : Nat) from fun x => by rw [← hf]; rfl)
      rw [hcu, hf] at hfin
      rw [hcu] at hct hm1
      rw [hm1] at hct
      have HFIN := Aside0.mk hfin
      have HCT := Aside0.mk hct
      have HLM := Aside0.mk hm1
      have hwa : wrap64 (m : Int) = (m : Int) := by unfold wrap64; omega
      have hwb : wrap64 ((m : Int) + 1 - 1) = (m : Int) := by unfold wrap64; omega
      clear hfin hct hm1 hcu hf hmay h256 hz HZ
      obtain ⟨wo, rfl⟩ : ∃ wo : World, wo = wr := ⟨_, rfl⟩
      have hwo : w.heap.size ≤ wo.heap.size := HS.out.bel.size
      go_wp2_with (go_at_call 47; refine (HCT.out _ (by repeat (first | exact Below.refl _ _ | apply zq2 | apply zq3 | apply zq4 | apply zq5))).mono ?_; rintro e w3 ⟨A3, c3, rfl, hR, hb⟩; have HMP := Aside0.mk (ownsMap_move (World.ownsMap_made (H := Unit) wo Try.prog 64 (plainElem Try.prog 3)) (hb.block wo.heap.size (by simp))); have hgm : wo.heap.size < w3.heap.size := (by have h9 := hb.size; rw [World.size_alloc] at h9; omega); have HCR := Aside0.mk hR; have m_ := Aside0.mk (HS.out.call (by repeat (first | exact Below.refl _ _ | apply zq2 | apply zq3 | apply zq4 | apply zq5)) hb); clear HS hb; have HS := m_; clear m_; have hcut := cutI m A3 c3 (Kd.R_reads' HCR.out).2.1; obtain ⟨g, c9, e3, hgc, hgl, _⟩ := Kd.R_form HCR.out (by have := HLM.out; omega); rw [HLM.out] at e3; cases e3; clear hR)
      go_loopw [7, 41] (fun s7 s41 W => ∃ (j : Nat) (A2 : Option Addr) (c2 n : Nat) (ks : List Int) (out : List (List Sp)) (D : DataW Unit), s41 = .int .i64 j ∧ s7 = .slice A2 out.length c2 ∧ j ≤ m ∧ n ≤ j ∧ Aside0 (ks.length = out.length ∧ out.length ≤ j ∧ ∀ s ∈ out, s.length ≤ j) ∧ Aside0 (pFold f (cu.drop j) (ks, out) = pFold f cu ([], [])) ∧ Aside0 (W.ownsMap Try.prog 64 (plainElem Try.prog 3) wo.heap.size n D) ∧ Aside0 (MpI D (idF ks)) ∧ Aside0 (Kd.S (Kd.slice 39 k39) 22 W w.heap.size (fun k => w3.heap.size ≤ k) (.slice A2 out.length c2) out) ∧ Aside0 (Kept w3 W (fun k => k = wo.heap.size)) ∧ Aside0 (Below w.heap.size w W)) (fun _ s41 _ => m - (intOf s41).toNat)
      case atStart => exact ⟨0, none, 0, 0, [], [], _, rfl, rfl, Nat.zero_le _, Nat.zero_le _, ⟨rfl, Nat.le_refl _, fun s hs => nomatch hs⟩, ⟨rfl⟩, HMP, ⟨MpI.empty.congr idF_nil⟩, ⟨Kd.S_nil _ _ _ _ _⟩, ⟨Kept.refl _ _⟩, ⟨HS.out.bel⟩⟩
      case round =>
        clear HMP
        obtain ⟨j, A2, c2, n, ks, out, D, rfl, rfl, hj, hn, HKS, HPF, HMP, HMI, HO, HKP, HBW⟩ := hrel
        by_cases h2 : j < m
        · have g3 : decide (j < m) = true := decide_eq_true h2
          obtain ⟨wi, rfl⟩ : ∃ wi : World, wi = wr := ⟨_, rfl⟩
          have hlm := HLM.out
          have hk0 : j < cu.length := by omega
          have hk1 : j + 1 < cu.length := by omega
          have z0 := (cell_own HCR.out j (by omega)).1
          have z1 := (cell_own HCR.out (j + 1) (by omega)).1
          have e0 : rd cu (j : Int) = cu[j] := rdI hk0
          have e1 : rd cu ((j + 1 : Nat) : Int) = cu[j + 1] := rdI hk1
          rw [e0] at z0
          rw [e1] at z1
          have hpf := HPF.out
          rw [List.drop_eq_getElem_cons hk0, List.drop_eq_getElem_cons hk1, show pFold f (cu[j] :: cu[j + 1] :: cu.drop (j + 1 + 1)) (ks, out) = pFold f (cu[j + 1] :: cu.drop (j + 1 + 1)) (pAdd (f cu[j]) cu[j] cu[j + 1] (ks, out)) from rfl, ← List.drop_eq_getElem_cons hk1] at hpf
          obtain ⟨a, ha⟩ : ∃ a, cu[j] = a := ⟨_, rfl⟩
          obtain ⟨a2, ha2⟩ : ∃ a, cu[j + 1] = a := ⟨_, rfl⟩
          rw [ha] at z0 hpf
          rw [ha2] at z1 hpf
          have hne : ¬ g = wo.heap.size := by simp at hgc; omega
          have x0 := cell_kept z0 HKP.out hne
          have x1 := cell_kept z1 HKP.out hne
          rw [HFX.out] at hpf
          have HPF2 := Aside0.mk hpf
          have HCL := Aside0.mk (show Kd.C (Kd.slice 39 k39) wi A l.length l from Kd.C_below HRW.out HBW.out)
          have hx1k := Aside0.mk (And.intro z1 hne)
          clear hpf HPF e0 e1 hlm ha ha2 hk0 hk1 z0 z1
          go_wp2
          go_loopw [12, 48] (fun s12 s48 W => ∃ k : Nat, s48 = .int .i64 k ∧ s12 = .int .u32 (kindP l a k : Nat) ∧ k ≤ l.length ∧ Aside0 (Below wi.heap.size wi W)) (fun _ s48 _ => l.length - (intOf s48).toNat)
          case atStart => exact ⟨0, rfl, rfl, Nat.zero_le _, ⟨Below.refl _ _⟩⟩
          case round =>
            obtain ⟨k, rfl, rfl, hk2, HB⟩ := hrel
            by_cases h3 : k < l.length
            · have g4 : decide (k < l.length) = true := decide_eq_true h3
              obtain ⟨ad, A0, c0, e0, hcell, hl0c, hC0⟩ := at_L2 (Kd.C_below HCL.out HB.out) (k : Int) (by omega) (by omega)
              cases e0
              rw [Int.toNat_natCast] at hcell
              rw [rdL h3] at hcell hl0c hC0
              have hstep : kindP l a (k + 1) = kindP l a k + (if sHas l[k] a then 2 ^ k else 0) := by
                rw [kindP, List.getD_eq_getElem?_getD, List.getElem?_eq_getElem h3]
                rfl
              have hlt := kindP_lt l a k
              have hp2 : 2 ^ k ≤ 2 ^ 31 := Nat.pow_le_pow_right (by decide) (by omega)
              have hh := fun W (hW : Below wr.heap.size wr W) => Has_ok A0 c0 l[k] a W (Kd.C_below hC0 hW)
              obtain ⟨s0, hs0⟩ : ∃ s, l[k] = s := ⟨_, rfl⟩
              rw [hs0] at hstep hcell hh
              obtain ⟨y, hy⟩ : ∃ y, sHas s0 a = y := ⟨_, rfl⟩
              rw [hy] at hstep hh
              have HH := Aside0.mk hh
              have HST := Aside0.mk hstep
              clear hh hs0 hstep hy hC0 hl0c
              cases y
              · go_wp2_with (go_at_call 16; refine (HH.out _ (by repeat (first | exact Below.refl _ _ | apply below_alloc | apply pw_below_drewN | apply below_drew1))).mono ?_; rintro e w' ⟨rfl, hb⟩; have m_ := Aside0.mk (below_step HB.out hb); clear HB hb; have HB := m_; clear m_)
                go_roundw
                case measure => show l.length - ((k : Int) + 1).toNat < l.length - (k : Int).toNat; omega
                case rel => exact ⟨k + 1, rfl, by rw [HST.out]; rfl, by omega, HB⟩
              · go_wp2_with (go_at_call 16; refine (HH.out _ (by repeat (first | exact Below.refl _ _ | apply below_alloc | apply pw_below_drewN | apply below_drew1))).mono ?_; rintro e w' ⟨rfl, hb⟩; have m_ := Aside0.mk (below_step HB.out hb); clear HB hb; have HB := m_; clear m_)
                go_roundw
                case measure => show l.length - ((k : Int) + 1).toNat < l.length - (k : Int).toNat; omega
                case rel => exact ⟨k + 1, rfl, by rw [or_step _ _ hlt (by omega), HST.out]; rfl, by omega, HB⟩
            · have g4 : decide (k < l.length) = false := decide_eq_false h3
              have hkl2 : k = l.length := by omega
              subst hkl2
              have HMP1 := Aside0.mk (ownsMap_move HMP.out (HB.out.block wo.heap.size (Nat.lt_of_lt_of_le hgm HKP.out.1)))
              have HO1 := Aside0.mk (Kd.S_below HO.out HB.out)
              have HKP1 := Aside0.mk (HKP.out.below HB.out)
              have HBW1 := Aside0.mk (below_step HBW.out HB.out)
              have x0' := cell_below x0 HB.out
              have x1' := cell_below x1 HB.out
              have hkd := kindP_lt l a l.length
              obtain ⟨kd, hkde⟩ : ∃ kd, kindP l a l.length = kd := ⟨_, rfl⟩
              rw [hkde] at HPF2 hkd ⊢
              have hkd2 : kd < 4294967296 := Nat.lt_of_lt_of_le hkd (show 2 ^ l.length ≤ 2 ^ 32 from Nat.pow_le_pow_right (by decide) (by omega))
              have hlook := run_look HMP1.out HMI.out (kd : Int) (by omega) (by omega)
              clear x0 x1 HMP HO HKP HBW HB hkd hkde HCL
              by_cases hnew : ks.idxOf (kd : Int) = ks.length
              · rw [show idF ks (.int .u32 (kd : Int)) = none from if_pos hnew] at hlook
                have hlook2 : Sem.run Try.prog (Instr.lookup 62 (.map (some wo.heap.size)) (.int .u32 (kd : Int)) true) wr = .ok (.tuple #[.int .i64 0, .bool false]) wr := hlook
                clear hlook
                have hks := HKS.out
                obtain ⟨w6, hupd, hown6, hturn6⟩ := run_upd HMP1.out (kd : Int) (by omega) (by omega) (out.length : Int) (by omega) (by omega) (by unfold maxLen; omega)
                have hg6 := hturn6.grown
                have HMP6 := Aside0.mk hown6
                have HMI6 := Aside0.mk (idF_put HMI.out hnew hks.1)
                have HO6 := Aside0.mk (Kd.S_grown HO1.out hg6 (fun k hk he => by injection he with he; omega))
                have HBW6 := Aside0.mk (HBW1.out.grown hg6 HBW1.out.size (fun k hk => by injection hk with hk; omega))
                have HKP6 := Aside0.mk (HKP1.out.then_ (Kept.of_grown hg6 (Kept.refl _ (fun k => k = wo.heap.size)) (fun k hk => .inl (by injection hk with hk; exact hk.symm))) (fun k hk => .inl hk))
                have HNEW := Aside0.mk hnew
                clear hown6 hturn6 hg6 hnew
                have HKS2 := Aside0.mk hks.1
                obtain ⟨_, hks2, _⟩ := hks
                go_wp2_with ((with_reducible refine gate_builtin (b := .append) (xs := #[.tmp 74, .tmp 75]) rfl ?_); at_builtin; go_loud (refine Kd.S_append (Kd.slice 39 k39) (w0 := w) w.heap.size rfl (.tmp 74) (.tmp 75) 43 22 (.slice none 0 0) 24 rfl Try.underlying43 infoSS rfl (by decide) (by decide) (.slice A2 out.length c2) out ([] : List Sp) [.slice none 0 0] (fun k => w3.heap.size ≤ k) (fun _ => False) rfl (congrArg (fun n => Value.slice (some ⟨n, 0, none⟩) 1 1) (by simp)) ?aP (fun _ hk => hk.elim) ?aF ?aO ?aB ?aS ?aL ?_; (case aP => exact ⟨_, rfl, Kd.R_nil _ _ _ _ _⟩); (case aF => exact (fun k hk => Nat.le_trans HKP6.out.1 hk)); (case aO => exact Kd.S_mono HO6.out (fun k hk => ⟨hk, fun h => h⟩)); (case aB => exact HBW6.out); (case aS => exact HBW6.out.size); (case aL => omega); intro v7 w7 hS7 hb7 hg7 hat7; have HS7 := Aside0.mk hS7; have HB7 := Aside0.mk hb7; have HG7 := Aside0.mk hg7; clear hS7 hb7 hg7 hat7))
                obtain ⟨A7, c7, e7⟩ := Kd.R_slice (Kd.S_R HS7.out)
                subst e7
                have HMP7 := Aside0.mk (ownsMap_move HMP6.out (HG7.out.block wo.heap.size (by have := HKP6.out.1; omega) (fun he => by have := (Kd.S_R HO6.out).1 _ he.symm; omega)))
                have HKP7 := Aside0.mk (Kept.of_grown HG7.out HKP6.out (fun k hk => .inr ((Kd.S_R HO6.out).1 k hk)))
                have HX7 := Aside0.mk (cell_kept (hx1k.out.1) HKP7.out hx1k.out.2)
                have hl7 : (out ++ [([] : List Sp)]).length = out.length + 1 := by simp
                have hs7l : ((out ++ [([] : List Sp)]).getD out.length []).length ≤ 0 := by simp
                obtain ⟨out7, ho7⟩ : ∃ o, out ++ [([] : List Sp)] = o := ⟨_, rfl⟩
                rw [ho7] at HS7 hl7 hs7l
                have HO7 := Aside0.mk ho7
                rw [ho7]
                clear ho7 HMP6 HKP6 HG7 HMP1 HO1 HKP1 HBW1 HO6 HBW6 HMI
                generalize hn7 : out.length = n7 at *
                have HN7 := Aside0.mk hn7
                rw [hl7] at HS7 ⊢
                have HL7 := Aside0.mk hl7
                clear hn7 hl7
                have HS7L := Aside0.mk (show (out7.getD n7 []).length ≤ 30000 by omega)
                have hll : n7 < out7.length := by have := HL7.out; omega
                have HLEN := Aside0.mk (show n7 + 1 = out7.length from HL7.out.symm)
                have x1 := HX7.out
                have HBO := Aside0.mk (show ∀ s ∈ out7, s.length ≤ j from fun s hs => by
                  rw [← HO7.out] at hs
                  rcases List.mem_append.1 hs with h | h
                  · exact HKS.out.2.2 s h
                  · rw [List.mem_singleton.1 h]; exact Nat.zero_le _)
                have HLK := Aside0.mk (show (ks ++ [(kd : Int)]).length = out7.length by rw [HL7.out, List.length_append, HKS2.out]; rfl)
                have HPA := Aside0.mk (show pAdd (kd : Int) a a2 (ks, out) = (ks ++ [(kd : Int)], out7.set n7 (sAdd (out7.getD n7 []) a a2)) by
                  rw [← HO7.out, ← HN7.out]
                  unfold pAdd
                  rw [if_pos HNEW.out]
                  simp)
                clear HKS HKS2 HN7 HO7 HL7 HNEW
                obtain ⟨g7, d7, e7, hgb7, hgl7, _⟩ := Kd.R_form (Kd.S_R HS7.out) (by omega)
                injection e7 with e7 _ e8
                subst e7; subst e8
                obtain ⟨oki, cs7, hcl7, hM7, hcc7, hfr7, hoki7, hH7⟩ := Kd.S_elem HS7.out ([] : List Sp) (n7 : Int) (by omega) (by omega)
                obtain ⟨vi, rfl, hRi⟩ := hM7
                rw [Int.toNat_natCast] at hRi hcc7 hfr7
                obtain ⟨s7, hs7⟩ : ∃ s, out7.getD n7 [] = s := ⟨_, rfl⟩
                rw [hs7] at hRi
                obtain ⟨Ai, ci, e9⟩ := Kd.R_slice hRi
                subst e9
                have q0 := hcc7 0 _ rfl
                have q1 := hfr7 0
                rw [show (Kd.slice 39 k39).sz = 1 from rfl, Nat.mul_one, Nat.add_zero] at q0 q1
                have hqn : ¬ oki g7 := fun h => (hoki7 g7 h).2 rfl
                have hB7 : w3.heap.size ≤ g7 := (Kd.S_R HS7.out).1 g7 (by simp [Value.ownBlock])
                have HQ := Aside0.mk (And.intro q0 (And.intro q1 hqn))
                have hput := fun W (hW : Below w7.heap.size w7 W) => put_c oki (.slice Ai s7.length ci) s7 a a2 w w7 W HB7.out hRi (hs7 ▸ HS7L.out) hW
                have HPUT := Aside0.mk hput
                have HH7 := Aside0.mk (Kd.H_widen hH7)
                have HOK := Aside0.mk hoki7
                have HSG := Aside0.mk hs7
                clear hput hH7 hRi hcc7 hfr7 hoki7 hs7 hcl7 hqn
                have p0 : (0 : Int) ≤ (j : Int) + 1 := by omega
                have p1 : (j : Int) + 1 < (m : Int) + 1 := by omega
                have p2 : (0 : Int) ≤ (n7 : Int) := by omega
                have vw := IntWalk.i64_in ((j : Int) + 1) (by omega)
                have HBO2 := Aside0.mk (set_bound HBO.out HSG.out a a2 n7)
                have hpa := HPA.out
                rw [HSG.out] at hpa
                have hpf9 := HPF2.out
                rw [hpa] at hpf9
                have HPF9 := Aside0.mk hpf9
                clear hpa hpf9 HPA HPF2 HSG HBO
                go_region_with (go_at_call 48; refine (HPUT.out _ (by repeat (first | exact Below.refl _ _ | apply below_drew1 | apply pw_below_drewN))).mono ?_; rintro e w5 ⟨A5, c5, rfl, hR5, hb5, hk5⟩; have HR5 := Aside0.mk hR5; have HB5 := Aside0.mk hb5; have HK5 := Aside0.mk hk5; have q0 : w5.cell? ⟨g7, n7, none⟩ = some (.slice Ai s7.length ci) := cell_kept HQ.out.1 HK5.out HQ.out.2.2; have q1 : w5.frozen? ⟨g7, n7, none⟩ = false := frozen_kept HQ.out.1 HQ.out.2.1 HK5.out HQ.out.2.2; clear hR5 hb5 hk5)
                all_goals
                  go_wp2
                  go_roundw
                  case measure => show m - ((j : Int) + 1).toNat < m - (j : Int).toNat; omega
                  case rel =>
                    have hokg := fun k hk => (HOK.out k hk).1
                    exact ⟨j + 1, _, _, n + 1, (ks ++ [(kd : Int)]), _, _, rfl, by rw [List.length_set], by omega, by omega, ⟨by rw [List.length_set]; exact HLK.out, by rw [List.length_set]; omega, HBO2.out⟩, HPF9, ⟨ownsMap_set (ownsMap_move HMP7.out (HK5.out.2 wo.heap.size (by have := HKP7.out.1; omega) (fun h => by have := hokg _ h; omega))) (Nat.ne_of_lt (Nat.lt_of_lt_of_le hgm hB7)) _⟩, HMI6, ⟨row_back HH7.out HK5.out HR5.out (fun k hk => HOK.out k hk) HKP7.out.1 hgl7 hll (by first | exact HLEN.out | rfl)⟩, ⟨(HKP7.out.then_ HK5.out (fun k hk => .inr (hokg k hk))).setCell (.inr hB7) _⟩, ⟨HB5.out.setCell hgb7 _⟩⟩
              · rw [show idF ks (.int .u32 (kd : Int)) = some ((ks.idxOf (kd : Int) : Nat) : Int) from if_neg hnew] at hlook
                obtain ⟨hks, hks2, _⟩ := HKS.out
                have hlt := Nat.lt_of_le_of_ne (List.idxOf_le_length (a := (kd : Int)) (l := ks)) hnew
                obtain ⟨n7, hn7⟩ : ∃ n, ks.idxOf (kd : Int) = n := ⟨_, rfl⟩
                have HPA := Aside0.mk (show pAdd (kd : Int) a a2 (ks, out) = (ks, out.set n7 (sAdd (out.getD n7 []) a a2)) by
                  rw [← hn7]
                  unfold pAdd
                  rw [if_neg hnew])
                rw [hn7] at hlook hlt
                have hlook2 : Sem.run Try.prog (Instr.lookup 62 (.map (some wo.heap.size)) (.int .u32 (kd : Int)) true) wr = .ok (.tuple #[.int .i64 (n7 : Int), .bool true]) wr := hlook
                have hll : n7 < out.length := by omega
                have HLEN := Aside0.mk (Eq.refl out.length)
                have HLK := Aside0.mk hks
                have HBO := Aside0.mk HKS.out.2.2
                have HS7L := Aside0.mk (show (out.getD n7 []).length ≤ 30000 by
                  rw [List.getD_eq_getElem?_getD, List.getElem?_eq_getElem hll]
                  have := HBO.out _ (List.getElem_mem hll)
                  show (out[n7]).length ≤ 30000
                  omega)
                clear hlook hn7 hnew hks HKS hlt
                go_wp2
                obtain ⟨g7, d7, e7, hgb7, hgl7, _⟩ := Kd.R_form (Kd.S_R HO1.out) (by omega)
                injection e7 with e7 _ e8
                subst e7; subst e8
                obtain ⟨oki, cs7, hcl7, hM7, hcc7, hfr7, hoki7, hH7⟩ := Kd.S_elem HO1.out ([] : List Sp) (n7 : Int) (by omega) (by omega)
                obtain ⟨vi, rfl, hRi⟩ := hM7
                rw [Int.toNat_natCast] at hRi hcc7 hfr7
                obtain ⟨s7, hs7⟩ : ∃ s, out.getD n7 [] = s := ⟨_, rfl⟩
                rw [hs7] at hRi
                obtain ⟨Ai, ci, e9⟩ := Kd.R_slice hRi
                subst e9
                have q0 := hcc7 0 _ rfl
                have q1 := hfr7 0
                rw [show (Kd.slice 39 k39).sz = 1 from rfl, Nat.mul_one, Nat.add_zero] at q0 q1
                have hqn : ¬ oki g7 := fun h => (hoki7 g7 h).2 rfl
                have hB7 : w3.heap.size ≤ g7 := (Kd.S_R HO1.out).1 g7 (by simp [Value.ownBlock])
                have HQ := Aside0.mk (And.intro q0 (And.intro q1 hqn))
                have hput := fun W (hW : Below wr.heap.size wr W) => put_c oki (.slice Ai s7.length ci) s7 a a2 w wr W HBW1.out hRi (hs7 ▸ HS7L.out) hW
                have HPUT := Aside0.mk hput
                have HH7 := Aside0.mk (Kd.H_widen hH7)
                have HOK := Aside0.mk hoki7
                have HSG := Aside0.mk hs7
                clear hput hH7 hRi hcc7 hfr7 hoki7 hs7 hcl7 hqn
                have p0 : (0 : Int) ≤ (j : Int) + 1 := by omega
                have p1 : (j : Int) + 1 < (m : Int) + 1 := by omega
                have p2 : (0 : Int) ≤ (n7 : Int) := by omega
                have vw := IntWalk.i64_in ((j : Int) + 1) (by omega)
                have HBO2 := Aside0.mk (set_bound HBO.out HSG.out a a2 n7)
                have hpa := HPA.out
                rw [HSG.out] at hpa
                have hpf9 := HPF2.out
                rw [hpa] at hpf9
                have HPF9 := Aside0.mk hpf9
                clear hpa hpf9 HPA HPF2 HSG HBO
                go_region_with (go_at_call 48; refine (HPUT.out _ (by repeat (first | exact Below.refl _ _ | apply below_drew1 | apply pw_below_drewN))).mono ?_; rintro e w5 ⟨A5, c5, rfl, hR5, hb5, hk5⟩; have HR5 := Aside0.mk hR5; have HB5 := Aside0.mk hb5; have HK5 := Aside0.mk hk5; have q0 : w5.cell? ⟨g7, n7, none⟩ = some (.slice Ai s7.length ci) := cell_kept HQ.out.1 HK5.out HQ.out.2.2; have q1 : w5.frozen? ⟨g7, n7, none⟩ = false := frozen_kept HQ.out.1 HQ.out.2.1 HK5.out HQ.out.2.2; clear hR5 hb5 hk5)
                all_goals
                  go_wp2
                  go_roundw
                  case measure => show m - ((j : Int) + 1).toNat < m - (j : Int).toNat; omega
                  case rel =>
                    have hokg := fun k hk => (HOK.out k hk).1
                    exact ⟨j + 1, _, _, n, ks, _, _, rfl, by rw [List.length_set], by omega, by omega, ⟨by rw [List.length_set]; exact HLK.out, by rw [List.length_set]; omega, HBO2.out⟩, HPF9, ⟨ownsMap_set (ownsMap_move HMP1.out (HK5.out.2 wo.heap.size (by have := HKP1.out.1; omega) (fun h => by have := hokg _ h; omega))) (Nat.ne_of_lt (Nat.lt_of_lt_of_le hgm hB7)) _⟩, HMI, ⟨row_back HH7.out HK5.out HR5.out (fun k hk => HOK.out k hk) HKP1.out.1 hgl7 hll (by first | exact HLEN.out | rfl)⟩, ⟨(HKP1.out.then_ HK5.out (fun k hk => .inr (hokg k hk))).setCell (.inr hB7) _⟩, ⟨HB5.out.setCell hgb7 _⟩⟩
        · have g3 : decide (j < m) = false := decide_eq_false h2
          have hfin2 : pFold f cu ([], []) = (ks, out) := by
            have hlm := HLM.out
            rw [← HPF.out, List.drop_eq_getElem_cons (by omega), List.drop_eq_nil_of_le (by omega)]
            rfl
          have hfin := HFIN.out
          rw [hfin2] at hfin
          simp only at hfin
          have hcn := ConL_ok A2 c2 out wr (Kd.R_reads' (Kd.S_R HO.out)).2.2
          clear HFIN HPF hfin2
          by_cases h9 : (out.any fun s => decide (256 < s.length)) = true
          · rw [h9] at hcn
            rw [if_pos h9] at hfin
            have HFIN := Aside0.mk hfin
            have HCN := Aside0.mk hcn
            clear hfin hcn h9
            go_wp2_with (go_at_call 49; refine (HCN.out).mono ?_; rintro e w' ⟨rfl, rfl⟩)
            go_ret2
            rw [HFIN.out]
            exact ⟨_, rfl, Kd.S_nil _ _ _ _ _, HBW.out⟩
          · rw [if_neg h9] at hfin
            rw [Bool.not_eq_true] at h9
            rw [h9] at hcn
            have HFIN := Aside0.mk hfin
            have HCN := Aside0.mk hcn
            clear hfin hcn h9
            go_wp2_with (go_at_call 49; refine (HCN.out).mono ?_; rintro e w' ⟨rfl, rfl⟩)
            go_ret2
            rw [HFIN.out]
            exact ⟨_, rfl, Kd.S_mono HO.out (fun _ _ => trivial), HBW.out⟩
theorem Parts_ok (A : Option Addr) (c : Nat) (l : List (List Sp)) (w : World) (hr : Kd.C (Kd.slice 39 k39) w A l.length l) (hc : l.length ≤ c) : Calls Try.prog 30 #[.slice A l.length c] w fun e w' => ∃ v : Value, e = .returned (.tuple #[v, .int .i64 (sParts l).2]) ∧ Kd.S (Kd.slice 39 k39) 22 w' w.heap.size (fun _ => True) v (sParts l).1 ∧ Below w.heap.size w w' := by
  by_cases hm : 32 < l.length
  · exact Parts_many A c l w hr hc hm
  · exact Parts_one A c l w hr hc hm
end Go.Proofs.Ytingbjdpjimikaa.B
namespace Go.Proofs.Ytingbjdpjimikaa.B
open Go.RowKit Go.Proofs Go.Proofs.YtingbjdpjimikaaW.PrintWords Go.Proofs.YtingbjdpjimikaaW.PrintLast Go.Proofs.YtingbjdpjimikaaW.PrintMore Go.Proofs.Ytingbjdpjimikaa.FBase
theorem set_uniq {s t : List Sp} (hs : sCheck s = 0) (ht : sCheck t = 0) (h : ∀ c, 0 ≤ c → c < 1114112 → sHas s c = sHas t c) : s = t := by
  obtain ⟨_, s1, s2⟩ := (sCheck_ok s).1 hs
  obtain ⟨_, t1, t2⟩ := (sCheck_ok t).1 ht
  have far : ∀ (l : List Sp), (∀ x ∈ l, x.f1 ≤ 1114112) → ∀ c, 1114112 ≤ c → sHas l c = false := by
    intro l hl c hc
    cases hh : sHas l c with
    | false => rfl
    | true =>
      obtain ⟨x, hx, hin⟩ := List.any_eq_true.1 hh
      have h3 := (inS_iff x c).1 hin
      have := hl x hx
      omega
  refine Sep.uniq s1 t1 fun c => ?_
  by_cases h0 : c < 0
  · rw [s1.below c h0, t1.below c h0]
  · by_cases h1 : c < 1114112
    · exact h c (by omega) h1
    · rw [far s s2 c (by omega), far t t2 c (by omega)]
theorem sOf_fine {l : List Sp} (hl : l.length ≤ 256) (hm : ∀ x ∈ l, may x) : (sOf l).2 = 0 ∧ ∀ c, 0 ≤ c → c < 1114112 → sHas (sOf l).1 c = sHas l c := by
  have ha : l.all mayB = true := List.all_eq_true.2 fun x hx => (mayB_iff x).2 (hm x hx)
  have hs : sOf l = (mkS (sHas l) (cutsOf l) [], 0) := by
    unfold sOf
    rw [if_neg (by omega), if_pos ha]
  have hc := cutsOf_ok l hm
  have h2 := mk_is (sHas l) (cutsOf l) hc.1 (fun y hy => by
    rcases (hc.2 y).1 hy with (rfl | rfl) | ⟨x, hx, rfl | rfl⟩
    · omega
    · omega
    · have := hm x hx; unfold may at this; omega
    · have := hm x hx; unfold may at this; omega) ((hc.2 0).2 (.inl (.inl rfl))) ((hc.2 _).2 (.inl (.inr rfl)))
    (fun a ha x hax hn => same_between (c := cutsOf l) (fun y hy => ⟨(hc.2 _).2 (.inr ⟨y, hy, .inl rfl⟩), (hc.2 _).2 (.inr ⟨y, hy, .inr rfl⟩)⟩) hax hn)
  rw [hs]
  refine ⟨rfl, fun c h0 h1 => ?_⟩
  show sHas (mkS (sHas l) (cutsOf l) []) c = sHas l c
  rw [h2.2 c, decide_eq_true h0, decide_eq_true h1]
  simp
theorem span_c (a b : Int) (W : World) : Calls Try.prog 28 #[.int .i64 a, .int .i64 b] W fun e w' => e = .returned (.agg #[.int .i64 a, .int .i64 b]) ∧ w' = W.alloc (.cells #[.int .i64 a, .int .i64 b] 39) := by
  go_enter Try.func28, Try.ntmps28
  go_wp2
  exact bodyPost_ret (v := .agg #[.int .i64 a, .int .i64 b]) (by simp [results, Try.results28, go_sem]) rfl ⟨rfl, rfl⟩
abbrev SV := Option Addr × Nat × Nat
def encSV (x : SV) : Value := .slice x.1 x.2.1 x.2.2
def CutOk (w : World) (cs : List SV) (ss : List (List Sp)) : Prop := cs.length = ss.length ∧ ∀ (i : Nat) (x : SV) (s : List Sp), cs[i]? = some x → ss[i]? = some s → x.2.1 = s.length ∧ s.length ≤ x.2.2 ∧ Kd.C k39 w x.1 s.length s
theorem CutOk.snoc {w : World} {cs : List SV} {ss : List (List Sp)} (h : CutOk w cs ss) {A : Option Addr} {n c : Nat} {s : List Sp} (hn : n = s.length) (hc : s.length ≤ c) (hC : Kd.C k39 w A s.length s) : CutOk w (cs ++ [(A, n, c)]) (ss ++ [s]) := by
  refine ⟨by rw [List.length_append, List.length_append, h.1]; rfl, fun i x t hx ht => ?_⟩
  by_cases hi : i < cs.length
  · rw [List.getElem?_append_left hi] at hx
    rw [List.getElem?_append_left (by rw [← h.1]; exact hi)] at ht
    exact h.2 i x t hx ht
  · rw [List.getElem?_append_right (by omega)] at hx
    rw [List.getElem?_append_right (by rw [← h.1]; omega), ← h.1] at ht
    match hj : i - cs.length, hx, ht with
    | 0, hx, ht =>
      injection hx with hx
      injection ht with ht
      subst hx; subst ht
      exact ⟨hn, hc, hC⟩
    | k + 1, hx, ht => cases hx
theorem own_lt2 {α : Type} {d : Kd α} {e : Nat} {W : World} {base : Nat} {ok : Nat → Prop} {v : Value} {xs : List α} (h : Kd.R d e W base ok v xs) {k : Nat} (hk : some k = v.ownBlock) : k < W.heap.size := by
  obtain ⟨inner, ho⟩ := Kd.R_own h
  exact own_lt ho k hk.symm
def oddS (k : Nat) : List Sp := (List.range k).map fun (i : Nat) => ⟨4 * (i : Int) + 1, 4 * (i : Int) + 2⟩
def evenS (k : Nat) : List Sp := (List.range k).map fun (i : Nat) => ⟨4 * (i : Int) + 3, 4 * (i : Int) + 4⟩
theorem odd_len (k : Nat) : (oddS k).length = k := by simp [oddS]
theorem even_len (k : Nat) : (evenS k).length = k := by simp [evenS]
theorem odd_take (k m : Nat) (h : m ≤ k) : (oddS k).take m = oddS m := by
  unfold oddS
  rw [← List.map_take, List.take_range, Nat.min_eq_left h]
theorem even_take (k m : Nat) (h : m ≤ k) : (evenS k).take m = evenS m := by
  unfold evenS
  rw [← List.map_take, List.take_range, Nat.min_eq_left h]
theorem odd_snoc (k : Nat) : oddS (k + 1) = oddS k ++ [⟨4 * (k : Int) + 1, 4 * (k : Int) + 2⟩] := by
  unfold oddS
  rw [List.range_succ, List.map_append]
  rfl
theorem even_snoc (k : Nat) : evenS (k + 1) = evenS k ++ [⟨4 * (k : Int) + 3, 4 * (k : Int) + 4⟩] := by
  unfold evenS
  rw [List.range_succ, List.map_append]
  rfl
set_option maxRecDepth 100000 in
theorem odd_ok : sCheck (oddS 256) = 0 := by decide +kernel
set_option maxRecDepth 100000 in
theorem many1 : sMade or (oddS 256) (evenS 1) = ([], 5) := by kernel_rfl
set_option maxRecDepth 100000 in
theorem many2 : sMade pNot (oddS 256) [] = ([], 5) := by kernel_rfl
set_option maxRecDepth 100000 in
theorem many3 : sMade or (oddS 200) (evenS 57) = ([], 5) := by kernel_rfl
theorem parts1 : sParts [[⟨1, 4⟩], [⟨3, 6⟩]] = ([[⟨0, 1⟩, ⟨6, 1114112⟩], [⟨1, 3⟩], [⟨3, 4⟩], [⟨4, 6⟩]], 0) := by kernel_rfl
theorem parts2 : sParts [] = ([[⟨0, 1114112⟩]], 0) := by kernel_rfl
theorem parts3 : sParts (List.replicate 33 []) = ([], 5) := by kernel_rfl
theorem parts4 : sParts [[⟨1, 1⟩]] = ([], 2) := by kernel_rfl
set_option maxRecDepth 100000 in
theorem parts5 : sParts [oddS 256] = ([], 5) := by kernel_rfl
section
variable {a b u : List Sp} {r : Int} {n m k : Nat}
theorem Not_e (h : sMade pNot a [] = (u, r)) (hn : u.length = n) (hm : a.length = m) (A1 : Option Addr) (c1 : Nat) (W : World) (h1 : Kd.C k39 W A1 m a) (hc1 : m ≤ c1) : Calls Try.prog 24 #[.slice A1 m c1] W fun e w' => ∃ A c, e = .returned (.tuple #[.slice A n c, .int .i64 r]) ∧ n ≤ c ∧ Kd.C k39 w' A n u ∧ Below W.heap.size W w' := by
  subst hn; subst hm
  refine (Not_ok A1 c1 a W h1 hc1).mono ?_
  rintro e w' ⟨v, rfl, hR, hb⟩
  rw [h] at hR ⊢
  obtain ⟨A, c, rfl, hl, hC⟩ := read_of hR
  exact ⟨A, c, rfl, hl, hC, hb⟩
theorem Union_e (h : sMade or a b = (u, r)) (hn : u.length = n) (hm : a.length = m) (hk : b.length = k) (A1 : Option Addr) (c1 : Nat) (A2 : Option Addr) (c2 : Nat) (W : World) (h1 : Kd.C k39 W A1 m a) (h2 : Kd.C k39 W A2 k b) (hc1 : m ≤ c1) (hc2 : k ≤ c2) : Calls Try.prog 20 #[.slice A1 m c1, .slice A2 k c2] W fun e w' => ∃ A c, e = .returned (.tuple #[.slice A n c, .int .i64 r]) ∧ n ≤ c ∧ Kd.C k39 w' A n u ∧ Below W.heap.size W w' := by
  subst hn; subst hm; subst hk
  refine (Union_ok A1 A2 c1 c2 a b W h1 h2 hc1 hc2).mono ?_
  rintro e w' ⟨v, rfl, hR, hb⟩
  rw [h] at hR ⊢
  obtain ⟨A, c, rfl, hl, hC⟩ := read_of hR
  exact ⟨A, c, rfl, hl, hC, hb⟩
theorem Both_e (h : sMade and a b = (u, r)) (hn : u.length = n) (hm : a.length = m) (hk : b.length = k) (A1 : Option Addr) (c1 : Nat) (A2 : Option Addr) (c2 : Nat) (W : World) (h1 : Kd.C k39 W A1 m a) (h2 : Kd.C k39 W A2 k b) (hc1 : m ≤ c1) (hc2 : k ≤ c2) : Calls Try.prog 22 #[.slice A1 m c1, .slice A2 k c2] W fun e w' => ∃ A c, e = .returned (.tuple #[.slice A n c, .int .i64 r]) ∧ n ≤ c ∧ Kd.C k39 w' A n u ∧ Below W.heap.size W w' := by
  subst hn; subst hm; subst hk
  refine (Both_ok A1 A2 c1 c2 a b W h1 h2 hc1 hc2).mono ?_
  rintro e w' ⟨v, rfl, hR, hb⟩
  rw [h] at hR ⊢
  obtain ⟨A, c, rfl, hl, hC⟩ := read_of hR
  exact ⟨A, c, rfl, hl, hC, hb⟩
theorem Of_e (h : sOf a = (u, r)) (hn : u.length = n) (hm : a.length = m) (A1 : Option Addr) (c1 : Nat) (W : World) (h1 : Kd.C k39 W A1 m a) : Calls Try.prog 11 #[.slice A1 m c1] W fun e w' => ∃ A c, e = .returned (.tuple #[.slice A n c, .int .i64 r]) ∧ n ≤ c ∧ Kd.C k39 w' A n u ∧ Below W.heap.size W w' := by
  subst hn; subst hm
  refine (Of_ok A1 c1 a W h1).mono ?_
  rintro e w' ⟨v, rfl, hR, hb⟩
  rw [h] at hR ⊢
  obtain ⟨A, c, rfl, hl, hC⟩ := read_of hR
  exact ⟨A, c, rfl, hl, hC, hb⟩
theorem Check_e (h : sCheck a = r) (hm : a.length = m) (A1 : Option Addr) (c1 : Nat) (W : World) (h1 : Kd.C k39 W A1 m a) (hc1 : m ≤ c1) : Calls Try.prog 14 #[.slice A1 m c1] W fun e w' => e = .returned (.int .i64 r) ∧ Below W.heap.size W w' := by
  subst hm
  exact charset_Check.calls (a.length + 1) A1 c1 a r W h1 hc1 (by rw [check_ff a (Nat.lt_succ_self _), h])
theorem set_e (x y : Int) (W : World) : Calls Try.prog 33 #[.int .i64 x, .int .i64 y] W fun e w' => ∃ A c, e = .returned (.slice A 1 c) ∧ 1 ≤ c ∧ Kd.C k39 w' A 1 [⟨x, y⟩] ∧ Below W.heap.size W w' := set_w x y W
end
section
variable {ls us : List (List Sp)} {r : Int} {n m : Nat}
theorem Parts_e0 (h : sParts ls = ([], r)) (hm : ls.length = m) (A1 : Option Addr) (c1 : Nat) (W : World) (h1 : Kd.C (Kd.slice 39 k39) W A1 m ls) (hc1 : m ≤ c1) : Calls Try.prog 30 #[.slice A1 m c1] W fun e w' => ∃ A c, e = .returned (.tuple #[.slice A 0 c, .int .i64 r]) ∧ Below W.heap.size W w' := by
  subst hm
  refine (Parts_ok A1 c1 ls W h1 hc1).mono ?_
  rintro e w' ⟨v, rfl, hR, hb⟩
  rw [h] at hR ⊢
  obtain ⟨A, c, rfl⟩ := Kd.R_slice (Kd.S_R hR)
  exact ⟨A, c, rfl, hb⟩
def PAt (W : World) (g : Nat) (us : List (List Sp)) : Prop := ∀ i s, us[i]? = some s → ∃ A c, W.cell? ⟨g, i, none⟩ = some (.slice A s.length c) ∧ s.length ≤ c ∧ Kd.C k39 W A s.length s
theorem Parts_e (h : sParts ls = (us, r)) (hn : us.length = n + 1) (hm : ls.length = m) (A1 : Option Addr) (c1 : Nat) (W : World) (h1 : Kd.C (Kd.slice 39 k39) W A1 m ls) (hc1 : m ≤ c1) : Calls Try.prog 30 #[.slice A1 m c1] W fun e w' => ∃ g c, e = .returned (.tuple #[.slice (some ⟨g, 0, none⟩) (n + 1) c, .int .i64 r]) ∧ PAt w' g us ∧ Below W.heap.size W w' := by
  subst hm
  refine (Parts_ok A1 c1 ls W h1 hc1).mono ?_
  rintro e w' ⟨v, rfl, hR, hb⟩
  rw [h] at hR ⊢
  simp only at hR ⊢
  have hR := Kd.S_R hR
  obtain ⟨g, c, rfl, _⟩ := Kd.R_form hR (by omega)
  rw [hn] at hR
  refine ⟨g, c, by simp only [hn], fun i s hs => ?_, hb⟩
  have hi := (List.getElem?_eq_some_iff.1 hs).1
  have h3 := (Kd.R_reads' hR).2.2
  obtain ⟨ad, A, c', e1, h4, h5, h6⟩ := at_L2 h3 (i : Int) (by omega) (by omega)
  injection e1 with e1
  subst e1
  have e2 : rd_L2 us (i : Int) = s := by
    rw [rdL hi]
    exact (List.getElem?_eq_some_iff.1 hs).2
  rw [e2] at h4 h5 h6
  rw [Int.toNat_natCast, show (⟨g, 0, none⟩ : Addr).add i = ⟨g, i, none⟩ by simp [Addr.add]; omega] at h4
  exact ⟨A, c', h4, h5, h6⟩
end
theorem lit_ls (W : World) (g : Nat) (vs : List SV) (ss : List (List Sp)) (cs : Array Value) (t : TypeId) (hg : W.heap.size = g) (hcs : cs.toList = vs.map encSV) (hn : ss.length ≤ 1000000) (ho : CutOk W vs ss) : Kd.C (Kd.slice 39 k39) (W.alloc (.cells cs t)) (some ⟨g, 0, none⟩) ss.length ss := by
  subst hg
  refine ⟨rfl, by omega, fun _ => ⟨_, rfl, fun j s hj => ?_⟩⟩
  have hjl := (List.getElem?_eq_some_iff.1 hj).1
  obtain ⟨x, hx⟩ : ∃ x, vs[j]? = some x := ⟨_, List.getElem?_eq_getElem (by rw [ho.1]; exact hjl)⟩
  obtain ⟨k1, k2, k3⟩ := ho.2 j x s hx hj
  refine ⟨[encSV x], rfl, ⟨x.1, x.2.2, by unfold encSV; rw [k1], k2, Kd.C_below k3 (below_alloc (Below.refl _ _) _)⟩, fun i u hi => ?_⟩
  match i, hi with
  | 0, hi =>
    injection hi with hi
    subst hi
    show (W.alloc (.cells cs t)).cell? ((⟨W.heap.size, 0, none⟩ : Addr).add (j * 1 + 0)) = some (encSV x)
    rw [show (⟨W.heap.size, 0, none⟩ : Addr).add (j * 1 + 0) = ⟨W.heap.size, j, none⟩ by simp [Addr.add]; omega, blk_cell (blk_new W _), ← Array.getElem?_toList, hcs, List.getElem?_map, hx]
    rfl
theorem cut1 {w : World} {A : Option Addr} {n c : Nat} {s : List Sp} (hn : n = s.length) (hc : s.length ≤ c) (hC : Kd.C k39 w A s.length s) : CutOk w [(A, n, c)] [s] := by
  have h : CutOk w [] [] := ⟨rfl, fun i x s h => by simp at h⟩
  exact h.snoc hn hc hC
theorem cut2 {w : World} {A A' : Option Addr} {n c n' c' : Nat} {s s' : List Sp} (hn : n = s.length) (hc : s.length ≤ c) (hC : Kd.C k39 w A s.length s) (hn' : n' = s'.length) (hc' : s'.length ≤ c') (hC' : Kd.C k39 w A' s'.length s') : CutOk w [(A, n, c), (A', n', c')] [s, s'] :=
  (cut1 hn hc hC).snoc hn' hc' hC'
theorem made33 (W : World) (g : Nat) (t : TypeId) (cs : Array Value) (hg : W.heap.size = g) (hcs : cs.toList = List.replicate 33 (.slice none 0 0)) : Kd.C (Kd.slice 39 k39) (W.alloc (.cells cs t)) (some ⟨g, 0, none⟩) 33 (List.replicate 33 []) := by
  have h := lit_ls W g (List.replicate 33 ((none, 0, 0) : SV)) (List.replicate 33 []) cs t hg (by rw [hcs]; rfl) (by decide) ⟨rfl, fun i x s hx hs => by
    have h1 := List.eq_of_mem_replicate (List.mem_of_getElem? hx)
    have h2 := List.eq_of_mem_replicate (List.mem_of_getElem? hs)
    subst h1; subst h2
    exact ⟨rfl, Nat.le_refl _, Kd.C_nil _ _⟩⟩
  exact h
theorem sOf_set {l : List Sp} (h : sCheck l = 0) : sOf l = (l, 0) := by
  have hl := ((sCheck_ok l).1 h).1
  have hf := sOf_fine hl (fun x hx => may_of h hx)
  exact Prod.ext (set_uniq (sOf_good l) h hf.2) hf.1
end Go.Proofs.Ytingbjdpjimikaa.B
