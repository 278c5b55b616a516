/-
  The row of PlaceBack, in its second form: for every input of bulk at most 1048576 the call answers true, and the input reads as it did.
-/
import Derived.WalkKit
import Derived.ProofKit
import Derived.OpenShut
import Derived.ShutString
import Derived.ChangeOld
import Derived.Below
import Derived.SizedLaws
import Derived.JoinedCond
import Derived.Test.YtogfaahdbecdnaaZH6
set_option linter.unusedSimpArgs false
set_option linter.unusedVariables false
/-
  PlaceUnits, PlaceOrder, walked.
-/
namespace Go.Proofs.Ytogfaahdbecdnaa.B
open Go.RowKit Go.Shelf Go.Proofs Go.Proofs.YtogfaahdbecdnaaW.PrintWords Go.Proofs.YtogfaahdbecdnaaW.PrintLast Go.Proofs.YtogfaahdbecdnaaW.PrintMore Go.Proofs.Ytogfaahdbecdnaa.FBase
set_option linter.unusedVariables false
set_option linter.unusedSimpArgs false

/-- A text without ends of lines is one line. -/
theorem lns_one (l : List Int) (h : ∀ j : Nat, j < l.length → rd l j ≠ 10 ∧ rd l j ≠ 13) : lns l 0 0 = [⟨0, l.length, l.length⟩] := by
  have h1 := lns_skip l 0 l.length 0 (by omega) (fun j _ hj => h j (by omega))
  rw [List.drop_zero, show ((0 : Nat) : Int) = 0 from rfl] at h1
  rw [h1, Nat.zero_add, List.drop_length]
  simp [lns]
theorem seg_one (l : List Int) : seg l ⟨0, l.length, l.length⟩ = l := by simp [seg]

set_option maxRecDepth 100000 in
set_option maxHeartbeats 2000000 in
theorem PlaceUnits_ok (k : Nat) (A : Option Addr) (c : Nat) (l : List Int) (r1 r2 : Int) (char : Int) (w : World) (hr : Kd.C (Kd.int .u8) w A l.length l) (hc : l.length ≤ c) (hn : A = none → c = 0) (hB : Bytes l) (h : runes_Check.f k l = some (r1, r2)) (hk : chk l = (r1, r2)) (hs : l.length ≤ 1048576) :
    Calls Try.prog 16 #[.slice A l.length c, .int .i64 char] w fun e w' => e = .returned (.bool true) ∧ Below w.heap.size w w' := by
  have HR := Aside0.mk hr
  have HS := Aside0.mk ((Sta.start w).only hr (keeps_C _ _ _ _))
  have HC := Aside0.mk hc
  have H := Aside0.mk h
  have HBY := Aside0.mk hB
  have HKK := Aside0.mk hk
  clear hr hc h hB hk
  go_enter Try.func16, Try.ntmps16
  go_wp2_with (go_at_call 36; refine (pworks_ok _).mono ?_; rintro e w1 ⟨rfl, hb⟩; have m_ := Aside0.mk (HS.out.call (by repeat (first | exact Below.refl _ _ | apply below_alloc | apply pw_below_drewN | apply below_drew1)) hb); clear HS hb ; have HS := m_; clear m_)
  go_loop [5] (fun s5 => ∃ i : Nat, s5 = .int .i64 i ∧ i ≤ l.length ∧ Aside0 (∀ j : Nat, j < i → rd l j ≠ 10 ∧ rd l j ≠ 13)) (fun s5 => l.length - (intOf s5).toNat)
  case atStart => exact ⟨0, rfl, Nat.zero_le _, ⟨fun j hj => absurd hj (Nat.not_lt_zero _)⟩⟩
  case round =>
    obtain ⟨i, rfl, hi, HN⟩ := hrel
    by_cases hlt : i < l.length
    · obtain ⟨ad, e, hx⟩ := Kd.at_int HS.out.now (i : Int) (by omega) (by omega)
      rw [Int.toNat_natCast] at hx
      cases e
      have i1 : (i : Int) < l.length := by omega
      by_cases b10 : rd l i = 10
      · rw [b10] at hx
        go_wp2
        go_ret
        exact ⟨rfl, HS.out.bel⟩
      · have c10 : (rd l i == 10) = false := beq_eq_false_iff_ne.mpr b10
        by_cases b13 : rd l i = 13
        · have c13 : (rd l i == 13) = true := beq_iff_eq.mpr b13
          clear b10 b13
          go_wp2
          go_ret
          exact ⟨rfl, HS.out.bel⟩
        · have c13 : (rd l i == 13) = false := beq_eq_false_iff_ne.mpr b13
          have HN2 := Aside0.mk (show ∀ j : Nat, j < i + 1 → rd l j ≠ 10 ∧ rd l j ≠ 13 from fun j hj => by
            rcases Nat.lt_succ_iff_lt_or_eq.1 hj with h | h
            · exact HN.out j h
            · subst h; exact ⟨b10, b13⟩)
          clear b10 b13
          go_wp2
          go_round
          case measure => simp [intOf]; omega
          case rel => exact ⟨i + 1, by simp, hlt, HN2⟩
    · obtain rfl : i = l.length := by omega
      by_cases hz : r2 = 0
      · subst hz
        have hv : V l := (chk_V HBY.out).1 (by rw [HKK.out])
        have hL := lns_one l HN.out
        have hcs : Cs l (chars l) := hv.chars
        obtain ⟨g, hsz⟩ := hcs.good HBY.out
        have BM := Aside0.mk (bring_f char 1099511627776 (by decide) (by decide))
        have c0 := Int.emod_nonneg char (show (1099511627776 : Int) ≠ 0 by decide)
        have c1 := Int.emod_lt_of_pos char (show (0 : Int) < 1099511627776 by decide)
        generalize char % 1099511627776 = ch at BM c0 c1
        have hP : poff l 0 ch = off (chars l) ch := by
          rw [poff_of hL, if_neg (by simp), show rdLn [⟨0, (l.length : Int), (l.length : Int)⟩] 0 = ⟨0, l.length, l.length⟩ from rfl, seg_one]
          simp
        have hF : fnd l l.length = (0 : Nat) := fnd_eq (by rw [hL]; exact ⟨by simp, fun t ht => absurd ht (Nat.not_lt_zero _), fun h => absurd h (by simp)⟩)
        have hE : fnd l l.length = (0 : Nat) ∧ pch l l.length = un (chars l) := by
          refine ⟨hF, ?_⟩
          unfold pch
          rw [hF, hL, show rdLn [⟨0, (l.length : Int), (l.length : Int)⟩] (((0 : Nat) : Int)) = ⟨0, l.length, l.length⟩ from rfl, seg_one]
          exact (ufl_sz _ g (by rw [hsz]; simp)).1
        have HOF := Aside0.mk (Of_f HBY.out hs hcs (Nat.lt_succ_self _))
        have HP := Aside0.mk hP
        have HE := Aside0.mk hE
        have HV := Aside0.mk hv
        have HCS := Aside0.mk hcs
        clear hP hE hF hL hv hcs hsz g
        generalize chars l = rs at *
        go_wp2_with (first | (go_at_call 43; refine (made_ok k A c l r1 _ (HS.out.step (by repeat (first | exact Below.refl _ _ | apply below_alloc | apply pw_below_drewN | apply below_drew1))).now HC.out hn H.out hs).mono ?_; rintro e w2 ⟨m, rfl, hM, hb⟩; have m_ := Aside0.mk ((HS.out.call (by repeat (first | exact Below.refl _ _ | apply below_alloc | apply pw_below_drewN | apply below_drew1)) hb).add hM (keeps_map _ _)); clear HS hb hM; have HS := m_; clear m_) | (go_at_call 29; refine (colophonref00_Bring.calls _ _ _ _ BM.out).mono ?_; rintro e w3 ⟨rfl, nq, rfl⟩) | (go_at_call 45; refine (pos_ok _ _ _).mono ?_; rintro e w4 ⟨rfl, hb⟩; have m_ := Aside0.mk (HS.out.call (by repeat (first | exact Below.refl _ _ | apply below_alloc | apply pw_below_drewN | apply below_drew1)) hb); clear HS hb ; have HS := m_; clear m_) | (go_at_call 37; refine (MOffset_is m l 0 ch _ (HS.out.step (by repeat (first | exact Below.refl _ _ | apply below_alloc | apply pw_below_drewN | apply below_drew1))).now.1 hs HBY.out HV.out (by decide) c0 (by omega)).mono ?_; rintro e w5 ⟨rfl, hb⟩; rw [HP.out]; have m_ := Aside0.mk (HS.out.call (by repeat (first | exact Below.refl _ _ | apply below_alloc | apply pw_below_drewN | apply below_drew1)) hb); clear HS hb ; have HS := m_; clear m_) | (go_at_call 47; refine (UOffset_ok A c l rs ch _ (HS.out.step (by repeat (first | exact Below.refl _ _ | apply below_alloc | apply pw_below_drewN | apply below_drew1))).now.2 HC.out HBY.out hs HCS.out c0 (by omega)).mono ?_; rintro e w6 ⟨rfl, hb⟩; have m_ := Aside0.mk (HS.out.call (by repeat (first | exact Below.refl _ _ | apply below_alloc | apply pw_below_drewN | apply below_drew1)) hb); clear HS hb ; have HS := m_; clear m_) | (go_at_call 46; refine (units_Of.calls _ A c l _ _ _ (HS.out.step (by repeat (first | exact Below.refl _ _ | apply below_alloc | apply pw_below_drewN | apply below_drew1))).now.2 HC.out HOF.out).mono ?_; rintro e w7 ⟨rfl, no, rfl⟩) | (go_at_call 41; refine (MEnd_is m l _ (HS.out.step (by repeat (first | exact Below.refl _ _ | apply below_alloc | apply pw_below_drewN | apply below_drew1))).now.1 hs HBY.out HV.out).mono ?_; rintro e w8 ⟨rfl, hb⟩; rw [HE.out.1, HE.out.2]; have m_ := Aside0.mk (HS.out.call (by repeat (first | exact Below.refl _ _ | apply below_alloc | apply pw_below_drewN | apply below_drew1)) hb); clear HS hb ; have HS := m_; clear m_))
        go_ret
        exact ⟨rfl, HS.out.bel⟩
      · go_wp2_with (go_at_call 43; refine (made_err k A c l r1 r2 _ (HS.out.step (by repeat (first | exact Below.refl _ _ | apply below_alloc | apply pw_below_drewN | apply below_drew1))).now HC.out H.out hz).mono ?_; rintro e w2 ⟨rfl, hb⟩; have m_ := Aside0.mk (HS.out.call (by repeat (first | exact Below.refl _ _ | apply below_alloc | apply pw_below_drewN | apply below_drew1)) hb); clear HS hb ; have HS := m_; clear m_)
        go_ret
        exact ⟨rfl, HS.out.bel⟩

theorem PlaceUnits_row (A : Option Addr) (n c : Nat) (zs : List Int) (p : Int) (W : World) (h : IsRow .u8 W A n c zs) (hb : c ≤ 1048576) (_hp : (Lit.int .i64 p).wf = true) :
    Calls Try.prog 16 #[.slice A n c, .int .i64 p] W fun e w' => e = .returned (.bool true) ∧ Below W.heap.size W w' := by
  have hn : A = none → c = 0 := fun e => by
    subst e
    rcases h with ⟨_, _, h, _⟩ | ⟨x, h, _⟩
    · exact h
    · cases h
  obtain ⟨l, rfl, hc, hC, hw⟩ := h.reads
  have hB : Bytes l := fun x hx => byte_wf (hw x hx)
  exact PlaceUnits_ok _ A c l _ _ p W hC hc hn hB (Check_f l hB (by omega) (Nat.lt_succ_self _)) rfl (by omega)

theorem FindAt.rise {L : List Ln} {a b : Int} {r s : Nat} (h : FindAt L a r) (k : FindAt L b s) (hab : a ≤ b) : r ≤ s := by
  refine Nat.le_of_not_lt (fun hlt => ?_)
  have h1 := h.2.1 s hlt
  have h2 := k.2.2 (by have := h.1; omega)
  omega
/-- Bytes in order have places in order. -/
theorem places_rise (l : List Int) (hB : Bytes l) (hv : V l) (a b : Int) (hab : a ≤ b) : fnd l a < fnd l b ∨ (fnd l a = fnd l b ∧ pch l a ≤ pch l b) := by
  have h1 := (fnd_is l a).rise (fnd_is l b) hab
  rcases Nat.lt_or_eq_of_le h1 with h | h
  · exact .inl h
  · refine .inr ⟨h, ?_⟩
    unfold pch
    rw [h]
    have hlt := (fnd_is l b).1
    obtain ⟨g, _⟩ := (line_V hB hv _ hlt).chars.good (fun y hy => hB y (List.mem_of_mem_take (List.mem_of_mem_drop hy)))
    exact ufl_mono _ _ g (by omega)

set_option maxRecDepth 100000 in
set_option maxHeartbeats 2000000 in
theorem PlaceOrder_ok (k : Nat) (A : Option Addr) (c : Nat) (l : List Int) (r1 r2 : Int) (n k_ : Int) (w : World) (hr : Kd.C (Kd.int .u8) w A l.length l) (hc : l.length ≤ c) (hn : A = none → c = 0) (hB : Bytes l) (h : runes_Check.f k l = some (r1, r2)) (hk : chk l = (r1, r2)) (hs : l.length ≤ 1048576) :
    Calls Try.prog 14 #[.slice A l.length c, .int .i64 n, .int .i64 k_] w fun e w' => e = .returned (.bool true) ∧ Below w.heap.size w w' := by
  have HS := Aside0.mk ((Sta.start w).only hr (keeps_C _ _ _ _))
  have HC := Aside0.mk hc
  have H := Aside0.mk h
  have HBY := Aside0.mk hB
  have HKK := Aside0.mk hk
  clear hr hc h hB hk
  by_cases hz : r2 = 0
  · subst hz
    have hv : V l := (chk_V HBY.out).1 (by rw [HKK.out])
    have BM := Aside0.mk (bring_f n ((l.length : Int) + 1) (by omega) (by omega))
    have BM2 := Aside0.mk (bring_f k_ ((l.length : Int) + 1) (by omega) (by omega))
    have n0 := Int.emod_nonneg n (show ((l.length : Int) + 1) ≠ 0 by omega)
    have n1 := Int.emod_lt_of_pos n (show 0 < ((l.length : Int) + 1) by omega)
    have k0 := Int.emod_nonneg k_ (show ((l.length : Int) + 1) ≠ 0 by omega)
    have k1 := Int.emod_lt_of_pos k_ (show 0 < ((l.length : Int) + 1) by omega)
    generalize n % ((l.length : Int) + 1) = nn at *
    generalize k_ % ((l.length : Int) + 1) = kk at *
    have HV := Aside0.mk hv
    have t1 := True.intro
    have t2 := True.intro
    have t3 := True.intro
    have t4 := True.intro
    rcases Int.lt_trichotomy nn kk with hlt | heq | hlt
    · have hp := places_rise l HBY.out HV.out nn kk (by omega)
      obtain ⟨lo, hlo⟩ : ∃ lo, lo = nn := ⟨_, rfl⟩
      obtain ⟨hi, hhi⟩ : ∃ hi, hi = kk := ⟨_, rfl⟩
      subst hlo hhi
      have l0 : 0 ≤ lo := n0
      have h1 : hi ≤ l.length := by omega
      have hle : lo ≤ hi := by omega
      clear hv
      obtain ⟨fl, hfl⟩ : ∃ fl, fl = fnd l lo := ⟨_, rfl⟩
      obtain ⟨fh, hfh⟩ : ∃ fh, fh = fnd l hi := ⟨_, rfl⟩
      obtain ⟨pl, hpl⟩ : ∃ pl, pl = pch l lo := ⟨_, rfl⟩
      obtain ⟨ph, hph⟩ : ∃ ph, ph = pch l hi := ⟨_, rfl⟩
      rw [← hfl, ← hfh, ← hpl, ← hph] at hp
      have HFL := Aside0.mk hfl
      have HFH := Aside0.mk hfh
      have HPL := Aside0.mk hpl
      have HPH := Aside0.mk hph
      clear hfl hfh hpl hph
      rcases hp with hp | ⟨hp, hq⟩
      · have hp2 : (fl : Int) < fh := by omega
        clear hp
        go_enter Try.func14, Try.ntmps14
        go_wp2_with (first | (go_at_call 36; refine (pworks_ok _).mono ?_; rintro e w1 ⟨rfl, hb⟩; have m_ := Aside0.mk (HS.out.call (by repeat (first | exact Below.refl _ _ | apply below_alloc | apply pw_below_drewN | apply below_drew1)) hb); clear HS hb ; have HS := m_; clear m_) | (go_at_call 43; refine (made_ok k A c l r1 _ (HS.out.step (by repeat (first | exact Below.refl _ _ | apply below_alloc | apply pw_below_drewN | apply below_drew1))).now HC.out hn H.out hs).mono ?_; rintro e w2 ⟨m, rfl, hM, hb⟩; have m_ := Aside0.mk ((HS.out.call (by repeat (first | exact Below.refl _ _ | apply below_alloc | apply pw_below_drewN | apply below_drew1)) hb).add hM (keeps_map _ _)); clear HS hb hM; have HS := m_; clear m_) | (have _t := t1; go_at_call 29; refine (colophonref00_Bring.calls n _ _ _ BM.out).mono ?_; rintro e w3 ⟨rfl, nq, rfl⟩; clear t1 _t) | (have _t := t2; go_at_call 29; refine (colophonref00_Bring.calls k_ _ _ _ BM2.out).mono ?_; rintro e w3 ⟨rfl, nq2, rfl⟩; clear t2 _t) | (have _t := t3; go_at_call 39; refine (MPos_is m l lo _ (HS.out.step (by repeat (first | exact Below.refl _ _ | apply below_alloc | apply pw_below_drewN | apply below_drew1))).now.1 hs HBY.out HV.out l0 (by omega)).mono ?_; rintro e w5 ⟨rfl, hb⟩; rw [← HFL.out, ← HPL.out]; have m_ := Aside0.mk (HS.out.call (by repeat (first | exact Below.refl _ _ | apply below_alloc | apply pw_below_drewN | apply below_drew1)) hb); clear HS hb ; have HS := m_; clear m_; clear t3 _t) | (have _t := t4; go_at_call 39; refine (MPos_is m l hi _ (HS.out.step (by repeat (first | exact Below.refl _ _ | apply below_alloc | apply pw_below_drewN | apply below_drew1))).now.1 hs HBY.out HV.out (by omega) h1).mono ?_; rintro e w6 ⟨rfl, hb⟩; rw [← HFH.out, ← HPH.out]; have zb := blk_new w5 (.cells #[.int .i64 fl, .int .i64 pl] 58); have z0 := cell_alloc1 (cell_below ((blk_cell zb 0).trans rfl) hb); have z1 := cell_alloc1 (cell_below ((blk_cell zb 1).trans rfl) hb); clear zb; have m_ := Aside0.mk (HS.out.call (by repeat (first | exact Below.refl _ _ | apply below_alloc | apply pw_below_drewN | apply below_drew1)) hb); clear HS hb ; have HS := m_; clear m_; clear t4 _t))
        go_ret
        exact ⟨rfl, (HS.out.step (by repeat (first | exact Below.refl _ _ | apply below_alloc | apply pw_below_drewN | apply below_drew1))).bel⟩
      · subst hp
        have hp2 : ¬ (fl : Int) < fl := by omega
        go_enter Try.func14, Try.ntmps14
        go_wp2_with (first | (go_at_call 36; refine (pworks_ok _).mono ?_; rintro e w1 ⟨rfl, hb⟩; have m_ := Aside0.mk (HS.out.call (by repeat (first | exact Below.refl _ _ | apply below_alloc | apply pw_below_drewN | apply below_drew1)) hb); clear HS hb ; have HS := m_; clear m_) | (go_at_call 43; refine (made_ok k A c l r1 _ (HS.out.step (by repeat (first | exact Below.refl _ _ | apply below_alloc | apply pw_below_drewN | apply below_drew1))).now HC.out hn H.out hs).mono ?_; rintro e w2 ⟨m, rfl, hM, hb⟩; have m_ := Aside0.mk ((HS.out.call (by repeat (first | exact Below.refl _ _ | apply below_alloc | apply pw_below_drewN | apply below_drew1)) hb).add hM (keeps_map _ _)); clear HS hb hM; have HS := m_; clear m_) | (have _t := t1; go_at_call 29; refine (colophonref00_Bring.calls n _ _ _ BM.out).mono ?_; rintro e w3 ⟨rfl, nq, rfl⟩; clear t1 _t) | (have _t := t2; go_at_call 29; refine (colophonref00_Bring.calls k_ _ _ _ BM2.out).mono ?_; rintro e w3 ⟨rfl, nq2, rfl⟩; clear t2 _t) | (have _t := t3; go_at_call 39; refine (MPos_is m l lo _ (HS.out.step (by repeat (first | exact Below.refl _ _ | apply below_alloc | apply pw_below_drewN | apply below_drew1))).now.1 hs HBY.out HV.out l0 (by omega)).mono ?_; rintro e w5 ⟨rfl, hb⟩; rw [← HFL.out, ← HPL.out]; have m_ := Aside0.mk (HS.out.call (by repeat (first | exact Below.refl _ _ | apply below_alloc | apply pw_below_drewN | apply below_drew1)) hb); clear HS hb ; have HS := m_; clear m_; clear t3 _t) | (have _t := t4; go_at_call 39; refine (MPos_is m l hi _ (HS.out.step (by repeat (first | exact Below.refl _ _ | apply below_alloc | apply pw_below_drewN | apply below_drew1))).now.1 hs HBY.out HV.out (by omega) h1).mono ?_; rintro e w6 ⟨rfl, hb⟩; rw [← HFH.out, ← HPH.out]; have zb := blk_new w5 (.cells #[.int .i64 fl, .int .i64 pl] 58); have z0 := cell_alloc1 (cell_below ((blk_cell zb 0).trans rfl) hb); have z1 := cell_alloc1 (cell_below ((blk_cell zb 1).trans rfl) hb); clear zb; have m_ := Aside0.mk (HS.out.call (by repeat (first | exact Below.refl _ _ | apply below_alloc | apply pw_below_drewN | apply below_drew1)) hb); clear HS hb ; have HS := m_; clear m_; clear t4 _t))
        go_ret
        exact ⟨rfl, (HS.out.step (by repeat (first | exact Below.refl _ _ | apply below_alloc | apply pw_below_drewN | apply below_drew1))).bel⟩
    · have hp := places_rise l HBY.out HV.out nn kk (by omega)
      subst heq
      obtain ⟨lo, hlo⟩ : ∃ lo, lo = nn := ⟨_, rfl⟩
      subst hlo
      have l0 : 0 ≤ lo := n0
      have h1 : lo ≤ l.length := by omega
      clear hv
      obtain ⟨fl, hfl⟩ : ∃ fl, fl = fnd l lo := ⟨_, rfl⟩
      obtain ⟨pl, hpl⟩ : ∃ pl, pl = pch l lo := ⟨_, rfl⟩
      clear hp
      have HFL := Aside0.mk hfl
      have HPL := Aside0.mk hpl
      clear hfl hpl
      have hp2 : ¬ (fl : Int) < fl := by omega
      go_enter Try.func14, Try.ntmps14
      go_wp2_with (first | (go_at_call 36; refine (pworks_ok _).mono ?_; rintro e w1 ⟨rfl, hb⟩; have m_ := Aside0.mk (HS.out.call (by repeat (first | exact Below.refl _ _ | apply below_alloc | apply pw_below_drewN | apply below_drew1)) hb); clear HS hb ; have HS := m_; clear m_) | (go_at_call 43; refine (made_ok k A c l r1 _ (HS.out.step (by repeat (first | exact Below.refl _ _ | apply below_alloc | apply pw_below_drewN | apply below_drew1))).now HC.out hn H.out hs).mono ?_; rintro e w2 ⟨m, rfl, hM, hb⟩; have m_ := Aside0.mk ((HS.out.call (by repeat (first | exact Below.refl _ _ | apply below_alloc | apply pw_below_drewN | apply below_drew1)) hb).add hM (keeps_map _ _)); clear HS hb hM; have HS := m_; clear m_) | (have _t := t1; go_at_call 29; refine (colophonref00_Bring.calls n _ _ _ BM.out).mono ?_; rintro e w3 ⟨rfl, nq, rfl⟩; clear t1 _t) | (have _t := t2; go_at_call 29; refine (colophonref00_Bring.calls k_ _ _ _ BM2.out).mono ?_; rintro e w3 ⟨rfl, nq2, rfl⟩; clear t2 _t) | (have _t := t3; go_at_call 39; refine (MPos_is m l lo _ (HS.out.step (by repeat (first | exact Below.refl _ _ | apply below_alloc | apply pw_below_drewN | apply below_drew1))).now.1 hs HBY.out HV.out l0 (by omega)).mono ?_; rintro e w5 ⟨rfl, hb⟩; rw [← HFL.out, ← HPL.out]; have m_ := Aside0.mk (HS.out.call (by repeat (first | exact Below.refl _ _ | apply below_alloc | apply pw_below_drewN | apply below_drew1)) hb); clear HS hb ; have HS := m_; clear m_; clear t3 _t) | (have _t := t4; go_at_call 39; refine (MPos_is m l lo _ (HS.out.step (by repeat (first | exact Below.refl _ _ | apply below_alloc | apply pw_below_drewN | apply below_drew1))).now.1 hs HBY.out HV.out (by omega) h1).mono ?_; rintro e w6 ⟨rfl, hb⟩; rw [← HFL.out, ← HPL.out]; have zb := blk_new w5 (.cells #[.int .i64 fl, .int .i64 pl] 58); have z0 := cell_alloc1 (cell_below ((blk_cell zb 0).trans rfl) hb); have z1 := cell_alloc1 (cell_below ((blk_cell zb 1).trans rfl) hb); clear zb; have m_ := Aside0.mk (HS.out.call (by repeat (first | exact Below.refl _ _ | apply below_alloc | apply pw_below_drewN | apply below_drew1)) hb); clear HS hb ; have HS := m_; clear m_; clear t4 _t))
      go_ret
      exact ⟨rfl, (HS.out.step (by repeat (first | exact Below.refl _ _ | apply below_alloc | apply pw_below_drewN | apply below_drew1))).bel⟩
    · have hp := places_rise l HBY.out HV.out kk nn (by omega)
      obtain ⟨lo, hlo⟩ : ∃ lo, lo = kk := ⟨_, rfl⟩
      obtain ⟨hi, hhi⟩ : ∃ hi, hi = nn := ⟨_, rfl⟩
      subst hlo hhi
      have l0 : 0 ≤ lo := k0
      have h1 : hi ≤ l.length := by omega
      have hle : lo ≤ hi := by omega
      clear hv
      obtain ⟨fl, hfl⟩ : ∃ fl, fl = fnd l lo := ⟨_, rfl⟩
      obtain ⟨fh, hfh⟩ : ∃ fh, fh = fnd l hi := ⟨_, rfl⟩
      obtain ⟨pl, hpl⟩ : ∃ pl, pl = pch l lo := ⟨_, rfl⟩
      obtain ⟨ph, hph⟩ : ∃ ph, ph = pch l hi := ⟨_, rfl⟩
      rw [← hfl, ← hfh, ← hpl, ← hph] at hp
      have HFL := Aside0.mk hfl
      have HFH := Aside0.mk hfh
      have HPL := Aside0.mk hpl
      have HPH := Aside0.mk hph
      clear hfl hfh hpl hph
      rcases hp with hp | ⟨hp, hq⟩
      · have hp2 : (fl : Int) < fh := by omega
        clear hp
        go_enter Try.func14, Try.ntmps14
        go_wp2_with (first | (go_at_call 36; refine (pworks_ok _).mono ?_; rintro e w1 ⟨rfl, hb⟩; have m_ := Aside0.mk (HS.out.call (by repeat (first | exact Below.refl _ _ | apply below_alloc | apply pw_below_drewN | apply below_drew1)) hb); clear HS hb ; have HS := m_; clear m_) | (go_at_call 43; refine (made_ok k A c l r1 _ (HS.out.step (by repeat (first | exact Below.refl _ _ | apply below_alloc | apply pw_below_drewN | apply below_drew1))).now HC.out hn H.out hs).mono ?_; rintro e w2 ⟨m, rfl, hM, hb⟩; have m_ := Aside0.mk ((HS.out.call (by repeat (first | exact Below.refl _ _ | apply below_alloc | apply pw_below_drewN | apply below_drew1)) hb).add hM (keeps_map _ _)); clear HS hb hM; have HS := m_; clear m_) | (have _t := t1; go_at_call 29; refine (colophonref00_Bring.calls n _ _ _ BM.out).mono ?_; rintro e w3 ⟨rfl, nq, rfl⟩; clear t1 _t) | (have _t := t2; go_at_call 29; refine (colophonref00_Bring.calls k_ _ _ _ BM2.out).mono ?_; rintro e w3 ⟨rfl, nq2, rfl⟩; clear t2 _t) | (have _t := t3; go_at_call 39; refine (MPos_is m l lo _ (HS.out.step (by repeat (first | exact Below.refl _ _ | apply below_alloc | apply pw_below_drewN | apply below_drew1))).now.1 hs HBY.out HV.out l0 (by omega)).mono ?_; rintro e w5 ⟨rfl, hb⟩; rw [← HFL.out, ← HPL.out]; have m_ := Aside0.mk (HS.out.call (by repeat (first | exact Below.refl _ _ | apply below_alloc | apply pw_below_drewN | apply below_drew1)) hb); clear HS hb ; have HS := m_; clear m_; clear t3 _t) | (have _t := t4; go_at_call 39; refine (MPos_is m l hi _ (HS.out.step (by repeat (first | exact Below.refl _ _ | apply below_alloc | apply pw_below_drewN | apply below_drew1))).now.1 hs HBY.out HV.out (by omega) h1).mono ?_; rintro e w6 ⟨rfl, hb⟩; rw [← HFH.out, ← HPH.out]; have zb := blk_new w5 (.cells #[.int .i64 fl, .int .i64 pl] 58); have z0 := cell_alloc1 (cell_below ((blk_cell zb 0).trans rfl) hb); have z1 := cell_alloc1 (cell_below ((blk_cell zb 1).trans rfl) hb); clear zb; have m_ := Aside0.mk (HS.out.call (by repeat (first | exact Below.refl _ _ | apply below_alloc | apply pw_below_drewN | apply below_drew1)) hb); clear HS hb ; have HS := m_; clear m_; clear t4 _t))
        go_ret
        exact ⟨rfl, (HS.out.step (by repeat (first | exact Below.refl _ _ | apply below_alloc | apply pw_below_drewN | apply below_drew1))).bel⟩
      · subst hp
        have hp2 : ¬ (fl : Int) < fl := by omega
        go_enter Try.func14, Try.ntmps14
        go_wp2_with (first | (go_at_call 36; refine (pworks_ok _).mono ?_; rintro e w1 ⟨rfl, hb⟩; have m_ := Aside0.mk (HS.out.call (by repeat (first | exact Below.refl _ _ | apply below_alloc | apply pw_below_drewN | apply below_drew1)) hb); clear HS hb ; have HS := m_; clear m_) | (go_at_call 43; refine (made_ok k A c l r1 _ (HS.out.step (by repeat (first | exact Below.refl _ _ | apply below_alloc | apply pw_below_drewN | apply below_drew1))).now HC.out hn H.out hs).mono ?_; rintro e w2 ⟨m, rfl, hM, hb⟩; have m_ := Aside0.mk ((HS.out.call (by repeat (first | exact Below.refl _ _ | apply below_alloc | apply pw_below_drewN | apply below_drew1)) hb).add hM (keeps_map _ _)); clear HS hb hM; have HS := m_; clear m_) | (have _t := t1; go_at_call 29; refine (colophonref00_Bring.calls n _ _ _ BM.out).mono ?_; rintro e w3 ⟨rfl, nq, rfl⟩; clear t1 _t) | (have _t := t2; go_at_call 29; refine (colophonref00_Bring.calls k_ _ _ _ BM2.out).mono ?_; rintro e w3 ⟨rfl, nq2, rfl⟩; clear t2 _t) | (have _t := t3; go_at_call 39; refine (MPos_is m l lo _ (HS.out.step (by repeat (first | exact Below.refl _ _ | apply below_alloc | apply pw_below_drewN | apply below_drew1))).now.1 hs HBY.out HV.out l0 (by omega)).mono ?_; rintro e w5 ⟨rfl, hb⟩; rw [← HFL.out, ← HPL.out]; have m_ := Aside0.mk (HS.out.call (by repeat (first | exact Below.refl _ _ | apply below_alloc | apply pw_below_drewN | apply below_drew1)) hb); clear HS hb ; have HS := m_; clear m_; clear t3 _t) | (have _t := t4; go_at_call 39; refine (MPos_is m l hi _ (HS.out.step (by repeat (first | exact Below.refl _ _ | apply below_alloc | apply pw_below_drewN | apply below_drew1))).now.1 hs HBY.out HV.out (by omega) h1).mono ?_; rintro e w6 ⟨rfl, hb⟩; rw [← HFH.out, ← HPH.out]; have zb := blk_new w5 (.cells #[.int .i64 fl, .int .i64 pl] 58); have z0 := cell_alloc1 (cell_below ((blk_cell zb 0).trans rfl) hb); have z1 := cell_alloc1 (cell_below ((blk_cell zb 1).trans rfl) hb); clear zb; have m_ := Aside0.mk (HS.out.call (by repeat (first | exact Below.refl _ _ | apply below_alloc | apply pw_below_drewN | apply below_drew1)) hb); clear HS hb ; have HS := m_; clear m_; clear t4 _t))
        go_ret
        exact ⟨rfl, (HS.out.step (by repeat (first | exact Below.refl _ _ | apply below_alloc | apply pw_below_drewN | apply below_drew1))).bel⟩
  · clear hn
    go_enter Try.func14, Try.ntmps14
    go_wp2_with (first | (go_at_call 36; refine (pworks_ok _).mono ?_; rintro e w1 ⟨rfl, hb⟩; have m_ := Aside0.mk (HS.out.call (by repeat (first | exact Below.refl _ _ | apply below_alloc | apply pw_below_drewN | apply below_drew1)) hb); clear HS hb ; have HS := m_; clear m_) | (go_at_call 43; refine (made_err k A c l r1 r2 _ (HS.out.step (by repeat (first | exact Below.refl _ _ | apply below_alloc | apply pw_below_drewN | apply below_drew1))).now HC.out H.out hz).mono ?_; rintro e w2 ⟨rfl, hb⟩; have m_ := Aside0.mk (HS.out.call (by repeat (first | exact Below.refl _ _ | apply below_alloc | apply pw_below_drewN | apply below_drew1)) hb); clear HS hb ; have HS := m_; clear m_))
    go_ret
    exact ⟨rfl, HS.out.bel⟩
theorem PlaceOrder_row (A : Option Addr) (n c : Nat) (zs : List Int) (p q : Int) (W : World) (h : IsRow .u8 W A n c zs) (hb : c ≤ 1048576) (_hp : (Lit.int .i64 p).wf = true) (_hq : (Lit.int .i64 q).wf = true) :
    Calls Try.prog 14 #[.slice A n c, .int .i64 p, .int .i64 q] W fun e w' => e = .returned (.bool true) ∧ Below W.heap.size W w' := by
  have hn : A = none → c = 0 := fun e => by
    subst e
    rcases h with ⟨_, _, h, _⟩ | ⟨x, h, _⟩
    · exact h
    · cases h
  obtain ⟨l, rfl, hc, hC, hw⟩ := h.reads
  have hB : Bytes l := fun x hx => byte_wf (hw x hx)
  exact PlaceOrder_ok _ A c l _ _ p q W hC hc hn hB (Check_f l hB (by omega) (Nat.lt_succ_self _)) rfl (by omega)
end Go.Proofs.Ytogfaahdbecdnaa.B

/-
  Plain laws of places: there and back.
-/
namespace Go.Proofs.Ytogfaahdbecdnaa.B
open Go.RowKit Go.Proofs.YtogfaahdbecdnaaW.PrintWords Go.Proofs.YtogfaahdbecdnaaW.PrintLast Go.Proofs.YtogfaahdbecdnaaW.PrintMore Go.Proofs.Ytogfaahdbecdnaa.FBase
set_option linter.unusedVariables false
set_option linter.unusedSimpArgs false

/-- A line of a text: where it lies, its characters. -/
theorem line_is (l : List Int) (hB : Bytes l) (hv : V l) (j : Nat) (hj : j < (lns l 0 0).length) :
    0 ≤ (rdLn (lns l 0 0) j).f0 ∧ (rdLn (lns l 0 0) j).f0 ≤ (rdLn (lns l 0 0) j).f1 ∧ (rdLn (lns l 0 0) j).f1 ≤ l.length ∧ Cs (seg l (rdLn (lns l 0 0) j)) (chars (seg l (rdLn (lns l 0 0) j))) ∧
      Good (chars (seg l (rdLn (lns l 0 0) j))) ∧ sz (chars (seg l (rdLn (lns l 0 0) j))) = (rdLn (lns l 0 0) j).f1 - (rdLn (lns l 0 0) j).f0 := by
  have h := (lns_chain0 l).at j hj
  have hcs : Cs (seg l (rdLn (lns l 0 0) j)) (chars (seg l (rdLn (lns l 0 0) j))) := V.chars (line_V hB hv j hj)
  obtain ⟨g, hsz⟩ := hcs.good (fun y hy => hB y (List.mem_of_mem_take (List.mem_of_mem_drop hy)))
  have h1 := h.2.2.1
  have h2 := h.2.2.2.1
  refine ⟨h.1, h.2.1, by omega, hcs, g, ?_⟩
  rw [hsz]
  have := h.1
  have := h.2.1
  unfold seg
  rw [List.length_drop, List.length_take]
  omega
/-- A byte of a line, or where what ends it begins, is found in that line. -/
theorem fnd_in (l : List Int) (j : Nat) (hj : j < (lns l 0 0).length) (n : Int) (h0 : (rdLn (lns l 0 0) j).f0 ≤ n) (h1 : n ≤ (rdLn (lns l 0 0) j).f1) : fnd l n = j := by
  have hc := lns_chain0 l
  refine fnd_eq ⟨hj, fun t ht => ?_, fun h => ?_⟩
  · have h2 := (hc.at t (by omega)).2.2.2.2.2.1 (by omega)
    have h3 := (hc.step (t + 1) (j - (t + 1)) (by omega)).2
    rw [show t + 1 + (j - (t + 1)) = j by omega] at h3
    have h4 := (hc.at (t + 1) (by omega))
    rcases Nat.lt_or_eq_of_le (show t + 1 ≤ j by omega) with h5 | h5
    · have h6 := (hc.at (j - 1) (by omega)).2.2.2.2.2.1 (by omega)
      rw [show j - 1 + 1 = j by omega] at h6
      have h7 := (hc.step t (j - 1 - t) (by omega)).2
      rw [show t + (j - 1 - t) = j - 1 by omega] at h7
      have := h6.2.2
      omega
    · rw [h5] at h2
      have := h2.2.2
      omega
  · have h2 := (hc.at j hj).2.2.2.2.2.1 h
    have := h2.1
    omega
theorem poff_line (l : List Int) (j : Nat) (hj : j < (lns l 0 0).length) (ch : Int) : poff l j ch = (rdLn (lns l 0 0) j).f0 + off (chars (seg l (rdLn (lns l 0 0) j))) ch := by
  unfold poff
  rw [if_neg (by omega)]
theorem poff_far (l : List Int) (line ch : Int) (h : (lns l 0 0).length ≤ line) : poff l line ch = l.length := by
  unfold poff
  rw [if_pos h]
theorem pch_in (l : List Int) (j : Nat) (hj : j < (lns l 0 0).length) (n : Int) (h0 : (rdLn (lns l 0 0) j).f0 ≤ n) (h1 : n ≤ (rdLn (lns l 0 0) j).f1) : pch l n = ufl (chars (seg l (rdLn (lns l 0 0) j))) (n - (rdLn (lns l 0 0) j).f0) := by
  unfold pch
  rw [fnd_in l j hj n h0 h1]
theorem poff_range (l : List Int) (hB : Bytes l) (hv : V l) (line ch : Int) (h0 : 0 ≤ line) : 0 ≤ poff l line ch ∧ poff l line ch ≤ l.length := by
  by_cases h : ((lns l 0 0).length : Int) ≤ line
  · rw [poff_far l line ch h]; omega
  · obtain ⟨j, rfl⟩ := Int.eq_ofNat_of_zero_le h0
    have hj : j < (lns l 0 0).length := by omega
    obtain ⟨a, b, c, _, g, hsz⟩ := line_is l hB hv j hj
    rw [poff_line l j hj]
    have := off_range ch g
    omega
/-- The last line ends where the text ends. -/
theorem last_is (l : List Int) : (rdLn (lns l 0 0) ((lns l 0 0).length - 1 : Nat)).f1 = l.length ∧ (lns l 0 0).length - 1 < (lns l 0 0).length := by
  have hc := lns_chain0 l
  have hp := hc.pos
  exact ⟨((hc.at ((lns l 0 0).length - 1) (by omega)).2.2.2.2.2.2.1 (by omega)).1, by omega⟩
/-- A byte that is between characters of a line is had back. -/
theorem back_in (l : List Int) (hB : Bytes l) (hv : V l) (j : Nat) (hj : j < (lns l 0 0).length) (n : Int) (h0 : (rdLn (lns l 0 0) j).f0 ≤ n) (h1 : n ≤ (rdLn (lns l 0 0) j).f1)
    (hf : flo (chars (seg l (rdLn (lns l 0 0) j))) (n - (rdLn (lns l 0 0) j).f0) = n - (rdLn (lns l 0 0) j).f0) : poff l (fnd l n) (pch l n) = n := by
  obtain ⟨a, b, c, _, g, hsz⟩ := line_is l hB hv j hj
  rw [fnd_in l j hj n h0 h1, pch_in l j hj n h0 h1, poff_line l j hj, off_ufl _ g (by omega), hf]
  omega
/-- What a place that there is comes to. -/
theorem again_in (l : List Int) (hB : Bytes l) (hv : V l) (j : Nat) (hj : j < (lns l 0 0).length) (ch : Int) (hch : 0 ≤ ch) :
    (rdLn (lns l 0 0) j).f0 ≤ poff l j ch ∧ poff l j ch ≤ (rdLn (lns l 0 0) j).f1 ∧ fnd l (poff l j ch) = j ∧ poff l (fnd l (poff l j ch)) (pch l (poff l j ch)) = poff l j ch ∧
      pch l (poff l j ch) ≤ ch ∧ (ch < un (chars (seg l (rdLn (lns l 0 0) j))) → pch l (poff l j ch) = ch ∨ pch l (poff l j ch) = ch - 1) ∧
      (un (chars (seg l (rdLn (lns l 0 0) j))) ≤ ch → poff l j ch = (rdLn (lns l 0 0) j).f1 ∧ pch l (poff l j ch) = un (chars (seg l (rdLn (lns l 0 0) j)))) := by
  obtain ⟨a, b, c, _, g, hsz⟩ := line_is l hB hv j hj
  have hr := off_range ch g
  have hp := poff_line l j hj ch
  have i0 : (rdLn (lns l 0 0) j).f0 ≤ poff l j ch := by rw [hp]; omega
  have i1 : poff l j ch ≤ (rdLn (lns l 0 0) j).f1 := by rw [hp]; omega
  have hd : poff l j ch - (rdLn (lns l 0 0) j).f0 = off (chars (seg l (rdLn (lns l 0 0) j))) ch := by rw [hp]; omega
  have hpc := pch_in l j hj _ i0 i1
  rw [hd] at hpc
  have hu := ufl_off ch g hch
  refine ⟨i0, i1, fnd_in l j hj _ i0 i1, back_in l hB hv j hj _ i0 i1 (by rw [hd]; exact flo_off ch g hch), by rw [hpc]; exact hu.1, fun h => by rw [hpc]; exact hu.2.1 h, fun h => ?_⟩
  have h2 := hu.2.2 h
  exact ⟨by rw [hp, h2.2, hsz]; omega, by rw [hpc]; exact h2.1⟩
/-- The text's end is had back. -/
theorem again_end (l : List Int) (hB : Bytes l) (hv : V l) : poff l (fnd l l.length) (pch l l.length) = l.length ∧ fnd l l.length = (lns l 0 0).length - 1 := by
  obtain ⟨h1, h2⟩ := last_is l
  obtain ⟨a, b, c, _, g, hsz⟩ := line_is l hB hv _ h2
  have i0 : (rdLn (lns l 0 0) ((lns l 0 0).length - 1 : Nat)).f0 ≤ (l.length : Int) := by omega
  refine ⟨back_in l hB hv _ h2 _ i0 (by omega) ?_, fnd_in l _ h2 _ i0 (by omega)⟩
  rw [h1] at hsz
  rw [← hsz]
  exact (ufl_sz _ g (Int.le_refl _)).2
/-- Places in order have bytes in order. -/
theorem poff_mono (l : List Int) (hB : Bytes l) (hv : V l) (a ca b cb : Int) (h0 : 0 ≤ a) (h : a < b ∨ (a = b ∧ ca ≤ cb)) : poff l a ca ≤ poff l b cb := by
  by_cases hb : ((lns l 0 0).length : Int) ≤ b
  · rw [poff_far l b cb hb]
    exact (poff_range l hB hv a ca h0).2
  · obtain ⟨i, rfl⟩ := Int.eq_ofNat_of_zero_le h0
    obtain ⟨j, rfl⟩ := Int.eq_ofNat_of_zero_le (show 0 ≤ b by omega)
    have hj : j < (lns l 0 0).length := by omega
    have hi : i < (lns l 0 0).length := by omega
    obtain ⟨a1, b1, c1, _, g, hsz⟩ := line_is l hB hv j hj
    rcases h with h | ⟨h, hc⟩
    · obtain ⟨a2, b2, c2, _, g2, hsz2⟩ := line_is l hB hv i hi
      rw [poff_line l j hj, poff_line l i hi]
      have r1 := off_range cb g
      have r2 := off_range ca g2
      have hc := lns_chain0 l
      have h6 := (hc.at (j - 1) (by omega)).2.2.2.2.2.1 (by omega)
      rw [show j - 1 + 1 = j by omega] at h6
      have h7 := (hc.step i (j - 1 - i) (by omega)).2
      rw [show i + (j - 1 - i) = j - 1 by omega] at h7
      have h8 := (hc.at i hi).2.2.1
      have := h6.2.2
      omega
    · obtain rfl : i = j := by omega
      rw [poff_line l i hi, poff_line l i hi]
      have := off_mono ca cb g hc
      omega
end Go.Proofs.Ytogfaahdbecdnaa.B

/-
  PlaceAgain, walked.
-/
namespace Go.Proofs.Ytogfaahdbecdnaa.B
open Go.RowKit Go.Shelf Go.Proofs Go.Proofs.YtogfaahdbecdnaaW.PrintWords Go.Proofs.YtogfaahdbecdnaaW.PrintLast Go.Proofs.YtogfaahdbecdnaaW.PrintMore Go.Proofs.Ytogfaahdbecdnaa.FBase
set_option linter.unusedVariables false
set_option linter.unusedSimpArgs false

theorem un_le : ∀ {r : List (Int × Int)}, Good r → un r ≤ 2 * sz r
  | [], _ => by simp [un, sz]
  | x :: r, h => by have := h.head; have := un_le h.tail; simp only [un, sz]; omega
theorem pch_range (l : List Int) (hB : Bytes l) (hv : V l) (n : Int) : 0 ≤ pch l n ∧ pch l n ≤ 2 * l.length := by
  have h := (fnd_is l n).1
  obtain ⟨a, b, c, _, g, hsz⟩ := line_is l hB hv _ h
  have h1 := ufl_range (n - (rdLn (lns l 0 0) (fnd l n : Nat)).f0) g
  have h2 := un_le g
  unfold pch
  omega
end Go.Proofs.Ytogfaahdbecdnaa.B

/-
  PlaceAgain, walked.
-/
namespace Go.Proofs.Ytogfaahdbecdnaa.B
open Go.RowKit Go.Shelf Go.Proofs Go.Proofs.YtogfaahdbecdnaaW.PrintWords Go.Proofs.YtogfaahdbecdnaaW.PrintLast Go.Proofs.YtogfaahdbecdnaaW.PrintMore Go.Proofs.Ytogfaahdbecdnaa.FBase
set_option linter.unusedVariables false
set_option linter.unusedSimpArgs false

set_option maxRecDepth 100000 in
set_option maxHeartbeats 4000000 in
theorem PlaceAgain_far (k : Nat) (A : Option Addr) (c : Nat) (l : List Int) (r1 r2 : Int) (line char : Int) (w : World) (hr : Kd.C (Kd.int .u8) w A l.length l) (hc : l.length ≤ c) (hn : A = none → c = 0) (hB : Bytes l) (h : runes_Check.f k l = some (r1, r2)) (hk : chk l = (r1, r2)) (hs : l.length ≤ 1048576) (hz : r2 = 0) (hfar : ((lns l 0 0).length : Int) ≤ (line % 1099511627776)) :
    Calls Try.prog 13 #[.slice A l.length c, .int .i64 line, .int .i64 char] w fun e w' => e = .returned (.bool true) ∧ Below w.heap.size w w' := by
  have HS := Aside0.mk ((Sta.start w).only hr (keeps_C _ _ _ _))
  have HC := Aside0.mk hc
  have H := Aside0.mk h
  have HBY := Aside0.mk hB
  have HKK := Aside0.mk hk
  clear hr hc h hB hk
  subst hz
  have hv : V l := (chk_V HBY.out).1 (by rw [HKK.out])
  have BM := Aside0.mk (bring_f line 1099511627776 (by decide) (by decide))
  have BM2 := Aside0.mk (bring_f char 1099511627776 (by decide) (by decide))
  have l0 := Int.emod_nonneg line (show (1099511627776 : Int) ≠ 0 by decide)
  have l1 := Int.emod_lt_of_pos line (show (0 : Int) < 1099511627776 by decide)
  have c0 := Int.emod_nonneg char (show (1099511627776 : Int) ≠ 0 by decide)
  have c1 := Int.emod_lt_of_pos char (show (0 : Int) < 1099511627776 by decide)
  generalize line % 1099511627776 = li at *
  generalize char % 1099511627776 = ch at *
  have hch := lns_chain0 l
  have hln : (lns l 0 0).length ≤ 2097152 := by have := hch.length_le; omega
  have hpos := hch.pos
  have hpr := poff_range l HBY.out hv li ch l0
  obtain ⟨nn, hnn⟩ : ∃ nn, nn = poff l li ch := ⟨_, rfl⟩
  rw [← hnn] at hpr
  obtain ⟨n0, n1⟩ := hpr
  have hpc := pch_range l HBY.out hv nn
  obtain ⟨fn, hfn⟩ : ∃ fn, fn = fnd l nn := ⟨_, rfl⟩
  obtain ⟨pn, hpn⟩ : ∃ pn, pn = pch l nn := ⟨_, rfl⟩
  rw [← hpn] at hpc
  obtain ⟨p0, p1⟩ := hpc
  have HV := Aside0.mk hv
  have t1 := True.intro
  have t2 := True.intro
  have t3 := True.intro
  have t4 := True.intro
  clear hch hv
  have e1 : nn = l.length := by rw [hnn, poff_far l li ch hfar]
  obtain ⟨ha, hb⟩ := again_end l HBY.out HV.out
  rw [← e1] at ha hb
  rw [← hfn, ← hpn] at ha
  rw [← hfn] at hb
  have HFE := Aside0.mk (show fn = fnd l l.length by rw [hfn, e1])
  have HPE := Aside0.mk (show pn = pch l l.length by rw [hpn, e1])
  have e2 : (nn == (l.length : Int)) = true := beq_iff_eq.mpr e1
  clear e1
  have hfl : (fn : Int) ≤ li := by omega
  have HN := Aside0.mk hnn
  have HFN := Aside0.mk hfn
  have HPN := Aside0.mk hpn
  have HA := Aside0.mk ha
  clear hnn hfn hpn ha hb
  go_enter Try.func13, Try.ntmps13
  go_upto_region 16 with (first | (go_at_call 36; refine (pworks_ok _).mono ?_; rintro e w1 ⟨rfl, hb⟩; have m_ := Aside0.mk (HS.out.call (by repeat (first | exact Below.refl _ _ | apply below_alloc | apply pw_below_drewN | apply below_drew1)) hb); clear HS hb ; have HS := m_; clear m_) | (go_at_call 43; refine (made_ok k A c l r1 _ (HS.out.step (by repeat (first | exact Below.refl _ _ | apply below_alloc | apply pw_below_drewN | apply below_drew1))).now HC.out hn H.out hs).mono ?_; rintro e w2 ⟨m, rfl, hM, hb⟩; have m_ := Aside0.mk ((HS.out.call (by repeat (first | exact Below.refl _ _ | apply below_alloc | apply pw_below_drewN | apply below_drew1)) hb).add hM (keeps_map _ _)); clear HS hb hM; have HS := m_; clear m_) | (have _t := t1; go_at_call 29; refine (colophonref00_Bring.calls line _ _ _ BM.out).mono ?_; rintro e w3 ⟨rfl, nq, rfl⟩; clear t1 _t) | (have _t := t2; go_at_call 29; refine (colophonref00_Bring.calls char _ _ _ BM2.out).mono ?_; rintro e w3 ⟨rfl, nq2, rfl⟩; clear t2 _t) | (go_at_call 45; refine (pos_ok _ _ _).mono ?_; rintro e w4 ⟨rfl, hb⟩; have m_ := Aside0.mk (HS.out.call (by repeat (first | exact Below.refl _ _ | apply below_alloc | apply pw_below_drewN | apply below_drew1)) hb); clear HS hb ; have HS := m_; clear m_) | (have _t := t3; go_at_call 37; refine (MOffset_is m l li ch _ (HS.out.step (by repeat (first | exact Below.refl _ _ | apply below_alloc | apply pw_below_drewN | apply below_drew1))).now.1 hs HBY.out HV.out l0 c0 (by omega)).mono ?_; rintro e w5 ⟨rfl, hb⟩; rw [← HN.out]; have m_ := Aside0.mk (HS.out.call (by repeat (first | exact Below.refl _ _ | apply below_alloc | apply pw_below_drewN | apply below_drew1)) hb); clear HS hb ; have HS := m_; clear m_; clear t3 _t) | (go_at_call 39; refine (MPos_is m l nn _ (HS.out.step (by repeat (first | exact Below.refl _ _ | apply below_alloc | apply pw_below_drewN | apply below_drew1))).now.1 hs HBY.out HV.out n0 n1).mono ?_; rintro e w6 ⟨rfl, hb⟩; rw [← HFN.out, ← HPN.out]; have m_ := Aside0.mk (HS.out.call (by repeat (first | exact Below.refl _ _ | apply below_alloc | apply pw_below_drewN | apply below_drew1)) hb); clear HS hb ; have HS := m_; clear m_) | (have _t := t4; go_at_call 37; refine (MOffset_is m l fn pn _ (HS.out.step (by repeat (first | exact Below.refl _ _ | apply below_alloc | apply pw_below_drewN | apply below_drew1))).now.1 hs HBY.out HV.out (by omega) p0 (by omega)).mono ?_; rintro e w7 ⟨rfl, hb⟩; rw [HA.out]; have hbx := IsBlk.below (blk_new w6 (.cells #[.int .i64 fn, .int .i64 pn] 58)) hb; have m_ := Aside0.mk ((HS.out.call (by repeat (first | exact Below.refl _ _ | apply below_alloc | apply pw_below_drewN | apply below_drew1)) hb).add hbx (keeps_blk _ _)); clear HS hb hbx; have HS := m_; clear m_; have z0 : w7.cell? ⟨w6.heap.size, 0, none⟩ = some (.int .i64 fn) := HS.out.now.1.cell 0; have z1 : w7.cell? ⟨w6.heap.size, 1, none⟩ = some (.int .i64 pn) := HS.out.now.1.cell 1; clear t4 _t) | (go_at_call 21; refine (New_ok k A c l r1 _ (HS.out.step (by repeat (first | exact Below.refl _ _ | apply below_alloc | apply pw_below_drewN | apply below_drew1))).now.2.2 HC.out H.out hs).mono ?_; rintro e w8 ⟨a, rfl, -, hI, hb⟩; have m_ := Aside0.mk (HS.out.call (by repeat (first | exact Below.refl _ _ | apply below_alloc | apply pw_below_drewN | apply below_drew1)) hb); clear HS hb ; have HS := m_; clear m_; have z0 : w8.cell? ⟨w6.heap.size, 0, none⟩ = some (.int .i64 fn) := HS.out.now.1.cell 0; have z1 : w8.cell? ⟨w6.heap.size, 1, none⟩ = some (.int .i64 pn) := HS.out.now.1.cell 1; have HI := Aside0.mk hI; clear hI) | (go_at_call 26; refine (Count_ok a _ _ HI.out hpos hln).mono ?_; rintro e w9 ⟨rfl, hb⟩; have hI := HI.out.below hb; clear HI; have HI := Aside0.mk hI; clear hI; have m_ := Aside0.mk (HS.out.call (by repeat (first | exact Below.refl _ _ | apply below_alloc | apply pw_below_drewN | apply below_drew1)) hb); clear HS hb ; have HS := m_; clear m_; have z0 : w9.cell? ⟨w6.heap.size, 0, none⟩ = some (.int .i64 fn) := HS.out.now.1.cell 0; have z1 : w9.cell? ⟨w6.heap.size, 1, none⟩ = some (.int .i64 pn) := HS.out.now.1.cell 1))
  go_region_held3 (fun wx => wx.cell? ⟨w6.heap.size, 0, none⟩ = some (.int .i64 fn) ∧ wx.cell? ⟨w6.heap.size, 1, none⟩ = some (.int .i64 pn)) (go_keep) (first | (go_at_call 41; refine (MEnd_is m l _ (HS.out.step (by repeat (first | exact Below.refl _ _ | apply below_alloc | apply pw_below_drewN | apply below_drew1))).now.2.1 hs HBY.out HV.out).mono ?_; rintro e w10 ⟨rfl, hb⟩; rw [← HFE.out, ← HPE.out]; have m_ := Aside0.mk (HS.out.call (by repeat (first | exact Below.refl _ _ | apply below_alloc | apply pw_below_drewN | apply below_drew1)) hb); clear HS hb ; have HS := m_; clear m_; have z0 : w10.cell? ⟨w6.heap.size, 0, none⟩ = some (.int .i64 fn) := HS.out.now.1.cell 0; have z1 : w10.cell? ⟨w6.heap.size, 1, none⟩ = some (.int .i64 pn) := HS.out.now.1.cell 1))
  go_wp2
  go_ret
  exact ⟨rfl, HS.out.bel⟩
end Go.Proofs.Ytogfaahdbecdnaa.B

/-
  PlaceAgain, walked.
-/
namespace Go.Proofs.Ytogfaahdbecdnaa.B
open Go.RowKit Go.Shelf Go.Proofs Go.Proofs.YtogfaahdbecdnaaW.PrintWords Go.Proofs.YtogfaahdbecdnaaW.PrintLast Go.Proofs.YtogfaahdbecdnaaW.PrintMore Go.Proofs.Ytogfaahdbecdnaa.FBase
set_option linter.unusedVariables false
set_option linter.unusedSimpArgs false

set_option maxRecDepth 100000 in
set_option maxHeartbeats 4000000 in
theorem PlaceAgain_over (k : Nat) (A : Option Addr) (c : Nat) (l : List Int) (r1 r2 : Int) (line char : Int) (w : World) (hr : Kd.C (Kd.int .u8) w A l.length l) (hc : l.length ≤ c) (hn : A = none → c = 0) (hB : Bytes l) (h : runes_Check.f k l = some (r1, r2)) (hk : chk l = (r1, r2)) (hs : l.length ≤ 1048576) (hz : r2 = 0) (hfar : ¬ ((lns l 0 0).length : Int) ≤ (line % 1099511627776)) (hmc : un (chars (seg l (rdLn (lns l 0 0) (line % 1099511627776)))) ≤ (char % 1099511627776)) :
    Calls Try.prog 13 #[.slice A l.length c, .int .i64 line, .int .i64 char] w fun e w' => e = .returned (.bool true) ∧ Below w.heap.size w w' := by
  have HS := Aside0.mk ((Sta.start w).only hr (keeps_C _ _ _ _))
  have HC := Aside0.mk hc
  have H := Aside0.mk h
  have HBY := Aside0.mk hB
  have HKK := Aside0.mk hk
  clear hr hc h hB hk
  subst hz
  have hv : V l := (chk_V HBY.out).1 (by rw [HKK.out])
  have BM := Aside0.mk (bring_f line 1099511627776 (by decide) (by decide))
  have BM2 := Aside0.mk (bring_f char 1099511627776 (by decide) (by decide))
  have l0 := Int.emod_nonneg line (show (1099511627776 : Int) ≠ 0 by decide)
  have l1 := Int.emod_lt_of_pos line (show (0 : Int) < 1099511627776 by decide)
  have c0 := Int.emod_nonneg char (show (1099511627776 : Int) ≠ 0 by decide)
  have c1 := Int.emod_lt_of_pos char (show (0 : Int) < 1099511627776 by decide)
  generalize line % 1099511627776 = li at *
  generalize char % 1099511627776 = ch at *
  have hch := lns_chain0 l
  have hln : (lns l 0 0).length ≤ 2097152 := by have := hch.length_le; omega
  have hpos := hch.pos
  have hpr := poff_range l HBY.out hv li ch l0
  obtain ⟨nn, hnn⟩ : ∃ nn, nn = poff l li ch := ⟨_, rfl⟩
  rw [← hnn] at hpr
  obtain ⟨n0, n1⟩ := hpr
  have hpc := pch_range l HBY.out hv nn
  obtain ⟨fn, hfn⟩ : ∃ fn, fn = fnd l nn := ⟨_, rfl⟩
  obtain ⟨pn, hpn⟩ : ∃ pn, pn = pch l nn := ⟨_, rfl⟩
  rw [← hpn] at hpc
  obtain ⟨p0, p1⟩ := hpc
  have HV := Aside0.mk hv
  have t1 := True.intro
  have t2 := True.intro
  have t3 := True.intro
  have t4 := True.intro
  clear hch hv
  have hlt : li < (lns l 0 0).length := by omega
  have hj : li.toNat < (lns l 0 0).length := by omega
  obtain ⟨a1, a2, a3, hcs, g, hsz⟩ := line_is l HBY.out HV.out li.toNat hj
  obtain ⟨b1, b2, b3, b4, b5, b6, b7⟩ := again_in l HBY.out HV.out li.toNat hj ch c0
  rw [show ((li.toNat : Nat) : Int) = li by omega] at a1 a2 a3 hcs g hsz b1 b2 b3 b4 b5 b6 b7
  rw [← hnn] at b1 b2 b3 b4 b5 b6 b7
  rw [← hfn] at b3 b4
  rw [← hpn] at b4 b5 b6 b7
  have hfl : (fn : Int) ≤ li := by omega
  have e1 : ((fn : Int) != li) = false := by rw [bne_eq_false_iff_eq]; omega
  have hsl : (seg l (rdLn (lns l 0 0) li)).length ≤ 1048576 := by unfold seg; rw [List.length_drop, List.length_take]; omega
  have hbs : Bytes (seg l (rdLn (lns l 0 0) li)) := fun y hy => HBY.out y (List.mem_of_mem_take (List.mem_of_mem_drop hy))
  have hof := Of_f hbs hsl hcs (Nat.lt_succ_self _)
  have hmr := un_le g
  have hm0 := un_nonneg g
  obtain ⟨B, d, hcut, hsg, hsd⟩ := cut_seg w A c l (rdLn (lns l 0 0) li).f0 (rdLn (lns l 0 0) li).f1 HS.out.now HC.out a1 a2 a3
  have hseg : seg l (rdLn (lns l 0 0) li) = (l.take (rdLn (lns l 0 0) li).f1.toNat).drop (rdLn (lns l 0 0) li).f0.toNat := rfl
  rw [← hseg] at hcut hsg hsd
  clear hseg hcs hbs hsl
  generalize hmm : un (chars (seg l (rdLn (lns l 0 0) li))) = many at *
  generalize seg l (rdLn (lns l 0 0) li) = sg at *
  obtain ⟨x, hx⟩ : ∃ x, x = rdLn (lns l 0 0) li := ⟨_, rfl⟩
  have HX := Aside0.mk hx
  rw [← hx] at a1 a2 a3 b1 b2 b7 hcut hsz
  have HN := Aside0.mk hnn
  have HFN := Aside0.mk hfn
  have HPN := Aside0.mk hpn
  have HA := Aside0.mk b4
  have m_ := Aside0.mk (HS.out.add hsg (keeps_C _ _ _ _))
  have HSG := Aside0.mk hsg
  have HSD := Aside0.mk hsd
  have HOF := Aside0.mk hof
  have B6 := Aside0.mk b6
  have B7 := Aside0.mk b7
  clear hnn hfn hpn b4 hx hsg hsd hof b6 b7 b3 hmm hsz g m_
  obtain ⟨q1, q2⟩ := B7.out hmc
  have q3 : (nn == x.f1) = true := beq_iff_eq.mpr q1
  have q4 : (pn == many) = true := beq_iff_eq.mpr q2
  clear q1 q2
  go_enter Try.func13, Try.ntmps13
  go_wp2_with (first | (go_at_call 36; refine (pworks_ok _).mono ?_; rintro e w1 ⟨rfl, hb⟩; have m_ := Aside0.mk (HS.out.call (by repeat (first | exact Below.refl _ _ | apply below_alloc | apply pw_below_drewN | apply below_drew1)) hb); clear HS hb ; have HS := m_; clear m_) | (go_at_call 43; refine (made_ok k A c l r1 _ (HS.out.step (by repeat (first | exact Below.refl _ _ | apply below_alloc | apply pw_below_drewN | apply below_drew1))).now HC.out hn H.out hs).mono ?_; rintro e w2 ⟨m, rfl, hM, hb⟩; have m_ := Aside0.mk ((HS.out.call (by repeat (first | exact Below.refl _ _ | apply below_alloc | apply pw_below_drewN | apply below_drew1)) hb).add hM (keeps_map _ _)); clear HS hb hM; have HS := m_; clear m_) | (have _t := t1; go_at_call 29; refine (colophonref00_Bring.calls line _ _ _ BM.out).mono ?_; rintro e w3 ⟨rfl, nq, rfl⟩; clear t1 _t) | (have _t := t2; go_at_call 29; refine (colophonref00_Bring.calls char _ _ _ BM2.out).mono ?_; rintro e w3 ⟨rfl, nq2, rfl⟩; clear t2 _t) | (go_at_call 45; refine (pos_ok _ _ _).mono ?_; rintro e w4 ⟨rfl, hb⟩; have m_ := Aside0.mk (HS.out.call (by repeat (first | exact Below.refl _ _ | apply below_alloc | apply pw_below_drewN | apply below_drew1)) hb); clear HS hb ; have HS := m_; clear m_) | (have _t := t3; go_at_call 37; refine (MOffset_is m l li ch _ (HS.out.step (by repeat (first | exact Below.refl _ _ | apply below_alloc | apply pw_below_drewN | apply below_drew1))).now.1 hs HBY.out HV.out l0 c0 (by omega)).mono ?_; rintro e w5 ⟨rfl, hb⟩; rw [← HN.out]; have m_ := Aside0.mk (HS.out.call (by repeat (first | exact Below.refl _ _ | apply below_alloc | apply pw_below_drewN | apply below_drew1)) hb); clear HS hb ; have HS := m_; clear m_; clear t3 _t) | (go_at_call 39; refine (MPos_is m l nn _ (HS.out.step (by repeat (first | exact Below.refl _ _ | apply below_alloc | apply pw_below_drewN | apply below_drew1))).now.1 hs HBY.out HV.out n0 n1).mono ?_; rintro e w6 ⟨rfl, hb⟩; rw [← HFN.out, ← HPN.out]; have m_ := Aside0.mk (HS.out.call (by repeat (first | exact Below.refl _ _ | apply below_alloc | apply pw_below_drewN | apply below_drew1)) hb); clear HS hb ; have HS := m_; clear m_) | (have _t := t4; go_at_call 37; refine (MOffset_is m l fn pn _ (HS.out.step (by repeat (first | exact Below.refl _ _ | apply below_alloc | apply pw_below_drewN | apply below_drew1))).now.1 hs HBY.out HV.out (by omega) p0 (by omega)).mono ?_; rintro e w7 ⟨rfl, hb⟩; rw [HA.out]; have hbx := IsBlk.below (blk_new w6 (.cells #[.int .i64 fn, .int .i64 pn] 58)) hb; have m_ := Aside0.mk ((HS.out.call (by repeat (first | exact Below.refl _ _ | apply below_alloc | apply pw_below_drewN | apply below_drew1)) hb).add hbx (keeps_blk _ _)); clear HS hb hbx; have HS := m_; clear m_; have z0 : w7.cell? ⟨w6.heap.size, 0, none⟩ = some (.int .i64 fn) := HS.out.now.1.cell 0; have z1 : w7.cell? ⟨w6.heap.size, 1, none⟩ = some (.int .i64 pn) := HS.out.now.1.cell 1; clear t4 _t) | (go_at_call 21; refine (New_ok k A c l r1 _ (HS.out.step (by repeat (first | exact Below.refl _ _ | apply below_alloc | apply pw_below_drewN | apply below_drew1))).now.2.2 HC.out H.out hs).mono ?_; rintro e w8 ⟨a, rfl, -, hI, hb⟩; have m_ := Aside0.mk (HS.out.call (by repeat (first | exact Below.refl _ _ | apply below_alloc | apply pw_below_drewN | apply below_drew1)) hb); clear HS hb ; have HS := m_; clear m_; have z0 : w8.cell? ⟨w6.heap.size, 0, none⟩ = some (.int .i64 fn) := HS.out.now.1.cell 0; have z1 : w8.cell? ⟨w6.heap.size, 1, none⟩ = some (.int .i64 pn) := HS.out.now.1.cell 1; have HI := Aside0.mk hI; clear hI) | (go_at_call 26; refine (Count_ok a _ _ HI.out hpos hln).mono ?_; rintro e w9 ⟨rfl, hb⟩; have hI := HI.out.below hb; clear HI; have HI := Aside0.mk hI; clear hI; have m_ := Aside0.mk (HS.out.call (by repeat (first | exact Below.refl _ _ | apply below_alloc | apply pw_below_drewN | apply below_drew1)) hb); clear HS hb ; have HS := m_; clear m_; have z0 : w9.cell? ⟨w6.heap.size, 0, none⟩ = some (.int .i64 fn) := HS.out.now.1.cell 0; have z1 : w9.cell? ⟨w6.heap.size, 1, none⟩ = some (.int .i64 pn) := HS.out.now.1.cell 1) | (go_at_call 27; refine (Line_ok a _ li _ HI.out l0 hlt hln).mono ?_; rintro e w10 ⟨rfl, hb⟩; rw [← HX.out]; have m_ := Aside0.mk (HS.out.call (by repeat (first | exact Below.refl _ _ | apply below_alloc | apply pw_below_drewN | apply below_drew1)) hb); clear HS hb ; have HS := m_; clear m_; have z0 : w10.cell? ⟨w6.heap.size, 0, none⟩ = some (.int .i64 fn) := HS.out.now.1.cell 0; have z1 : w10.cell? ⟨w6.heap.size, 1, none⟩ = some (.int .i64 pn) := HS.out.now.1.cell 1; have y0 := cell_alloc2 z0; have y1 := cell_alloc2 z1) | (go_at_call 46; refine (units_Of.calls _ B d sg _ _ _ (Kd.C_below HSG.out (HS.out.step (by repeat (first | exact Below.refl _ _ | apply below_alloc | apply pw_below_drewN | apply below_drew1))).bel) HSD.out HOF.out).mono ?_; rintro e w11 ⟨rfl, no, rfl⟩))
  go_ret
  exact ⟨rfl, (HS.out.step (by repeat (first | exact Below.refl _ _ | apply below_alloc | apply pw_below_drewN | apply below_drew1))).bel⟩
end Go.Proofs.Ytogfaahdbecdnaa.B

/-
  PlaceAgain, walked.
-/
namespace Go.Proofs.Ytogfaahdbecdnaa.B
open Go.RowKit Go.Shelf Go.Proofs Go.Proofs.YtogfaahdbecdnaaW.PrintWords Go.Proofs.YtogfaahdbecdnaaW.PrintLast Go.Proofs.YtogfaahdbecdnaaW.PrintMore Go.Proofs.Ytogfaahdbecdnaa.FBase
set_option linter.unusedVariables false
set_option linter.unusedSimpArgs false

set_option maxRecDepth 100000 in
set_option maxHeartbeats 4000000 in
theorem PlaceAgain_there (k : Nat) (A : Option Addr) (c : Nat) (l : List Int) (r1 r2 : Int) (line char : Int) (w : World) (hr : Kd.C (Kd.int .u8) w A l.length l) (hc : l.length ≤ c) (hn : A = none → c = 0) (hB : Bytes l) (h : runes_Check.f k l = some (r1, r2)) (hk : chk l = (r1, r2)) (hs : l.length ≤ 1048576) (hz : r2 = 0) (hfar : ¬ ((lns l 0 0).length : Int) ≤ (line % 1099511627776)) (hmc : ¬ un (chars (seg l (rdLn (lns l 0 0) (line % 1099511627776)))) ≤ (char % 1099511627776)) (q : (pch l (poff l (line % 1099511627776) (char % 1099511627776))) = (char % 1099511627776)) :
    Calls Try.prog 13 #[.slice A l.length c, .int .i64 line, .int .i64 char] w fun e w' => e = .returned (.bool true) ∧ Below w.heap.size w w' := by
  have HS := Aside0.mk ((Sta.start w).only hr (keeps_C _ _ _ _))
  have HC := Aside0.mk hc
  have H := Aside0.mk h
  have HBY := Aside0.mk hB
  have HKK := Aside0.mk hk
  clear hr hc h hB hk
  subst hz
  have hv : V l := (chk_V HBY.out).1 (by rw [HKK.out])
  have BM := Aside0.mk (bring_f line 1099511627776 (by decide) (by decide))
  have BM2 := Aside0.mk (bring_f char 1099511627776 (by decide) (by decide))
  have l0 := Int.emod_nonneg line (show (1099511627776 : Int) ≠ 0 by decide)
  have l1 := Int.emod_lt_of_pos line (show (0 : Int) < 1099511627776 by decide)
  have c0 := Int.emod_nonneg char (show (1099511627776 : Int) ≠ 0 by decide)
  have c1 := Int.emod_lt_of_pos char (show (0 : Int) < 1099511627776 by decide)
  generalize line % 1099511627776 = li at *
  generalize char % 1099511627776 = ch at *
  have hch := lns_chain0 l
  have hln : (lns l 0 0).length ≤ 2097152 := by have := hch.length_le; omega
  have hpos := hch.pos
  have hpr := poff_range l HBY.out hv li ch l0
  obtain ⟨nn, hnn⟩ : ∃ nn, nn = poff l li ch := ⟨_, rfl⟩
  rw [← hnn] at hpr
  obtain ⟨n0, n1⟩ := hpr
  have hpc := pch_range l HBY.out hv nn
  obtain ⟨fn, hfn⟩ : ∃ fn, fn = fnd l nn := ⟨_, rfl⟩
  obtain ⟨pn, hpn⟩ : ∃ pn, pn = pch l nn := ⟨_, rfl⟩
  rw [← hpn] at hpc
  obtain ⟨p0, p1⟩ := hpc
  have HV := Aside0.mk hv
  have t1 := True.intro
  have t2 := True.intro
  have t3 := True.intro
  have t4 := True.intro
  clear hch hv
  rw [← hnn, ← hpn] at q
  have hlt : li < (lns l 0 0).length := by omega
  have hj : li.toNat < (lns l 0 0).length := by omega
  obtain ⟨a1, a2, a3, hcs, g, hsz⟩ := line_is l HBY.out HV.out li.toNat hj
  obtain ⟨b1, b2, b3, b4, b5, b6, b7⟩ := again_in l HBY.out HV.out li.toNat hj ch c0
  rw [show ((li.toNat : Nat) : Int) = li by omega] at a1 a2 a3 hcs g hsz b1 b2 b3 b4 b5 b6 b7
  rw [← hnn] at b1 b2 b3 b4 b5 b6 b7
  rw [← hfn] at b3 b4
  rw [← hpn] at b4 b5 b6 b7
  have hfl : (fn : Int) ≤ li := by omega
  have e1 : ((fn : Int) != li) = false := by rw [bne_eq_false_iff_eq]; omega
  have hsl : (seg l (rdLn (lns l 0 0) li)).length ≤ 1048576 := by unfold seg; rw [List.length_drop, List.length_take]; omega
  have hbs : Bytes (seg l (rdLn (lns l 0 0) li)) := fun y hy => HBY.out y (List.mem_of_mem_take (List.mem_of_mem_drop hy))
  have hof := Of_f hbs hsl hcs (Nat.lt_succ_self _)
  have hmr := un_le g
  have hm0 := un_nonneg g
  obtain ⟨B, d, hcut, hsg, hsd⟩ := cut_seg w A c l (rdLn (lns l 0 0) li).f0 (rdLn (lns l 0 0) li).f1 HS.out.now HC.out a1 a2 a3
  have hseg : seg l (rdLn (lns l 0 0) li) = (l.take (rdLn (lns l 0 0) li).f1.toNat).drop (rdLn (lns l 0 0) li).f0.toNat := rfl
  rw [← hseg] at hcut hsg hsd
  clear hseg hcs hbs hsl
  generalize hmm : un (chars (seg l (rdLn (lns l 0 0) li))) = many at *
  generalize seg l (rdLn (lns l 0 0) li) = sg at *
  obtain ⟨x, hx⟩ : ∃ x, x = rdLn (lns l 0 0) li := ⟨_, rfl⟩
  have HX := Aside0.mk hx
  rw [← hx] at a1 a2 a3 b1 b2 b7 hcut hsz
  have HN := Aside0.mk hnn
  have HFN := Aside0.mk hfn
  have HPN := Aside0.mk hpn
  have HA := Aside0.mk b4
  have m_ := Aside0.mk (HS.out.add hsg (keeps_C _ _ _ _))
  have HSG := Aside0.mk hsg
  have HSD := Aside0.mk hsd
  have HOF := Aside0.mk hof
  have B6 := Aside0.mk b6
  have B7 := Aside0.mk b7
  clear hnn hfn hpn b4 hx hsg hsd hof b6 b7 b3 hmm hsz g m_
  have q1 : (pn == ch) = true := beq_iff_eq.mpr q
  clear q
  go_enter Try.func13, Try.ntmps13
  go_wp2_with (first | (go_at_call 36; refine (pworks_ok _).mono ?_; rintro e w1 ⟨rfl, hb⟩; have m_ := Aside0.mk (HS.out.call (by repeat (first | exact Below.refl _ _ | apply below_alloc | apply pw_below_drewN | apply below_drew1)) hb); clear HS hb ; have HS := m_; clear m_) | (go_at_call 43; refine (made_ok k A c l r1 _ (HS.out.step (by repeat (first | exact Below.refl _ _ | apply below_alloc | apply pw_below_drewN | apply below_drew1))).now HC.out hn H.out hs).mono ?_; rintro e w2 ⟨m, rfl, hM, hb⟩; have m_ := Aside0.mk ((HS.out.call (by repeat (first | exact Below.refl _ _ | apply below_alloc | apply pw_below_drewN | apply below_drew1)) hb).add hM (keeps_map _ _)); clear HS hb hM; have HS := m_; clear m_) | (have _t := t1; go_at_call 29; refine (colophonref00_Bring.calls line _ _ _ BM.out).mono ?_; rintro e w3 ⟨rfl, nq, rfl⟩; clear t1 _t) | (have _t := t2; go_at_call 29; refine (colophonref00_Bring.calls char _ _ _ BM2.out).mono ?_; rintro e w3 ⟨rfl, nq2, rfl⟩; clear t2 _t) | (go_at_call 45; refine (pos_ok _ _ _).mono ?_; rintro e w4 ⟨rfl, hb⟩; have m_ := Aside0.mk (HS.out.call (by repeat (first | exact Below.refl _ _ | apply below_alloc | apply pw_below_drewN | apply below_drew1)) hb); clear HS hb ; have HS := m_; clear m_) | (have _t := t3; go_at_call 37; refine (MOffset_is m l li ch _ (HS.out.step (by repeat (first | exact Below.refl _ _ | apply below_alloc | apply pw_below_drewN | apply below_drew1))).now.1 hs HBY.out HV.out l0 c0 (by omega)).mono ?_; rintro e w5 ⟨rfl, hb⟩; rw [← HN.out]; have m_ := Aside0.mk (HS.out.call (by repeat (first | exact Below.refl _ _ | apply below_alloc | apply pw_below_drewN | apply below_drew1)) hb); clear HS hb ; have HS := m_; clear m_; clear t3 _t) | (go_at_call 39; refine (MPos_is m l nn _ (HS.out.step (by repeat (first | exact Below.refl _ _ | apply below_alloc | apply pw_below_drewN | apply below_drew1))).now.1 hs HBY.out HV.out n0 n1).mono ?_; rintro e w6 ⟨rfl, hb⟩; rw [← HFN.out, ← HPN.out]; have m_ := Aside0.mk (HS.out.call (by repeat (first | exact Below.refl _ _ | apply below_alloc | apply pw_below_drewN | apply below_drew1)) hb); clear HS hb ; have HS := m_; clear m_) | (have _t := t4; go_at_call 37; refine (MOffset_is m l fn pn _ (HS.out.step (by repeat (first | exact Below.refl _ _ | apply below_alloc | apply pw_below_drewN | apply below_drew1))).now.1 hs HBY.out HV.out (by omega) p0 (by omega)).mono ?_; rintro e w7 ⟨rfl, hb⟩; rw [HA.out]; have hbx := IsBlk.below (blk_new w6 (.cells #[.int .i64 fn, .int .i64 pn] 58)) hb; have m_ := Aside0.mk ((HS.out.call (by repeat (first | exact Below.refl _ _ | apply below_alloc | apply pw_below_drewN | apply below_drew1)) hb).add hbx (keeps_blk _ _)); clear HS hb hbx; have HS := m_; clear m_; have z0 : w7.cell? ⟨w6.heap.size, 0, none⟩ = some (.int .i64 fn) := HS.out.now.1.cell 0; have z1 : w7.cell? ⟨w6.heap.size, 1, none⟩ = some (.int .i64 pn) := HS.out.now.1.cell 1; clear t4 _t) | (go_at_call 21; refine (New_ok k A c l r1 _ (HS.out.step (by repeat (first | exact Below.refl _ _ | apply below_alloc | apply pw_below_drewN | apply below_drew1))).now.2.2 HC.out H.out hs).mono ?_; rintro e w8 ⟨a, rfl, -, hI, hb⟩; have m_ := Aside0.mk (HS.out.call (by repeat (first | exact Below.refl _ _ | apply below_alloc | apply pw_below_drewN | apply below_drew1)) hb); clear HS hb ; have HS := m_; clear m_; have z0 : w8.cell? ⟨w6.heap.size, 0, none⟩ = some (.int .i64 fn) := HS.out.now.1.cell 0; have z1 : w8.cell? ⟨w6.heap.size, 1, none⟩ = some (.int .i64 pn) := HS.out.now.1.cell 1; have HI := Aside0.mk hI; clear hI) | (go_at_call 26; refine (Count_ok a _ _ HI.out hpos hln).mono ?_; rintro e w9 ⟨rfl, hb⟩; have hI := HI.out.below hb; clear HI; have HI := Aside0.mk hI; clear hI; have m_ := Aside0.mk (HS.out.call (by repeat (first | exact Below.refl _ _ | apply below_alloc | apply pw_below_drewN | apply below_drew1)) hb); clear HS hb ; have HS := m_; clear m_; have z0 : w9.cell? ⟨w6.heap.size, 0, none⟩ = some (.int .i64 fn) := HS.out.now.1.cell 0; have z1 : w9.cell? ⟨w6.heap.size, 1, none⟩ = some (.int .i64 pn) := HS.out.now.1.cell 1) | (go_at_call 27; refine (Line_ok a _ li _ HI.out l0 hlt hln).mono ?_; rintro e w10 ⟨rfl, hb⟩; rw [← HX.out]; have m_ := Aside0.mk (HS.out.call (by repeat (first | exact Below.refl _ _ | apply below_alloc | apply pw_below_drewN | apply below_drew1)) hb); clear HS hb ; have HS := m_; clear m_; have z0 : w10.cell? ⟨w6.heap.size, 0, none⟩ = some (.int .i64 fn) := HS.out.now.1.cell 0; have z1 : w10.cell? ⟨w6.heap.size, 1, none⟩ = some (.int .i64 pn) := HS.out.now.1.cell 1; have y0 := cell_alloc2 z0; have y1 := cell_alloc2 z1) | (go_at_call 46; refine (units_Of.calls _ B d sg _ _ _ (Kd.C_below HSG.out (HS.out.step (by repeat (first | exact Below.refl _ _ | apply below_alloc | apply pw_below_drewN | apply below_drew1))).bel) HSD.out HOF.out).mono ?_; rintro e w11 ⟨rfl, no, rfl⟩))
  go_ret
  exact ⟨rfl, (HS.out.step (by repeat (first | exact Below.refl _ _ | apply below_alloc | apply pw_below_drewN | apply below_drew1))).bel⟩
end Go.Proofs.Ytogfaahdbecdnaa.B

/-
  PlaceAgain, walked.
-/
namespace Go.Proofs.Ytogfaahdbecdnaa.B
open Go.RowKit Go.Shelf Go.Proofs Go.Proofs.YtogfaahdbecdnaaW.PrintWords Go.Proofs.YtogfaahdbecdnaaW.PrintLast Go.Proofs.YtogfaahdbecdnaaW.PrintMore Go.Proofs.Ytogfaahdbecdnaa.FBase
set_option linter.unusedVariables false
set_option linter.unusedSimpArgs false

set_option maxRecDepth 100000 in
set_option maxHeartbeats 4000000 in
theorem PlaceAgain_less (k : Nat) (A : Option Addr) (c : Nat) (l : List Int) (r1 r2 : Int) (line char : Int) (w : World) (hr : Kd.C (Kd.int .u8) w A l.length l) (hc : l.length ≤ c) (hn : A = none → c = 0) (hB : Bytes l) (h : runes_Check.f k l = some (r1, r2)) (hk : chk l = (r1, r2)) (hs : l.length ≤ 1048576) (hz : r2 = 0) (hfar : ¬ ((lns l 0 0).length : Int) ≤ (line % 1099511627776)) (hmc : ¬ un (chars (seg l (rdLn (lns l 0 0) (line % 1099511627776)))) ≤ (char % 1099511627776)) (q : (pch l (poff l (line % 1099511627776) (char % 1099511627776))) = (char % 1099511627776) - 1) :
    Calls Try.prog 13 #[.slice A l.length c, .int .i64 line, .int .i64 char] w fun e w' => e = .returned (.bool true) ∧ Below w.heap.size w w' := by
  have HS := Aside0.mk ((Sta.start w).only hr (keeps_C _ _ _ _))
  have HC := Aside0.mk hc
  have H := Aside0.mk h
  have HBY := Aside0.mk hB
  have HKK := Aside0.mk hk
  clear hr hc h hB hk
  subst hz
  have hv : V l := (chk_V HBY.out).1 (by rw [HKK.out])
  have BM := Aside0.mk (bring_f line 1099511627776 (by decide) (by decide))
  have BM2 := Aside0.mk (bring_f char 1099511627776 (by decide) (by decide))
  have l0 := Int.emod_nonneg line (show (1099511627776 : Int) ≠ 0 by decide)
  have l1 := Int.emod_lt_of_pos line (show (0 : Int) < 1099511627776 by decide)
  have c0 := Int.emod_nonneg char (show (1099511627776 : Int) ≠ 0 by decide)
  have c1 := Int.emod_lt_of_pos char (show (0 : Int) < 1099511627776 by decide)
  generalize line % 1099511627776 = li at *
  generalize char % 1099511627776 = ch at *
  have hch := lns_chain0 l
  have hln : (lns l 0 0).length ≤ 2097152 := by have := hch.length_le; omega
  have hpos := hch.pos
  have hpr := poff_range l HBY.out hv li ch l0
  obtain ⟨nn, hnn⟩ : ∃ nn, nn = poff l li ch := ⟨_, rfl⟩
  rw [← hnn] at hpr
  obtain ⟨n0, n1⟩ := hpr
  have hpc := pch_range l HBY.out hv nn
  obtain ⟨fn, hfn⟩ : ∃ fn, fn = fnd l nn := ⟨_, rfl⟩
  obtain ⟨pn, hpn⟩ : ∃ pn, pn = pch l nn := ⟨_, rfl⟩
  rw [← hpn] at hpc
  obtain ⟨p0, p1⟩ := hpc
  have HV := Aside0.mk hv
  have t1 := True.intro
  have t2 := True.intro
  have t3 := True.intro
  have t4 := True.intro
  clear hch hv
  rw [← hnn, ← hpn] at q
  have hlt : li < (lns l 0 0).length := by omega
  have hj : li.toNat < (lns l 0 0).length := by omega
  obtain ⟨a1, a2, a3, hcs, g, hsz⟩ := line_is l HBY.out HV.out li.toNat hj
  obtain ⟨b1, b2, b3, b4, b5, b6, b7⟩ := again_in l HBY.out HV.out li.toNat hj ch c0
  rw [show ((li.toNat : Nat) : Int) = li by omega] at a1 a2 a3 hcs g hsz b1 b2 b3 b4 b5 b6 b7
  rw [← hnn] at b1 b2 b3 b4 b5 b6 b7
  rw [← hfn] at b3 b4
  rw [← hpn] at b4 b5 b6 b7
  have hfl : (fn : Int) ≤ li := by omega
  have e1 : ((fn : Int) != li) = false := by rw [bne_eq_false_iff_eq]; omega
  have hsl : (seg l (rdLn (lns l 0 0) li)).length ≤ 1048576 := by unfold seg; rw [List.length_drop, List.length_take]; omega
  have hbs : Bytes (seg l (rdLn (lns l 0 0) li)) := fun y hy => HBY.out y (List.mem_of_mem_take (List.mem_of_mem_drop hy))
  have hof := Of_f hbs hsl hcs (Nat.lt_succ_self _)
  have hmr := un_le g
  have hm0 := un_nonneg g
  obtain ⟨B, d, hcut, hsg, hsd⟩ := cut_seg w A c l (rdLn (lns l 0 0) li).f0 (rdLn (lns l 0 0) li).f1 HS.out.now HC.out a1 a2 a3
  have hseg : seg l (rdLn (lns l 0 0) li) = (l.take (rdLn (lns l 0 0) li).f1.toNat).drop (rdLn (lns l 0 0) li).f0.toNat := rfl
  rw [← hseg] at hcut hsg hsd
  clear hseg hcs hbs hsl
  generalize hmm : un (chars (seg l (rdLn (lns l 0 0) li))) = many at *
  generalize seg l (rdLn (lns l 0 0) li) = sg at *
  obtain ⟨x, hx⟩ : ∃ x, x = rdLn (lns l 0 0) li := ⟨_, rfl⟩
  have HX := Aside0.mk hx
  rw [← hx] at a1 a2 a3 b1 b2 b7 hcut hsz
  have HN := Aside0.mk hnn
  have HFN := Aside0.mk hfn
  have HPN := Aside0.mk hpn
  have HA := Aside0.mk b4
  have m_ := Aside0.mk (HS.out.add hsg (keeps_C _ _ _ _))
  have HSG := Aside0.mk hsg
  have HSD := Aside0.mk hsd
  have HOF := Aside0.mk hof
  have B6 := Aside0.mk b6
  have B7 := Aside0.mk b7
  clear hnn hfn hpn b4 hx hsg hsd hof b6 b7 b3 hmm hsz g m_
  have q1 : (pn == ch) = false := beq_eq_false_iff_ne.mpr (by omega)
  have q2 : (pn == ch - 1) = true := beq_iff_eq.mpr q
  clear q
  go_enter Try.func13, Try.ntmps13
  go_wp2_with (first | (go_at_call 36; refine (pworks_ok _).mono ?_; rintro e w1 ⟨rfl, hb⟩; have m_ := Aside0.mk (HS.out.call (by repeat (first | exact Below.refl _ _ | apply below_alloc | apply pw_below_drewN | apply below_drew1)) hb); clear HS hb ; have HS := m_; clear m_) | (go_at_call 43; refine (made_ok k A c l r1 _ (HS.out.step (by repeat (first | exact Below.refl _ _ | apply below_alloc | apply pw_below_drewN | apply below_drew1))).now HC.out hn H.out hs).mono ?_; rintro e w2 ⟨m, rfl, hM, hb⟩; have m_ := Aside0.mk ((HS.out.call (by repeat (first | exact Below.refl _ _ | apply below_alloc | apply pw_below_drewN | apply below_drew1)) hb).add hM (keeps_map _ _)); clear HS hb hM; have HS := m_; clear m_) | (have _t := t1; go_at_call 29; refine (colophonref00_Bring.calls line _ _ _ BM.out).mono ?_; rintro e w3 ⟨rfl, nq, rfl⟩; clear t1 _t) | (have _t := t2; go_at_call 29; refine (colophonref00_Bring.calls char _ _ _ BM2.out).mono ?_; rintro e w3 ⟨rfl, nq2, rfl⟩; clear t2 _t) | (go_at_call 45; refine (pos_ok _ _ _).mono ?_; rintro e w4 ⟨rfl, hb⟩; have m_ := Aside0.mk (HS.out.call (by repeat (first | exact Below.refl _ _ | apply below_alloc | apply pw_below_drewN | apply below_drew1)) hb); clear HS hb ; have HS := m_; clear m_) | (have _t := t3; go_at_call 37; refine (MOffset_is m l li ch _ (HS.out.step (by repeat (first | exact Below.refl _ _ | apply below_alloc | apply pw_below_drewN | apply below_drew1))).now.1 hs HBY.out HV.out l0 c0 (by omega)).mono ?_; rintro e w5 ⟨rfl, hb⟩; rw [← HN.out]; have m_ := Aside0.mk (HS.out.call (by repeat (first | exact Below.refl _ _ | apply below_alloc | apply pw_below_drewN | apply below_drew1)) hb); clear HS hb ; have HS := m_; clear m_; clear t3 _t) | (go_at_call 39; refine (MPos_is m l nn _ (HS.out.step (by repeat (first | exact Below.refl _ _ | apply below_alloc | apply pw_below_drewN | apply below_drew1))).now.1 hs HBY.out HV.out n0 n1).mono ?_; rintro e w6 ⟨rfl, hb⟩; rw [← HFN.out, ← HPN.out]; have m_ := Aside0.mk (HS.out.call (by repeat (first | exact Below.refl _ _ | apply below_alloc | apply pw_below_drewN | apply below_drew1)) hb); clear HS hb ; have HS := m_; clear m_) | (have _t := t4; go_at_call 37; refine (MOffset_is m l fn pn _ (HS.out.step (by repeat (first | exact Below.refl _ _ | apply below_alloc | apply pw_below_drewN | apply below_drew1))).now.1 hs HBY.out HV.out (by omega) p0 (by omega)).mono ?_; rintro e w7 ⟨rfl, hb⟩; rw [HA.out]; have hbx := IsBlk.below (blk_new w6 (.cells #[.int .i64 fn, .int .i64 pn] 58)) hb; have m_ := Aside0.mk ((HS.out.call (by repeat (first | exact Below.refl _ _ | apply below_alloc | apply pw_below_drewN | apply below_drew1)) hb).add hbx (keeps_blk _ _)); clear HS hb hbx; have HS := m_; clear m_; have z0 : w7.cell? ⟨w6.heap.size, 0, none⟩ = some (.int .i64 fn) := HS.out.now.1.cell 0; have z1 : w7.cell? ⟨w6.heap.size, 1, none⟩ = some (.int .i64 pn) := HS.out.now.1.cell 1; clear t4 _t) | (go_at_call 21; refine (New_ok k A c l r1 _ (HS.out.step (by repeat (first | exact Below.refl _ _ | apply below_alloc | apply pw_below_drewN | apply below_drew1))).now.2.2 HC.out H.out hs).mono ?_; rintro e w8 ⟨a, rfl, -, hI, hb⟩; have m_ := Aside0.mk (HS.out.call (by repeat (first | exact Below.refl _ _ | apply below_alloc | apply pw_below_drewN | apply below_drew1)) hb); clear HS hb ; have HS := m_; clear m_; have z0 : w8.cell? ⟨w6.heap.size, 0, none⟩ = some (.int .i64 fn) := HS.out.now.1.cell 0; have z1 : w8.cell? ⟨w6.heap.size, 1, none⟩ = some (.int .i64 pn) := HS.out.now.1.cell 1; have HI := Aside0.mk hI; clear hI) | (go_at_call 26; refine (Count_ok a _ _ HI.out hpos hln).mono ?_; rintro e w9 ⟨rfl, hb⟩; have hI := HI.out.below hb; clear HI; have HI := Aside0.mk hI; clear hI; have m_ := Aside0.mk (HS.out.call (by repeat (first | exact Below.refl _ _ | apply below_alloc | apply pw_below_drewN | apply below_drew1)) hb); clear HS hb ; have HS := m_; clear m_; have z0 : w9.cell? ⟨w6.heap.size, 0, none⟩ = some (.int .i64 fn) := HS.out.now.1.cell 0; have z1 : w9.cell? ⟨w6.heap.size, 1, none⟩ = some (.int .i64 pn) := HS.out.now.1.cell 1) | (go_at_call 27; refine (Line_ok a _ li _ HI.out l0 hlt hln).mono ?_; rintro e w10 ⟨rfl, hb⟩; rw [← HX.out]; have m_ := Aside0.mk (HS.out.call (by repeat (first | exact Below.refl _ _ | apply below_alloc | apply pw_below_drewN | apply below_drew1)) hb); clear HS hb ; have HS := m_; clear m_; have z0 : w10.cell? ⟨w6.heap.size, 0, none⟩ = some (.int .i64 fn) := HS.out.now.1.cell 0; have z1 : w10.cell? ⟨w6.heap.size, 1, none⟩ = some (.int .i64 pn) := HS.out.now.1.cell 1; have y0 := cell_alloc2 z0; have y1 := cell_alloc2 z1) | (go_at_call 46; refine (units_Of.calls _ B d sg _ _ _ (Kd.C_below HSG.out (HS.out.step (by repeat (first | exact Below.refl _ _ | apply below_alloc | apply pw_below_drewN | apply below_drew1))).bel) HSD.out HOF.out).mono ?_; rintro e w11 ⟨rfl, no, rfl⟩))
  go_ret
  exact ⟨rfl, (HS.out.step (by repeat (first | exact Below.refl _ _ | apply below_alloc | apply pw_below_drewN | apply below_drew1))).bel⟩
end Go.Proofs.Ytogfaahdbecdnaa.B

/-
  PlaceAgain, walked.
-/
namespace Go.Proofs.Ytogfaahdbecdnaa.B
open Go.RowKit Go.Shelf Go.Proofs Go.Proofs.YtogfaahdbecdnaaW.PrintWords Go.Proofs.YtogfaahdbecdnaaW.PrintLast Go.Proofs.YtogfaahdbecdnaaW.PrintMore Go.Proofs.Ytogfaahdbecdnaa.FBase
set_option linter.unusedVariables false
set_option linter.unusedSimpArgs false

set_option maxRecDepth 100000 in
set_option maxHeartbeats 4000000 in
theorem PlaceAgain_err (k : Nat) (A : Option Addr) (c : Nat) (l : List Int) (r1 r2 : Int) (line char : Int) (w : World) (hr : Kd.C (Kd.int .u8) w A l.length l) (hc : l.length ≤ c) (hn : A = none → c = 0) (hB : Bytes l) (h : runes_Check.f k l = some (r1, r2)) (hk : chk l = (r1, r2)) (hs : l.length ≤ 1048576) (hz : r2 ≠ 0) :
    Calls Try.prog 13 #[.slice A l.length c, .int .i64 line, .int .i64 char] w fun e w' => e = .returned (.bool true) ∧ Below w.heap.size w w' := by
  have HS := Aside0.mk ((Sta.start w).only hr (keeps_C _ _ _ _))
  have HC := Aside0.mk hc
  have H := Aside0.mk h
  have HBY := Aside0.mk hB
  have HKK := Aside0.mk hk
  clear hr hc h hB hk
  clear hn
  go_enter Try.func13, Try.ntmps13
  go_wp2_with (first | (go_at_call 36; refine (pworks_ok _).mono ?_; rintro e w1 ⟨rfl, hb⟩; have m_ := Aside0.mk (HS.out.call (by repeat (first | exact Below.refl _ _ | apply below_alloc | apply pw_below_drewN | apply below_drew1)) hb); clear HS hb ; have HS := m_; clear m_) | (go_at_call 43; refine (made_err k A c l r1 r2 _ (HS.out.step (by repeat (first | exact Below.refl _ _ | apply below_alloc | apply pw_below_drewN | apply below_drew1))).now HC.out H.out hz).mono ?_; rintro e w2 ⟨rfl, hb⟩; have m_ := Aside0.mk (HS.out.call (by repeat (first | exact Below.refl _ _ | apply below_alloc | apply pw_below_drewN | apply below_drew1)) hb); clear HS hb ; have HS := m_; clear m_))
  go_ret
  exact ⟨rfl, HS.out.bel⟩
theorem PlaceAgain_ok (k : Nat) (A : Option Addr) (c : Nat) (l : List Int) (r1 r2 : Int) (line char : Int) (w : World) (hr : Kd.C (Kd.int .u8) w A l.length l) (hc : l.length ≤ c) (hn : A = none → c = 0) (hB : Bytes l) (h : runes_Check.f k l = some (r1, r2)) (hk : chk l = (r1, r2)) (hs : l.length ≤ 1048576) :
    Calls Try.prog 13 #[.slice A l.length c, .int .i64 line, .int .i64 char] w fun e w' => e = .returned (.bool true) ∧ Below w.heap.size w w' := by
  by_cases hz : r2 = 0
  · have hv : V l := (chk_V hB).1 (by rw [hk]; exact hz)
    by_cases hfar : ((lns l 0 0).length : Int) ≤ (line % 1099511627776)
    · exact PlaceAgain_far k A c l r1 r2 line char w hr hc hn hB h hk hs hz hfar
    · by_cases hmc : un (chars (seg l (rdLn (lns l 0 0) (line % 1099511627776)))) ≤ (char % 1099511627776)
      · exact PlaceAgain_over k A c l r1 r2 line char w hr hc hn hB h hk hs hz hfar hmc
      · have l0 := Int.emod_nonneg line (show (1099511627776 : Int) ≠ 0 by decide)
        have c0 := Int.emod_nonneg char (show (1099511627776 : Int) ≠ 0 by decide)
        have hb := (again_in l hB hv (line % 1099511627776).toNat (by omega) (char % 1099511627776) c0).2.2.2.2.2.1
        rw [show ((((line % 1099511627776)).toNat : Nat) : Int) = (line % 1099511627776) by omega] at hb
        rcases hb (by omega) with q | q
        · exact PlaceAgain_there k A c l r1 r2 line char w hr hc hn hB h hk hs hz hfar hmc q
        · exact PlaceAgain_less k A c l r1 r2 line char w hr hc hn hB h hk hs hz hfar hmc q
  · exact PlaceAgain_err k A c l r1 r2 line char w hr hc hn hB h hk hs hz
theorem PlaceAgain_row (A : Option Addr) (n c : Nat) (zs : List Int) (p q : Int) (W : World) (h : IsRow .u8 W A n c zs) (hb : c ≤ 1048576) (_hp : (Lit.int .i64 p).wf = true) (_hq : (Lit.int .i64 q).wf = true) :
    Calls Try.prog 13 #[.slice A n c, .int .i64 p, .int .i64 q] W fun e w' => e = .returned (.bool true) ∧ Below W.heap.size W w' := by
  have hn : A = none → c = 0 := fun e => by
    subst e
    rcases h with ⟨_, _, h, _⟩ | ⟨x, h, _⟩
    · exact h
    · cases h
  obtain ⟨l, rfl, hc, hC, hw⟩ := h.reads
  have hB : Bytes l := fun x hx => byte_wf (hw x hx)
  exact PlaceAgain_ok _ A c l _ _ p q W hC hc hn hB (Check_f l hB (by omega) (Nat.lt_succ_self _)) rfl (by omega)
end Go.Proofs.Ytogfaahdbecdnaa.B

/-
  PlaceBack, walked.
-/
namespace Go.Proofs.Ytogfaahdbecdnaa.B
open Go.RowKit Go.Shelf Go.Proofs Go.Proofs.YtogfaahdbecdnaaW.PrintWords Go.Proofs.YtogfaahdbecdnaaW.PrintLast Go.Proofs.YtogfaahdbecdnaaW.PrintMore Go.Proofs.Ytogfaahdbecdnaa.FBase
set_option linter.unusedVariables false
set_option linter.unusedSimpArgs false
attribute [local go_sem] Oper.semAt_some

theorem sz_app : ∀ (a b : List (Int × Int)), sz (a ++ b) = sz a + sz b
  | [], b => by simp [sz]
  | x :: a, b => by simp only [List.cons_append, sz, sz_app a b]; omega
theorem flo_app : ∀ {a b : List (Int × Int)}, Good (a ++ b) → flo (a ++ b) (sz a) = sz a
  | [], [], _ => by simp [flo, sz]
  | [], x :: b, h => by have := h.head; simp only [List.nil_append, flo, sz]; rw [if_pos (by omega)]
  | x :: a, b, h => by
    have h1 := Good.head (r := a ++ b) h
    have h2 := flo_app (a := a) (b := b) (Good.tail (r := a ++ b) h)
    have h3 : 0 ≤ sz a := sz_nonneg (fun y hy => h y (by simp [hy]))
    simp only [List.cons_append, flo, sz]
    rw [if_neg (by omega), show x.1 + sz a - x.1 = sz a by omega, h2]
/-- A line all of whose places between characters are had back. -/
def Bk (l : List Int) (x : Ln) : Prop := 0 ≤ x.f0 ∧ x.f0 ≤ x.f1 ∧ x.f1 ≤ l.length ∧ ∃ r, Cs (seg l x) r ∧ Good r ∧ sz r = x.f1 - x.f0 ∧ ∀ n, x.f0 ≤ n → n ≤ x.f1 → flo r (n - x.f0) = n - x.f0 → poff l (fnd l n) (pch l n) = n
theorem bk_line (l : List Int) (hB : Bytes l) (hv : V l) (j : Nat) : Bk l (rdLn (lns l 0 0) j) := by
  have hc := lns_chain0 l
  by_cases hj : j < (lns l 0 0).length
  · obtain ⟨a, b, c, hcs, g, hsz⟩ := line_is l hB hv j hj
    exact ⟨a, b, c, _, hcs, g, hsz, fun n h0 h1 hf => back_in l hB hv j hj n h0 h1 hf⟩
  · have e : rdLn (lns l 0 0) (j : Int) = ⟨0, 0, 0⟩ := by
      simp only [rdLn, Int.toNat_natCast, List.getD]
      rw [List.getElem?_eq_none (by omega)]
      rfl
    have hp := hc.pos
    have h0 := (hc.at 0 hp).2.2.2.2.1 rfl
    obtain ⟨a, b, c, hcs, g, hsz⟩ := line_is l hB hv 0 hp
    rw [e]
    refine ⟨Int.le_refl _, Int.le_refl _, by show (0 : Int) ≤ l.length; omega, [], by simpa [seg] using Cs.nil, fun x hx => (nomatch hx), rfl, fun n h1 h2 _ => ?_⟩
    obtain rfl : n = 0 := by
      have h1' : (0 : Int) ≤ n := h1
      have h2' : n ≤ (0 : Int) := h2
      omega
    refine back_in l hB hv 0 hp 0 (by omega) (by omega) ?_
    rw [h0]
    have := flo_range (r := chars (seg l (rdLn (lns l 0 0) ((0 : Nat) : Int)))) 0 g (Int.le_refl _)
    simp only [Int.sub_self]
    omega

set_option maxRecDepth 100000 in
set_option maxHeartbeats 4000000 in
theorem PlaceBack_err (k : Nat) (A : Option Addr) (c : Nat) (l : List Int) (r1 r2 : Int) (w : World) (hr : Kd.C (Kd.int .u8) w A l.length l) (hc : l.length ≤ c) (h : runes_Check.f k l = some (r1, r2)) (hz : r2 ≠ 0) :
    Calls Try.prog 12 #[.slice A l.length c] w fun e w' => e = .returned (.bool true) ∧ Below w.heap.size w w' := by
  have HC := Aside0.mk hc
  have H := Aside0.mk h
  have hz2 : (r2 != 0) = true := bne_iff_ne.mpr hz
  have hb1 : Below w.heap.size w (w.alloc (.cells #[.slice A l.length c] 22)) := below_alloc (Below.refl _ _) _
  have hb2 : Below (w.alloc (.cells #[.slice A l.length c] 22)).heap.size (w.alloc (.cells #[.slice A l.length c] 22)) ((w.alloc (.cells #[.slice A l.length c] 22)).alloc (.cells #[.bool false] 4)) := below_alloc (Below.refl _ _) _
  have hg1 : IsBlk ((w.alloc (.cells #[.slice A l.length c] 22)).alloc (.cells #[.bool false] 4)) (w.alloc (.cells #[.slice A l.length c] 22)).heap.size (.cells #[.bool false] 4) := blk_new _ _
  rw [World.size_alloc] at hg1
  have HS : Aside0 (Sta w ((w.alloc (.cells #[.slice A l.length c] 22)).alloc (.cells #[.bool false] 4)) (fun W => IsBlk W w.heap.size (.cells #[.slice A l.length c] 22) ∧ IsBlk W (w.heap.size + 1) (.cells #[.bool false] 4) ∧ Kd.C (Kd.int .u8) W A l.length l)) := ⟨⟨below_step hb1 hb2, ⟨IsBlk.below (blk_new w _) hb2, hg1, Kd.C_below (Kd.C_below hr hb1) hb2⟩, keeps_and (keeps_blk _ _) (keeps_and (keeps_blk _ _) (keeps_C _ _ _ _))⟩⟩
  clear hb1 hb2 hg1 hr hc h
  refine (callsIn_wide (n := 6)).1 ?_
  refine callsIn_of_wp_marks Try.func12 rfl trivial ?_ rfl
  simp only [Try.ntmps12, List.size_toArray, List.length_cons, List.length_nil, Nat.reduceAdd, Nat.reduceSub, Array.replicate_succ, Array.replicate_zero, List.push_toArray, List.append_toArray, List.nil_append, List.cons_append]
  refine wpIn_wide.2 ?_
  go_wp2_with (first | (go_at_call 36; refine (pworks_ok _).mono ?_; rintro e w1 ⟨rfl, hb⟩; have m_ := Aside0.mk (HS.out.call (by repeat (first | exact Below.refl _ _ | apply below_alloc | apply pw_below_drewN | apply below_drew1)) hb); clear HS hb ; have HS := m_; clear m_; have c0 : w1.cell? ⟨w.heap.size, 0, none⟩ = some (.slice A l.length c) := HS.out.now.1.cell 0) | (go_at_call 43; refine (made_err k A c l r1 r2 _ (HS.out.step (by repeat (first | exact Below.refl _ _ | apply below_alloc | apply pw_below_drewN | apply below_drew1))).now.2.2 HC.out H.out hz).mono ?_; rintro e w2 ⟨rfl, hb⟩; have m_ := Aside0.mk (HS.out.call (by repeat (first | exact Below.refl _ _ | apply below_alloc | apply pw_below_drewN | apply below_drew1)) hb); clear HS hb ; have HS := m_; clear m_; have c0 := cell_alloc1 (HS.out.now.1.cell 0)) | (go_at_call 21; refine (New_err k A c l r1 r2 _ (HS.out.step (by repeat (first | exact Below.refl _ _ | apply below_alloc | apply pw_below_drewN | apply below_drew1))).now.2.2 HC.out H.out hz).mono ?_; rintro e w3 ⟨rfl, hb⟩; have hbx := IsBlk.below (blk_new w2 (.cells #[.pointer none] 59)) hb; have c3 : w3.cell? ⟨w2.heap.size, 0, none⟩ = some (.pointer none) := hbx.cell 0; clear hbx; have m_ := Aside0.mk (HS.out.call (by repeat (first | exact Below.refl _ _ | apply below_alloc | apply pw_below_drewN | apply below_drew1)) hb); clear HS hb ; have HS := m_; clear m_; have cG : w3.cell? ⟨w.heap.size + 1, 0, none⟩ = some (.bool false) := HS.out.now.2.1.cell 0; have fG := HS.out.now.2.1.frozen 0))
  have hB9 : Below w.heap.size w (w3.setCell ⟨w.heap.size + 1, 0, none⟩ (.bool true)) := HS.out.bel.setCell (p := ⟨w.heap.size + 1, 0, none⟩) (by simp) _
  have c9 := (HS.out.now.2.1.setTo (.bool true)).cell 0
  generalize (w3.setCell ⟨w.heap.size + 1, 0, none⟩ (.bool true)) = W9 at *
  refine ⟨.bool true, ?_, rfl, hB9⟩
  simp [results, Try.results12, go_sem, c9]

/-- What a rest of a line that begins with a character reads. -/
theorem bk_next (l : List Int) (hB : Bytes l) (f1 n : Int) (q : List (Int × Int)) (h0 : 0 ≤ n) (h1 : n < f1) (h2 : f1 ≤ l.length) (hcs : Cs ((l.take f1.toNat).drop n.toNat) q) :
    ∃ x q', q = x :: q' ∧ 1 ≤ x.1 ∧ n + x.1 ≤ f1 ∧ (∃ d1, dec (l.drop n.toNat) = (d1, x.1, 0)) ∧ Cs ((l.take f1.toNat).drop (n + x.1).toNat) q' := by
  have hb : Bytes ((l.take f1.toNat).drop n.toNat) := fun y hy => hB y (List.mem_of_mem_take (List.mem_of_mem_drop hy))
  have hlen : ((l.take f1.toNat).drop n.toNat).length = f1.toNat - n.toNat := by rw [List.length_drop, List.length_take]; omega
  have hspl : l.drop n.toNat = (l.take f1.toNat).drop n.toNat ++ l.drop f1.toNat := by
    conv => lhs; rw [← List.take_append_drop f1.toNat l]
    rw [List.drop_append_of_le_length (by rw [List.length_take]; omega)]
  obtain ⟨hg, -⟩ := hcs.good hb
  obtain ⟨hd, z, x, q', e, rfl, hl, hd0, hd1, -, hz, -, -⟩ := hcs.open hb (fun e => by rw [e] at hlen; simp at hlen; omega)
  have hle : hd.length ≤ f1.toNat - n.toNat := by rw [← hlen, e, List.length_append]; omega
  refine ⟨x, q', rfl, (Good.head hg).1, by omega, ⟨(dec hd).1, ?_⟩, ?_⟩
  · rw [hspl, e, List.append_assoc, dec_hd hd0, ← hd1, ← hd0]
  · rw [show (n + x.1).toNat = n.toNat + hd.length by omega, ← List.drop_drop, e, List.drop_left]
    exact hz

set_option maxRecDepth 100000 in
set_option maxHeartbeats 4000000 in
theorem PlaceBack_ok (k : Nat) (A : Option Addr) (c : Nat) (l : List Int) (r1 : Int) (w : World) (hr : Kd.C (Kd.int .u8) w A l.length l) (hc : l.length ≤ c) (hn : A = none → c = 0) (hB : Bytes l) (hv : V l) (h : runes_Check.f k l = some (r1, 0)) (hs : l.length ≤ 1048576) :
    Calls Try.prog 12 #[.slice A l.length c] w fun e w' => e = .returned (.bool true) ∧ Below w.heap.size w w' := by
  have hbk0 := bk_line l hB hv
  have hch := lns_chain0 l
  have hln : (lns l 0 0).length ≤ 2097152 := by have := hch.length_le; omega
  have hpos := hch.pos
  clear hch
  obtain ⟨L, hL⟩ : ∃ L, lns l 0 0 = L := ⟨_, rfl⟩
  rw [hL] at hbk0 hln hpos
  have HLE := Aside0.mk hL
  have HBK0 := Aside0.mk hbk0
  have HC := Aside0.mk hc
  have H := Aside0.mk h
  have HBY := Aside0.mk hB
  have HV := Aside0.mk hv
  have hb1 : Below w.heap.size w (w.alloc (.cells #[.slice A l.length c] 22)) := below_alloc (Below.refl _ _) _
  have hb2 : Below (w.alloc (.cells #[.slice A l.length c] 22)).heap.size (w.alloc (.cells #[.slice A l.length c] 22)) ((w.alloc (.cells #[.slice A l.length c] 22)).alloc (.cells #[.bool false] 4)) := below_alloc (Below.refl _ _) _
  have hg1 : IsBlk ((w.alloc (.cells #[.slice A l.length c] 22)).alloc (.cells #[.bool false] 4)) (w.alloc (.cells #[.slice A l.length c] 22)).heap.size (.cells #[.bool false] 4) := blk_new _ _
  rw [World.size_alloc] at hg1
  have HS : Aside0 (Sta w ((w.alloc (.cells #[.slice A l.length c] 22)).alloc (.cells #[.bool false] 4)) (fun W => IsBlk W w.heap.size (.cells #[.slice A l.length c] 22) ∧ IsBlk W (w.heap.size + 1) (.cells #[.bool false] 4) ∧ Kd.C (Kd.int .u8) W A l.length l)) := ⟨⟨below_step hb1 hb2, ⟨IsBlk.below (blk_new w _) hb2, hg1, Kd.C_below (Kd.C_below hr hb1) hb2⟩, keeps_and (keeps_blk _ _) (keeps_and (keeps_blk _ _) (keeps_C _ _ _ _))⟩⟩
  clear hb1 hb2 hg1 hr hc h hB hv hL hbk0
  refine (callsIn_wide (n := 6)).1 ?_
  refine callsIn_of_wp_marks Try.func12 rfl trivial ?_ rfl
  simp only [Try.ntmps12, List.size_toArray, List.length_cons, List.length_nil, Nat.reduceAdd, Nat.reduceSub, Array.replicate_succ, Array.replicate_zero, List.push_toArray, List.append_toArray, List.nil_append, List.cons_append]
  refine wpIn_wide.2 ?_
  have eqs := eql_seq
  go_wp2_with (first | (go_at_call 36; refine (pworks_ok _).mono ?_; rintro e w1 ⟨rfl, hb⟩; have m_ := Aside0.mk (HS.out.call (by repeat (first | exact Below.refl _ _ | apply below_alloc | apply pw_below_drewN | apply below_drew1)) hb); clear HS hb ; have HS := m_; clear m_; have c0 : w1.cell? ⟨w.heap.size, 0, none⟩ = some (.slice A l.length c) := HS.out.now.1.cell 0) | (go_at_call 43; refine (made_ok k A c l r1 _ (HS.out.step (by repeat (first | exact Below.refl _ _ | apply below_alloc | apply pw_below_drewN | apply below_drew1))).now.2.2 HC.out hn H.out hs).mono ?_; rintro e w2 ⟨m, rfl, hM, hb⟩; have m_ := Aside0.mk ((HS.out.call (by repeat (first | exact Below.refl _ _ | apply below_alloc | apply pw_below_drewN | apply below_drew1)) hb).add hM (keeps_map _ _)); clear HS hb hM; have HS := m_; clear m_; have c0 := cell_alloc1 (HS.out.now.2.1.cell 0)) | (go_at_call 21; refine (New_ok k A c l r1 _ (HS.out.step (by repeat (first | exact Below.refl _ _ | apply below_alloc | apply pw_below_drewN | apply below_drew1))).now.2.2.2 HC.out H.out hs).mono ?_; rintro e w3 ⟨a, rfl, -, hI, hb⟩; rw [HLE.out] at hI; have hbx := IsBlk.below (blk_new w2 (.cells #[.pointer (some ⟨m, 0, none⟩)] 59)) hb; have m_ := Aside0.mk (((HS.out.call (by repeat (first | exact Below.refl _ _ | apply below_alloc | apply pw_below_drewN | apply below_drew1)) hb).add hI (keeps_idx _ _)).add hbx (keeps_blk _ _)); clear HS hb hI hbx; have HS := m_; clear m_; have c3 : w3.cell? ⟨w2.heap.size, 0, none⟩ = some (.pointer (some ⟨m, 0, none⟩)) := HS.out.now.1.cell 0) | (go_at_call 30; refine (All_calls _ _).mono ?_; rintro e_ w' ⟨rfl, rfl⟩))
  have lb := blk_lt HS.out.now.2.2.2.2.1
  have hB0 : Below w3.heap.size w3 ((w3.alloc (.cells #[.pointer (some ⟨a, 0, none⟩)] 24)).alloc (.cells #[.pointer (some ⟨a, 0, none⟩)] 24)) := below_alloc (below_alloc (Below.refl _ _) _) _
  have hbs := (Box1.new (w3.alloc (.cells #[.pointer (some ⟨a, 0, none⟩)] 24)) 24 (.pointer (some ⟨a, 0, none⟩))).1
  rw [World.size_alloc] at hbs
  refine wp_range_box a L (w3.heap.size + 1) w3.heap.size _ _ _ _ _ _ w3 _ (fun pre W => Below w3.heap.size w3 W) (fun c pre W => False)
    (fun x b t => (((t.setIfInBounds 42 (.int .i64 x)).setIfInBounds 43 (.agg #[.int .i64 (rdLn L x).f0, .int .i64 (rdLn L x).f1])).setIfInBounds 7 (.pointer (some ⟨b, 0, none⟩))))
    rfl rfl hB0 HS.out.now.2.1 hpos hln (by simp) hbs rfl ?io ?ixo ?h0 ?ib ?iz ?asg ?body ?done ?stop
  case io => exact ownFrom_below (Nat.le_refl _) (by simp; omega)
  case ixo => exact fun c s W1 W2 row h hg hr => h
  case h0 => exact hB0
  case ib => exact fun pre W1 W2 h hz hb => h.trans (hb.mono hz)
  case iz => exact fun pre W1 h => h.size
  case asg =>
    clear hB0 hbs eqs
    intro l_ x W1 K hK
    gi_wp2
    exact hK
  case body =>
    clear hB0 hbs eqs
    rintro l_ pre_ x_ b W1 hB1 hsp hlt
    obtain ⟨y0, y1, y2, r, hcs, hg, hsz, hbk⟩ := HBK0.out x_
    have HX := Aside0.mk (show (rdLn L x_).f1 = (rdLn L x_).f1 from rfl)
    generalize rdLn L x_ = x at *
    have HB1 := Aside0.mk hB1
    have HSB := HS.out.step hB1
    have m_ : Aside0 (Sta W1 W1 (fun W => SpBox W b x ∧ (IsBlk W w2.heap.size (.cells #[.pointer (some ⟨m, 0, none⟩)] 59) ∧ IsIdx W a L ∧ IsMap W m l ∧ IsBlk W w.heap.size (.cells #[.slice A l.length c] 22) ∧ IsBlk W (w.heap.size + 1) (.cells #[.bool false] 4) ∧ Kd.C (Kd.int .u8) W A l.length l))) := Aside0.mk (((Sta.start W1).only HSB.now HSB.keeps).add hsp (fun _ _ h hb => h.below hb))
    clear HS hB1 hsp HSB HX
    have HS := m_
    clear m_
    have HG := Aside0.mk hg
    have HBK := Aside0.mk hbk
    have HR := Aside0.mk (show Cs ((l.take x.f1.toNat).drop x.f0.toNat) r from hcs)
    have s0 : W1.cell? ⟨b, 0, none⟩ = some (.int .i64 x.f0) := HS.out.now.1.1
    have HB0 := Aside0.mk (show ∀ n p q, p ++ q = r → sz p = n - x.f0 → x.f0 ≤ n → n ≤ x.f1 → poff l (fnd l n) (pch l n) = n from fun n p q e hp h0 h1 => hbk n h0 h1 (by
      rw [← e] at hg ⊢
      have := flo_app hg
      rwa [hp] at this))
    clear hcs hg hsz hbk
    simp only [List.setIfInBounds_toArray, List.set_cons_succ, List.set_cons_zero]
    gi_wp2_with fail
    clear s0
    gi_loopw [8] (fun s8 W => ∃ (n : Int), s8 = .int .i64 n ∧ x.f0 ≤ n ∧ n ≤ x.f1 ∧ Aside0 (∃ p q, p ++ q = r ∧ sz p = n - x.f0 ∧ Cs ((l.take x.f1.toNat).drop n.toNat) q) ∧ Aside0 (Sta W1 W (fun W => SpBox W b x ∧ (IsBlk W w2.heap.size (.cells #[.pointer (some ⟨m, 0, none⟩)] 59) ∧ IsIdx W a L ∧ IsMap W m l ∧ IsBlk W w.heap.size (.cells #[.slice A l.length c] 22) ∧ IsBlk W (w.heap.size + 1) (.cells #[.bool false] 4) ∧ Kd.C (Kd.int .u8) W A l.length l)))) (fun s8 _ => (x.f1 - intOf s8).toNat)
    case atStart => exact ⟨x.f0, rfl, Int.le_refl _, y1, ⟨[], r, rfl, by simp [sz], HR.out⟩, HS⟩
    case round =>
      clear HS
      obtain ⟨n, rfl, n0, n1, HPQ, HS⟩ := hrel
      obtain ⟨p, q, hpq, hp, hcq⟩ := HPQ.out
      have HBKN := Aside0.mk (HB0.out n p q hpq hp n0 n1)
      have s1 : wr.cell? ⟨b, 1, none⟩ = some (.int .i64 x.f1) := HS.out.now.1.2
      have c3 : wr.cell? ⟨w2.heap.size, 0, none⟩ = some (.pointer (some ⟨m, 0, none⟩)) := HS.out.now.2.1.cell 0
      obtain ⟨p0, p1⟩ := pch_range l HBY.out HV.out n
      by_cases hlt2 : n < x.f1
      · obtain ⟨xx, q', e, hx1, hx2, ⟨d1, hd⟩, hcq'⟩ := bk_next l HBY.out x.f1 n q (by omega) hlt2 y2 hcq
        have hD := Decode_f l n HBY.out hs (by omega) (by omega)
        rw [hd] at hD
        have HD := Aside0.mk hD
        have HN := Aside0.mk (show ∃ p q, p ++ q = r ∧ sz p = (n + xx.1) - x.f0 ∧ Cs ((l.take x.f1.toNat).drop (n + xx.1).toNat) q from ⟨p ++ [xx], q', by rw [← hpq, e, List.append_assoc]; rfl, by rw [sz_app, hp]; simp only [sz]; omega, hcq'⟩)
        have hne : (n == x.f1) = false := beq_eq_false_iff_ne.mpr (by omega)
        have hw := w64 (n + xx.1) (by omega) (by omega)
        obtain ⟨z, hz⟩ : ∃ z, z = xx.1 := ⟨_, rfl⟩
        rw [← hz] at HN HD hx1 hx2 hw
        clear hpq hp hcq hd hcq' e hD hz HPQ
        gi_wp2_with (first | (refine ⟨trivial, ?_⟩; gi_at_call 39; refine (CallsIn.inRound l_ (callsIn_wide.2 (MPos_is m l n _ (HS.out.step (by repeat (first | exact Below.refl _ _ | apply below_alloc | apply pw_below_drewN | apply below_drew1))).now.2.2.2.1 hs HBY.out HV.out (by omega) (by omega)))).mono ?_; rintro e w5 ⟨rfl, hb⟩; have m_ := Aside0.mk (HS.out.call (by repeat (first | exact Below.refl _ _ | apply below_alloc | apply pw_below_drewN | apply below_drew1)) hb); clear HS hb ; have HS := m_; clear m_; have c3 : w5.cell? ⟨w2.heap.size, 0, none⟩ = some (.pointer (some ⟨m, 0, none⟩)) := HS.out.now.2.1.cell 0; have s1 : w5.cell? ⟨b, 1, none⟩ = some (.int .i64 x.f1) := HS.out.now.1.2; have c0 : w5.cell? ⟨w.heap.size, 0, none⟩ = some (.slice A l.length c) := HS.out.now.2.2.2.2.1.cell 0; have c3a := cell_alloc1 c3; have s1a := cell_alloc1 s1; have c0a := cell_alloc1 c0) | (refine ⟨trivial, ?_⟩; gi_at_call 37; refine (CallsIn.inRound l_ (callsIn_wide.2 (MOffset_is m l (fnd l n : Nat) (pch l n) _ (HS.out.step (by repeat (first | exact Below.refl _ _ | apply below_alloc | apply pw_below_drewN | apply below_drew1))).now.2.2.2.1 hs HBY.out HV.out (by omega) p0 (by omega)))).mono ?_; rintro e w6 ⟨rfl, hb⟩; rw [HBKN.out]; have m_ := Aside0.mk (HS.out.call (by repeat (first | exact Below.refl _ _ | apply below_alloc | apply pw_below_drewN | apply below_drew1)) hb); clear HS hb ; have HS := m_; clear m_; have c3 : w6.cell? ⟨w2.heap.size, 0, none⟩ = some (.pointer (some ⟨m, 0, none⟩)) := HS.out.now.2.1.cell 0; have s1 : w6.cell? ⟨b, 1, none⟩ = some (.int .i64 x.f1) := HS.out.now.1.2; have c0 : w6.cell? ⟨w.heap.size, 0, none⟩ = some (.slice A l.length c) := HS.out.now.2.2.2.2.1.cell 0) | (refine ⟨trivial, ?_⟩; gi_at_call 44; refine (CallsIn.inRound l_ (callsIn_wide.2 (runes_Decode.calls 8 A c l n _ _ _ _ (HS.out.step (by repeat (first | exact Below.refl _ _ | apply below_alloc | apply pw_below_drewN | apply below_drew1))).now.2.2.2.2.2.2 HC.out HD.out))).mono ?_; rintro e w7 ⟨rfl, nd, rfl⟩))
        go_roundw
        case measure => simp [intOf]; omega
        case rel => exact ⟨n + z, by simp [hw], by omega, by omega, HN, ⟨HS.out.step (by repeat (first | exact Below.refl _ _ | apply below_alloc | apply pw_below_drewN | apply below_drew1))⟩⟩
      · have heq : (n == x.f1) = true := beq_iff_eq.mpr (by omega)
        clear hpq hp hcq HPQ
        gi_wp2_with (first | (refine ⟨trivial, ?_⟩; gi_at_call 39; refine (CallsIn.inRound l_ (callsIn_wide.2 (MPos_is m l n _ (HS.out.step (by repeat (first | exact Below.refl _ _ | apply below_alloc | apply pw_below_drewN | apply below_drew1))).now.2.2.2.1 hs HBY.out HV.out (by omega) (by omega)))).mono ?_; rintro e w5 ⟨rfl, hb⟩; have m_ := Aside0.mk (HS.out.call (by repeat (first | exact Below.refl _ _ | apply below_alloc | apply pw_below_drewN | apply below_drew1)) hb); clear HS hb ; have HS := m_; clear m_; have c3 : w5.cell? ⟨w2.heap.size, 0, none⟩ = some (.pointer (some ⟨m, 0, none⟩)) := HS.out.now.2.1.cell 0; have s1 : w5.cell? ⟨b, 1, none⟩ = some (.int .i64 x.f1) := HS.out.now.1.2; have c0 : w5.cell? ⟨w.heap.size, 0, none⟩ = some (.slice A l.length c) := HS.out.now.2.2.2.2.1.cell 0; have c3a := cell_alloc1 c3; have s1a := cell_alloc1 s1; have c0a := cell_alloc1 c0) | (refine ⟨trivial, ?_⟩; gi_at_call 37; refine (CallsIn.inRound l_ (callsIn_wide.2 (MOffset_is m l (fnd l n : Nat) (pch l n) _ (HS.out.step (by repeat (first | exact Below.refl _ _ | apply below_alloc | apply pw_below_drewN | apply below_drew1))).now.2.2.2.1 hs HBY.out HV.out (by omega) p0 (by omega)))).mono ?_; rintro e w6 ⟨rfl, hb⟩; rw [HBKN.out]; have m_ := Aside0.mk (HS.out.call (by repeat (first | exact Below.refl _ _ | apply below_alloc | apply pw_below_drewN | apply below_drew1)) hb); clear HS hb ; have HS := m_; clear m_; have c3 : w6.cell? ⟨w2.heap.size, 0, none⟩ = some (.pointer (some ⟨m, 0, none⟩)) := HS.out.now.2.1.cell 0; have s1 : w6.cell? ⟨b, 1, none⟩ = some (.int .i64 x.f1) := HS.out.now.1.2; have c0 : w6.cell? ⟨w.heap.size, 0, none⟩ = some (.slice A l.length c) := HS.out.now.2.2.2.2.1.cell 0))
        exact ⟨keepsFrom_below HS.out.bel, HS.out.bel.mono HB1.out.size, HB1.out.trans (HS.out.bel.mono HB1.out.size)⟩
  case done =>
    clear hB0 hbs eqs
    rintro D W1 hD hB1 hK
    have lD : w.heap.size + 1 < D := by simp at hD; omega
    have m_ := Aside0.mk ((HS.out.step hB1).add hK (keeps_blk _ _))
    clear HS hB1 hK
    have HS := m_
    clear m_
    have cG := HS.out.now.2.2.2.2.2.1.cell 0
    have fG := HS.out.now.2.2.2.2.2.1.frozen 0
    go_wp2
    have hG := HS.out.now.2.2.2.2.2.1
    have h1 := HS.out.now.1
    have hB := HS.out.bel
    clear HS
    have e1 : D ≠ w.heap.size + 1 := by omega
    have g4 : IsBlk (W1.setCell ⟨w.heap.size + 1, 0, none⟩ (.bool true)) (w.heap.size + 1) (.cells #[.bool true] 4 (0, 0)) := hG.setTo _
    have a1 : IsBlk (W1.setCell ⟨w.heap.size + 1, 0, none⟩ (.bool true)) D (.deferred (some [])) := h1.other e1 _
    have hB4 : Below w.heap.size w (W1.setCell ⟨w.heap.size + 1, 0, none⟩ (.bool true)) := hB.setCell (p := ⟨w.heap.size + 1, 0, none⟩) (by simp) _
    generalize (W1.setCell ⟨w.heap.size + 1, 0, none⟩ (.bool true)) = W4 at *
    have g5 : IsBlk (W4.putObj D (.deferred none)) (w.heap.size + 1) (.cells #[.bool true] 4 (0, 0)) := (World.putObj_heap_other (Ne.symm e1)).trans g4
    have hB5 := hB4.trans (belowK_b (w := w) (Nat.le_refl _) W4 D _ (.deferred none) (by omega) a1 rfl rfl)
    have c6 : (W4.putObj D (.deferred none)).cell? ⟨w.heap.size + 1, 0, none⟩ = some (.bool true) := g5.cell 0
    refine ⟨by simp, .inl ⟨_, _, rfl, run_takeDeferred a1, ?_⟩⟩
    refine ⟨.bool true, ?_, rfl, hB5⟩
    simp [results, Try.results12, go_sem, c6]
  case stop =>
    rintro D c_ k W1 hD hk hix hK
    exact hix.elim

theorem PlaceBack_row (A : Option Addr) (n c : Nat) (zs : List Int) (W : World) (h : IsRow .u8 W A n c zs) (hb : c ≤ 1048576) :
    Calls Try.prog 12 #[.slice A n c] W fun e w' => e = .returned (.bool true) ∧ Below W.heap.size W w' := by
  have hn : A = none → c = 0 := fun e => by
    subst e
    rcases h with ⟨_, _, h, _⟩ | ⟨x, h, _⟩
    · exact h
    · cases h
  obtain ⟨l, rfl, hc, hC, hw⟩ := h.reads
  have hB : Bytes l := fun x hx => byte_wf (hw x hx)
  have h1 := Check_f l hB (by omega) (Nat.lt_succ_self _)
  obtain ⟨r1, r2, hk⟩ : ∃ r1 r2, chk l = (r1, r2) := ⟨_, _, rfl⟩
  rw [hk] at h1
  by_cases hz : r2 = 0
  · subst hz
    exact PlaceBack_ok _ A c l r1 W hC hc hn hB ((chk_V hB).1 (by rw [hk])) h1 (by omega)
  · exact PlaceBack_err _ A c l r1 r2 W hC hc h1 hz
end Go.Proofs.Ytogfaahdbecdnaa.B

namespace Go.Proofs.Ytogfaahdbecdnaa.placeBack
open Go.ChangeShapes Go.WideShapes Go.ChangeAt Go.RowKit Go.Proofs.Ytogfaahdbecdnaa.B
set_option linter.unusedVariables false
theorem own : ownKnob Try.prog.godebug = none := by kernel_rfl
theorem laidOut : laidOutB Try.prog = true := by kernel_rfl
set_option maxRecDepth 100000 in
theorem contract (H : Type) (enc : TypeId × Value → H) (W : World) (base : Nat) (args : Array Value) (ds gs : List (DataW H)) (before : List MemPlace)
    (hval0 : ∀ (j : Nat) t v, Try.f12.params[j]? = some t → args[j]? = some v → Value.okWide Try.prog W .any base t v)
    (hW : DataW.Whole enc Try.prog Try.f12.params.toList Rows.placeBackSpec.vars false W args.toList ds gs before) (hk : Rows.uptoSmall H (ds ++ gs) = true) :
    Calls Try.prog 12 args W fun e W' => ∃ v, e = .returned v ∧ Rows.placeBackSpec.post enc Try.prog Try.f12 false true false false W args v W' := by
  have hW' := hW
  obtain ⟨p, q, hA0, hV, rfl, hfz, hnd⟩ := hW
  have hA : DataW.TrodAll enc Try.prog W 0 (fun _ => true) true Try.f12.params.toList args.toList ds p := hA0
  have hval : ∀ (j : Nat) t v, Try.f12.params[j]? = some t → args[j]? = some v → Value.okWide Try.prog W .any base t v := hval0
  rw [Try.params12] at hA hval
  obtain ⟨v0, vs0, d0, ds0, p0, q0, hargs, rfl, rfl, h0, r0⟩ := trodAll_cons hA
  obtain ⟨rfl, rfl, rfl⟩ := trodAll_nil r0
  obtain rfl : args = #[v0] := by cases args; simp_all
  obtain ⟨rfl, rfl⟩ := trodVars_none hV
  have hbulk := bulks.bound hk
  obtain ⟨a0, len0, cap0, rfl⟩ := okWide_slice Try.underlying22 (hval 0 22 v0 rfl rfl)
  have k0 := h0
  have lt0 : ∀ x ∈ p0, x.block < W.heap.size := by obtain ⟨m, hm⟩ := k0; exact DataW.trod_lt m _ _ _ hm
  obtain ⟨z0, w0, b0⟩ : ∃ zs, IsRow .u8 W a0 len0 cap0 zs ∧ cap0 ≤ 1048576 := by
    obtain ⟨fuel, hf⟩ := h0
    rcases open_ints Try.underlying22 Try.underlying5 (by kernel_rfl) hf with ⟨hcs, _⟩ | ⟨x, l, c, zs, hcs, _, hl, hm, hz, hd, hcell, hwz⟩
    · simp [Value.cells] at hcs
      obtain ⟨rfl, rfl, rfl⟩ := hcs
      exact ⟨[], .inl ⟨rfl, rfl, rfl, rfl⟩, by decide⟩
    · simp [Value.cells] at hcs
      obtain ⟨rfl, rfl, rfl⟩ := hcs
      refine ⟨zs, .inr ⟨_, rfl, hl, hm, by simpa using hz, hcell, hwz⟩, ?_⟩
      injection hd with hd _
      have hp : d0 ∈ _ := (show d0 ∈ ([d0] : List (DataW H)) ++ [] from by simp)
      have h1 := bulks.part_le hp
      rw [hd] at h1
      have h2 := bulks.slice_le (H := H) (lits .u8 (zs.take len0)) (lits .u8 (zs.drop len0))
      rw [hd] at hbulk
      have hz' : zs.length = cap0 := by simpa using hz
      simp [lits] at h1 h2 hbulk
      omega
  clear hA0 hval0
  refine (PlaceBack_row a0 len0 cap0 z0 W w0 b0).mono fun e W' ⟨he, bel⟩ => ?_
  subst he
  exact ⟨_, rfl, _, _, _, [], _, [], hW', trodAll_mk1 (shut_bool Try.underlying4 _), (trodAll_cons_mk (Below.trod laidOut (by kernel_rfl) (of_decide_eq_true (by kernel_rfl)) k0 bel lt0) trodAll_mk0), rfl, bel.frame _, fun h => by cases h⟩
set_option maxRecDepth 100000 in
theorem lifted (os : Os) (started : os.Started) (H : Type) (enc : TypeId × Value → H) (F : Stop.Interp) :
    ReturnsInHanded {} Try.checked os 12 .any ((Rows.OpenSpec.upto Rows.placeBackSpec).pre6 enc Try.prog Try.f12 Rows.placeBackUptoRow.domain false) (((Rows.OpenSpec.upto Rows.placeBackSpec).at F).post enc Try.prog Try.f12 false true false false) := by
  refine returnsInHanded_of_cond (C := Try.checked) (s := Rows.OpenSpec.upto Rows.placeBackSpec) (k := Rows.uptoSmall) rfl own started (by kernel_rfl) Try.func12
    (OpenSpec.witness (enc := enc) (C := Try.checked) (s := Rows.OpenSpec.upto Rows.placeBackSpec) (k := Rows.uptoSmall) rfl false ⟨#[], #[.slice none 0 0], []⟩ 8 (by kernel_rfl) (by kernel_rfl) (by kernel_rfl)
      (x := ([.nil], [], [])) (by kernel_rfl) rfl (by kernel_rfl)) ?_
  intro W base args ds gs before hval hW _ hk _
  exact contract H enc W base args ds gs before hval hW hk
theorem proved : Rows.PlaceBackUptoSaid :=
  OpenClaim.holds_of_cond 12 Try.f12 rfl rfl rfl rfl rfl rfl rfl ⟨rfl, rfl, rfl, rfl, rfl⟩ rfl rfl rfl rfl rfl (by kernel_rfl) Try.func12 (by kernel_rfl)
    (of_decide_eq_true (by kernel_rfl)) (by unfold Func.isWrapper; first | (rw [if_pos (by decide +kernel)]; kernel_rfl) | (rw [if_neg (by decide +kernel)]; exact ⟨rfl, rfl⟩))
    (fun os started H enc _ F => lifted os started H enc F)
#print axioms proved
end Go.Proofs.Ytogfaahdbecdnaa.placeBack
namespace Go.Proofs.Ytogfaahdbecdnaa
/-- The row, under a short name, for the claim. -/
theorem placeBackUpto_holds : Rows.PlaceBackUptoSaid := placeBack.proved
end Go.Proofs.Ytogfaahdbecdnaa
