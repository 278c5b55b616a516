/-
  The row of PlaceOrder, in its second form: for every input of bulk at most 1048576 the call answers true, and the input reads as it did.
-/
import Derived.WalkKit
import Derived.ProofKit
import Derived.OpenShut
import Derived.ShutString
import Derived.ChangeOld
import Derived.Below
import Derived.SizedLaws
import Derived.JoinedCond
import Derived.Test.YtogfaahdbecdnaaZH6
set_option linter.unusedSimpArgs false
set_option linter.unusedVariables false
/-
  PlaceUnits, PlaceOrder, walked.
-/
namespace Go.Proofs.Ytogfaahdbecdnaa.B
open Go.RowKit Go.Shelf Go.Proofs Go.Proofs.YtogfaahdbecdnaaW.PrintWords Go.Proofs.YtogfaahdbecdnaaW.PrintLast Go.Proofs.YtogfaahdbecdnaaW.PrintMore Go.Proofs.Ytogfaahdbecdnaa.FBase
set_option linter.unusedVariables false
set_option linter.unusedSimpArgs false

/-- A text without ends of lines is one line. -/
theorem lns_one (l : List Int) (h : ∀ j : Nat, j < l.length → rd l j ≠ 10 ∧ rd l j ≠ 13) : lns l 0 0 = [⟨0, l.length, l.length⟩] := by
  have h1 := lns_skip l 0 l.length 0 (by omega) (fun j _ hj => h j (by omega))
  rw [List.drop_zero, show ((0 : Nat) : Int) = 0 from rfl] at h1
  rw [h1, Nat.zero_add, List.drop_length]
  simp [lns]
theorem seg_one (l : List Int) : seg l ⟨0, l.length, l.length⟩ = l := by simp [seg]

set_option maxRecDepth 100000 in
set_option maxHeartbeats 2000000 in
theorem PlaceUnits_ok (k : Nat) (A : Option Addr) (c : Nat) (l : List Int) (r1 r2 : Int) (char : Int) (w : World) (hr : Kd.C (Kd.int .u8) w A l.length l) (hc : l.length ≤ c) (hn : A = none → c = 0) (hB : Bytes l) (h : runes_Check.f k l = some (r1, r2)) (hk : chk l = (r1, r2)) (hs : l.length ≤ 1048576) :
    Calls Try.prog 16 #[.slice A l.length c, .int .i64 char] w fun e w' => e = .returned (.bool true) ∧ Below w.heap.size w w' := by
  have HR := Aside0.mk hr
  have HS := Aside0.mk ((Sta.start w).only hr (keeps_C _ _ _ _))
  have HC := Aside0.mk hc
  have H := Aside0.mk h
  have HBY := Aside0.mk hB
  have HKK := Aside0.mk hk
  clear hr hc h hB hk
  go_enter Try.func16, Try.ntmps16
  go_wp2_with (go_at_call 36; refine (pworks_ok _).mono ?_; rintro e w1 ⟨rfl, hb⟩; have m_ := Aside0.mk (HS.out.call (by repeat (first | exact Below.refl _ _ | apply below_alloc | apply pw_below_drewN | apply below_drew1)) hb); clear HS hb ; have HS := m_; clear m_)
  go_loop [5] (fun s5 => ∃ i : Nat, s5 = .int .i64 i ∧ i ≤ l.length ∧ Aside0 (∀ j : Nat, j < i → rd l j ≠ 10 ∧ rd l j ≠ 13)) (fun s5 => l.length - (intOf s5).toNat)
  case atStart => exact ⟨0, rfl, Nat.zero_le _, ⟨fun j hj => absurd hj (Nat.not_lt_zero _)⟩⟩
  case round =>
    obtain ⟨i, rfl, hi, HN⟩ := hrel
    by_cases hlt : i < l.length
    · obtain ⟨ad, e, hx⟩ := Kd.at_int HS.out.now (i : Int) (by omega) (by omega)
      rw [Int.toNat_natCast] at hx
      cases e
      have i1 : (i : Int) < l.length := by omega
      by_cases b10 : rd l i = 10
      · rw [b10] at hx
        go_wp2
        go_ret
        exact ⟨rfl, HS.out.bel⟩
      · have c10 : (rd l i == 10) = false := beq_eq_false_iff_ne.mpr b10
        by_cases b13 : rd l i = 13
        · have c13 : (rd l i == 13) = true := beq_iff_eq.mpr b13
          clear b10 b13
          go_wp2
          go_ret
          exact ⟨rfl, HS.out.bel⟩
        · have c13 : (rd l i == 13) = false := beq_eq_false_iff_ne.mpr b13
          have HN2 := Aside0.mk (show ∀ j : Nat, j < i + 1 → rd l j ≠ 10 ∧ rd l j ≠ 13 from fun j hj => by
            rcases Nat.lt_succ_iff_lt_or_eq.1 hj with h | h
            · exact HN.out j h
            · subst h; exact ⟨b10, b13⟩)
          clear b10 b13
          go_wp2
          go_round
          case measure => simp [intOf]; omega
          case rel => exact ⟨i + 1, by simp, hlt, HN2⟩
    · obtain rfl : i = l.length := by omega
      by_cases hz : r2 = 0
      · subst hz
        have hv : V l := (chk_V HBY.out).1 (by rw [HKK.out])
        have hL := lns_one l HN.out
        have hcs : Cs l (chars l) := hv.chars
        obtain ⟨g, hsz⟩ := hcs.good HBY.out
        have BM := Aside0.mk (bring_f char 1099511627776 (by decide) (by decide))
        have c0 := Int.emod_nonneg char (show (1099511627776 : Int) ≠ 0 by decide)
        have c1 := Int.emod_lt_of_pos char (show (0 : Int) < 1099511627776 by decide)
        generalize char % 1099511627776 = ch at BM c0 c1
        have hP : poff l 0 ch = off (chars l) ch := by
          rw [poff_of hL, if_neg (by simp), show rdLn [⟨0, (l.length : Int), (l.length : Int)⟩] 0 = ⟨0, l.length, l.length⟩ from rfl, seg_one]
          simp
        have hF : fnd l l.length = (0 : Nat) := fnd_eq (by rw [hL]; exact ⟨by simp, fun t ht => absurd ht (Nat.not_lt_zero _), fun h => absurd h (by simp)⟩)
        have hE : fnd l l.length = (0 : Nat) ∧ pch l l.length = un (chars l) := by
          refine ⟨hF, ?_⟩
          unfold pch
          rw [hF, hL, show rdLn [⟨0, (l.length : Int), (l.length : Int)⟩] (((0 : Nat) : Int)) = ⟨0, l.length, l.length⟩ from rfl, seg_one]
          exact (ufl_sz _ g (by rw [hsz]; simp)).1
        have HOF := Aside0.mk (Of_f HBY.out hs hcs (Nat.lt_succ_self _))
        have HP := Aside0.mk hP
        have HE := Aside0.mk hE
        have HV := Aside0.mk hv
        have HCS := Aside0.mk hcs
        clear hP hE hF hL hv hcs hsz g
        generalize chars l = rs at *
        go_wp2_with (first | (go_at_call 43; refine (made_ok k A c l r1 _ (HS.out.step (by repeat (first | exact Below.refl _ _ | apply below_alloc | apply pw_below_drewN | apply below_drew1))).now HC.out hn H.out hs).mono ?_; rintro e w2 ⟨m, rfl, hM, hb⟩; have m_ := Aside0.mk ((HS.out.call (by repeat (first | exact Below.refl _ _ | apply below_alloc | apply pw_below_drewN | apply below_drew1)) hb).add hM (keeps_map _ _)); clear HS hb hM; have HS := m_; clear m_) | (go_at_call 29; refine (colophonref00_Bring.calls _ _ _ _ BM.out).mono ?_; rintro e w3 ⟨rfl, nq, rfl⟩) | (go_at_call 45; refine (pos_ok _ _ _).mono ?_; rintro e w4 ⟨rfl, hb⟩; have m_ := Aside0.mk (HS.out.call (by repeat (first | exact Below.refl _ _ | apply below_alloc | apply pw_below_drewN | apply below_drew1)) hb); clear HS hb ; have HS := m_; clear m_) | (go_at_call 37; refine (MOffset_is m l 0 ch _ (HS.out.step (by repeat (first | exact Below.refl _ _ | apply below_alloc | apply pw_below_drewN | apply below_drew1))).now.1 hs HBY.out HV.out (by decide) c0 (by omega)).mono ?_; rintro e w5 ⟨rfl, hb⟩; rw [HP.out]; have m_ := Aside0.mk (HS.out.call (by repeat (first | exact Below.refl _ _ | apply below_alloc | apply pw_below_drewN | apply below_drew1)) hb); clear HS hb ; have HS := m_; clear m_) | (go_at_call 47; refine (UOffset_ok A c l rs ch _ (HS.out.step (by repeat (first | exact Below.refl _ _ | apply below_alloc | apply pw_below_drewN | apply below_drew1))).now.2 HC.out HBY.out hs HCS.out c0 (by omega)).mono ?_; rintro e w6 ⟨rfl, hb⟩; have m_ := Aside0.mk (HS.out.call (by repeat (first | exact Below.refl _ _ | apply below_alloc | apply pw_below_drewN | apply below_drew1)) hb); clear HS hb ; have HS := m_; clear m_) | (go_at_call 46; refine (units_Of.calls _ A c l _ _ _ (HS.out.step (by repeat (first | exact Below.refl _ _ | apply below_alloc | apply pw_below_drewN | apply below_drew1))).now.2 HC.out HOF.out).mono ?_; rintro e w7 ⟨rfl, no, rfl⟩) | (go_at_call 41; refine (MEnd_is m l _ (HS.out.step (by repeat (first | exact Below.refl _ _ | apply below_alloc | apply pw_below_drewN | apply below_drew1))).now.1 hs HBY.out HV.out).mono ?_; rintro e w8 ⟨rfl, hb⟩; rw [HE.out.1, HE.out.2]; have m_ := Aside0.mk (HS.out.call (by repeat (first | exact Below.refl _ _ | apply below_alloc | apply pw_below_drewN | apply below_drew1)) hb); clear HS hb ; have HS := m_; clear m_))
        go_ret
        exact ⟨rfl, HS.out.bel⟩
      · go_wp2_with (go_at_call 43; refine (made_err k A c l r1 r2 _ (HS.out.step (by repeat (first | exact Below.refl _ _ | apply below_alloc | apply pw_below_drewN | apply below_drew1))).now HC.out H.out hz).mono ?_; rintro e w2 ⟨rfl, hb⟩; have m_ := Aside0.mk (HS.out.call (by repeat (first | exact Below.refl _ _ | apply below_alloc | apply pw_below_drewN | apply below_drew1)) hb); clear HS hb ; have HS := m_; clear m_)
        go_ret
        exact ⟨rfl, HS.out.bel⟩

theorem PlaceUnits_row (A : Option Addr) (n c : Nat) (zs : List Int) (p : Int) (W : World) (h : IsRow .u8 W A n c zs) (hb : c ≤ 1048576) (_hp : (Lit.int .i64 p).wf = true) :
    Calls Try.prog 16 #[.slice A n c, .int .i64 p] W fun e w' => e = .returned (.bool true) ∧ Below W.heap.size W w' := by
  have hn : A = none → c = 0 := fun e => by
    subst e
    rcases h with ⟨_, _, h, _⟩ | ⟨x, h, _⟩
    · exact h
    · cases h
  obtain ⟨l, rfl, hc, hC, hw⟩ := h.reads
  have hB : Bytes l := fun x hx => byte_wf (hw x hx)
  exact PlaceUnits_ok _ A c l _ _ p W hC hc hn hB (Check_f l hB (by omega) (Nat.lt_succ_self _)) rfl (by omega)

theorem FindAt.rise {L : List Ln} {a b : Int} {r s : Nat} (h : FindAt L a r) (k : FindAt L b s) (hab : a ≤ b) : r ≤ s := by
  refine Nat.le_of_not_lt (fun hlt => ?_)
  have h1 := h.2.1 s hlt
  have h2 := k.2.2 (by have := h.1; omega)
  omega
/-- Bytes in order have places in order. -/
theorem places_rise (l : List Int) (hB : Bytes l) (hv : V l) (a b : Int) (hab : a ≤ b) : fnd l a < fnd l b ∨ (fnd l a = fnd l b ∧ pch l a ≤ pch l b) := by
  have h1 := (fnd_is l a).rise (fnd_is l b) hab
  rcases Nat.lt_or_eq_of_le h1 with h | h
  · exact .inl h
  · refine .inr ⟨h, ?_⟩
    unfold pch
    rw [h]
    have hlt := (fnd_is l b).1
    obtain ⟨g, _⟩ := (line_V hB hv _ hlt).chars.good (fun y hy => hB y (List.mem_of_mem_take (List.mem_of_mem_drop hy)))
    exact ufl_mono _ _ g (by omega)

set_option maxRecDepth 100000 in
set_option maxHeartbeats 2000000 in
theorem PlaceOrder_ok (k : Nat) (A : Option Addr) (c : Nat) (l : List Int) (r1 r2 : Int) (n k_ : Int) (w : World) (hr : Kd.C (Kd.int .u8) w A l.length l) (hc : l.length ≤ c) (hn : A = none → c = 0) (hB : Bytes l) (h : runes_Check.f k l = some (r1, r2)) (hk : chk l = (r1, r2)) (hs : l.length ≤ 1048576) :
    Calls Try.prog 14 #[.slice A l.length c, .int .i64 n, .int .i64 k_] w fun e w' => e = .returned (.bool true) ∧ Below w.heap.size w w' := by
  have HS := Aside0.mk ((Sta.start w).only hr (keeps_C _ _ _ _))
  have HC := Aside0.mk hc
  have H := Aside0.mk h
  have HBY := Aside0.mk hB
  have HKK := Aside0.mk hk
  clear hr hc h hB hk
  by_cases hz : r2 = 0
  · subst hz
    have hv : V l := (chk_V HBY.out).1 (by rw [HKK.out])
    have BM := Aside0.mk (bring_f n ((l.length : Int) + 1) (by omega) (by omega))
    have BM2 := Aside0.mk (bring_f k_ ((l.length : Int) + 1) (by omega) (by omega))
    have n0 := Int.emod_nonneg n (show ((l.length : Int) + 1) ≠ 0 by omega)
    have n1 := Int.emod_lt_of_pos n (show 0 < ((l.length : Int) + 1) by omega)
    have k0 := Int.emod_nonneg k_ (show ((l.length : Int) + 1) ≠ 0 by omega)
    have k1 := Int.emod_lt_of_pos k_ (show 0 < ((l.length : Int) + 1) by omega)
    generalize n % ((l.length : Int) + 1) = nn at *
    generalize k_ % ((l.length : Int) + 1) = kk at *
    have HV := Aside0.mk hv
    have t1 := True.intro
    have t2 := True.intro
    have t3 := True.intro
    have t4 := True.intro
    rcases Int.lt_trichotomy nn kk with hlt | heq | hlt
    · have hp := places_rise l HBY.out HV.out nn kk (by omega)
      obtain ⟨lo, hlo⟩ : ∃ lo, lo = nn := ⟨_, rfl⟩
      obtain ⟨hi, hhi⟩ : ∃ hi, hi = kk := ⟨_, rfl⟩
      subst hlo hhi
      have l0 : 0 ≤ lo := n0
      have h1 : hi ≤ l.length := by omega
      have hle : lo ≤ hi := by omega
      clear hv
      obtain ⟨fl, hfl⟩ : ∃ fl, fl = fnd l lo := ⟨_, rfl⟩
      obtain ⟨fh, hfh⟩ : ∃ fh, fh = fnd l hi := ⟨_, rfl⟩
      obtain ⟨pl, hpl⟩ : ∃ pl, pl = pch l lo := ⟨_, rfl⟩
      obtain ⟨ph, hph⟩ : ∃ ph, ph = pch l hi := ⟨_, rfl⟩
      rw [← hfl, ← hfh, ← hpl, ← hph] at hp
      have HFL := Aside0.mk hfl
      have HFH := Aside0.mk hfh
      have HPL := Aside0.mk hpl
      have HPH := Aside0.mk hph
      clear hfl hfh hpl hph
      rcases hp with hp | ⟨hp, hq⟩
      · have hp2 : (fl : Int) < fh := by omega
        clear hp
        go_enter Try.func14, Try.ntmps14
        go_wp2_with (first | (go_at_call 36; refine (pworks_ok _).mono ?_; rintro e w1 ⟨rfl, hb⟩; have m_ := Aside0.mk (HS.out.call (by repeat (first | exact Below.refl _ _ | apply below_alloc | apply pw_below_drewN | apply below_drew1)) hb); clear HS hb ; have HS := m_; clear m_) | (go_at_call 43; refine (made_ok k A c l r1 _ (HS.out.step (by repeat (first | exact Below.refl _ _ | apply below_alloc | apply pw_below_drewN | apply below_drew1))).now HC.out hn H.out hs).mono ?_; rintro e w2 ⟨m, rfl, hM, hb⟩; have m_ := Aside0.mk ((HS.out.call (by repeat (first | exact Below.refl _ _ | apply below_alloc | apply pw_below_drewN | apply below_drew1)) hb).add hM (keeps_map _ _)); clear HS hb hM; have HS := m_; clear m_) | (have _t := t1; go_at_call 29; refine (colophonref00_Bring.calls n _ _ _ BM.out).mono ?_; rintro e w3 ⟨rfl, nq, rfl⟩; clear t1 _t) | (have _t := t2; go_at_call 29; refine (colophonref00_Bring.calls k_ _ _ _ BM2.out).mono ?_; rintro e w3 ⟨rfl, nq2, rfl⟩; clear t2 _t) | (have _t := t3; go_at_call 39; refine (MPos_is m l lo _ (HS.out.step (by repeat (first | exact Below.refl _ _ | apply below_alloc | apply pw_below_drewN | apply below_drew1))).now.1 hs HBY.out HV.out l0 (by omega)).mono ?_; rintro e w5 ⟨rfl, hb⟩; rw [← HFL.out, ← HPL.out]; have m_ := Aside0.mk (HS.out.call (by repeat (first | exact Below.refl _ _ | apply below_alloc | apply pw_below_drewN | apply below_drew1)) hb); clear HS hb ; have HS := m_; clear m_; clear t3 _t) | (have _t := t4; go_at_call 39; refine (MPos_is m l hi _ (HS.out.step (by repeat (first | exact Below.refl _ _ | apply below_alloc | apply pw_below_drewN | apply below_drew1))).now.1 hs HBY.out HV.out (by omega) h1).mono ?_; rintro e w6 ⟨rfl, hb⟩; rw [← HFH.out, ← HPH.out]; have zb := blk_new w5 (.cells #[.int .i64 fl, .int .i64 pl] 58); have z0 := cell_alloc1 (cell_below ((blk_cell zb 0).trans rfl) hb); have z1 := cell_alloc1 (cell_below ((blk_cell zb 1).trans rfl) hb); clear zb; have m_ := Aside0.mk (HS.out.call (by repeat (first | exact Below.refl _ _ | apply below_alloc | apply pw_below_drewN | apply below_drew1)) hb); clear HS hb ; have HS := m_; clear m_; clear t4 _t))
        go_ret
        exact ⟨rfl, (HS.out.step (by repeat (first | exact Below.refl _ _ | apply below_alloc | apply pw_below_drewN | apply below_drew1))).bel⟩
      · subst hp
        have hp2 : ¬ (fl : Int) < fl := by omega
        go_enter Try.func14, Try.ntmps14
        go_wp2_with (first | (go_at_call 36; refine (pworks_ok _).mono ?_; rintro e w1 ⟨rfl, hb⟩; have m_ := Aside0.mk (HS.out.call (by repeat (first | exact Below.refl _ _ | apply below_alloc | apply pw_below_drewN | apply below_drew1)) hb); clear HS hb ; have HS := m_; clear m_) | (go_at_call 43; refine (made_ok k A c l r1 _ (HS.out.step (by repeat (first | exact Below.refl _ _ | apply below_alloc | apply pw_below_drewN | apply below_drew1))).now HC.out hn H.out hs).mono ?_; rintro e w2 ⟨m, rfl, hM, hb⟩; have m_ := Aside0.mk ((HS.out.call (by repeat (first | exact Below.refl _ _ | apply below_alloc | apply pw_below_drewN | apply below_drew1)) hb).add hM (keeps_map _ _)); clear HS hb hM; have HS := m_; clear m_) | (have _t := t1; go_at_call 29; refine (colophonref00_Bring.calls n _ _ _ BM.out).mono ?_; rintro e w3 ⟨rfl, nq, rfl⟩; clear t1 _t) | (have _t := t2; go_at_call 29; refine (colophonref00_Bring.calls k_ _ _ _ BM2.out).mono ?_; rintro e w3 ⟨rfl, nq2, rfl⟩; clear t2 _t) | (have _t := t3; go_at_call 39; refine (MPos_is m l lo _ (HS.out.step (by repeat (first | exact Below.refl _ _ | apply below_alloc | apply pw_below_drewN | apply below_drew1))).now.1 hs HBY.out HV.out l0 (by omega)).mono ?_; rintro e w5 ⟨rfl, hb⟩; rw [← HFL.out, ← HPL.out]; have m_ := Aside0.mk (HS.out.call (by repeat (first | exact Below.refl _ _ | apply below_alloc | apply pw_below_drewN | apply below_drew1)) hb); clear HS hb ; have HS := m_; clear m_; clear t3 _t) | (have _t := t4; go_at_call 39; refine (MPos_is m l hi _ (HS.out.step (by repeat (first | exact Below.refl _ _ | apply below_alloc | apply pw_below_drewN | apply below_drew1))).now.1 hs HBY.out HV.out (by omega) h1).mono ?_; rintro e w6 ⟨rfl, hb⟩; rw [← HFH.out, ← HPH.out]; have zb := blk_new w5 (.cells #[.int .i64 fl, .int .i64 pl] 58); have z0 := cell_alloc1 (cell_below ((blk_cell zb 0).trans rfl) hb); have z1 := cell_alloc1 (cell_below ((blk_cell zb 1).trans rfl) hb); clear zb; have m_ := Aside0.mk (HS.out.call (by repeat (first | exact Below.refl _ _ | apply below_alloc | apply pw_below_drewN | apply below_drew1)) hb); clear HS hb ; have HS := m_; clear m_; clear t4 _t))
        go_ret
        exact ⟨rfl, (HS.out.step (by repeat (first | exact Below.refl _ _ | apply below_alloc | apply pw_below_drewN | apply below_drew1))).bel⟩
    · have hp := places_rise l HBY.out HV.out nn kk (by omega)
      subst heq
      obtain ⟨lo, hlo⟩ : ∃ lo, lo = nn := ⟨_, rfl⟩
      subst hlo
      have l0 : 0 ≤ lo := n0
      have h1 : lo ≤ l.length := by omega
      clear hv
      obtain ⟨fl, hfl⟩ : ∃ fl, fl = fnd l lo := ⟨_, rfl⟩
      obtain ⟨pl, hpl⟩ : ∃ pl, pl = pch l lo := ⟨_, rfl⟩
      clear hp
      have HFL := Aside0.mk hfl
      have HPL := Aside0.mk hpl
      clear hfl hpl
      have hp2 : ¬ (fl : Int) < fl := by omega
      go_enter Try.func14, Try.ntmps14
      go_wp2_with (first | (go_at_call 36; refine (pworks_ok _).mono ?_; rintro e w1 ⟨rfl, hb⟩; have m_ := Aside0.mk (HS.out.call (by repeat (first | exact Below.refl _ _ | apply below_alloc | apply pw_below_drewN | apply below_drew1)) hb); clear HS hb ; have HS := m_; clear m_) | (go_at_call 43; refine (made_ok k A c l r1 _ (HS.out.step (by repeat (first | exact Below.refl _ _ | apply below_alloc | apply pw_below_drewN | apply below_drew1))).now HC.out hn H.out hs).mono ?_; rintro e w2 ⟨m, rfl, hM, hb⟩; have m_ := Aside0.mk ((HS.out.call (by repeat (first | exact Below.refl _ _ | apply below_alloc | apply pw_below_drewN | apply below_drew1)) hb).add hM (keeps_map _ _)); clear HS hb hM; have HS := m_; clear m_) | (have _t := t1; go_at_call 29; refine (colophonref00_Bring.calls n _ _ _ BM.out).mono ?_; rintro e w3 ⟨rfl, nq, rfl⟩; clear t1 _t) | (have _t := t2; go_at_call 29; refine (colophonref00_Bring.calls k_ _ _ _ BM2.out).mono ?_; rintro e w3 ⟨rfl, nq2, rfl⟩; clear t2 _t) | (have _t := t3; go_at_call 39; refine (MPos_is m l lo _ (HS.out.step (by repeat (first | exact Below.refl _ _ | apply below_alloc | apply pw_below_drewN | apply below_drew1))).now.1 hs HBY.out HV.out l0 (by omega)).mono ?_; rintro e w5 ⟨rfl, hb⟩; rw [← HFL.out, ← HPL.out]; have m_ := Aside0.mk (HS.out.call (by repeat (first | exact Below.refl _ _ | apply below_alloc | apply pw_below_drewN | apply below_drew1)) hb); clear HS hb ; have HS := m_; clear m_; clear t3 _t) | (have _t := t4; go_at_call 39; refine (MPos_is m l lo _ (HS.out.step (by repeat (first | exact Below.refl _ _ | apply below_alloc | apply pw_below_drewN | apply below_drew1))).now.1 hs HBY.out HV.out (by omega) h1).mono ?_; rintro e w6 ⟨rfl, hb⟩; rw [← HFL.out, ← HPL.out]; have zb := blk_new w5 (.cells #[.int .i64 fl, .int .i64 pl] 58); have z0 := cell_alloc1 (cell_below ((blk_cell zb 0).trans rfl) hb); have z1 := cell_alloc1 (cell_below ((blk_cell zb 1).trans rfl) hb); clear zb; have m_ := Aside0.mk (HS.out.call (by repeat (first | exact Below.refl _ _ | apply below_alloc | apply pw_below_drewN | apply below_drew1)) hb); clear HS hb ; have HS := m_; clear m_; clear t4 _t))
      go_ret
      exact ⟨rfl, (HS.out.step (by repeat (first | exact Below.refl _ _ | apply below_alloc | apply pw_below_drewN | apply below_drew1))).bel⟩
    · have hp := places_rise l HBY.out HV.out kk nn (by omega)
      obtain ⟨lo, hlo⟩ : ∃ lo, lo = kk := ⟨_, rfl⟩
      obtain ⟨hi, hhi⟩ : ∃ hi, hi = nn := ⟨_, rfl⟩
      subst hlo hhi
      have l0 : 0 ≤ lo := k0
      have h1 : hi ≤ l.length := by omega
      have hle : lo ≤ hi := by omega
      clear hv
      obtain ⟨fl, hfl⟩ : ∃ fl, fl = fnd l lo := ⟨_, rfl⟩
      obtain ⟨fh, hfh⟩ : ∃ fh, fh = fnd l hi := ⟨_, rfl⟩
      obtain ⟨pl, hpl⟩ : ∃ pl, pl = pch l lo := ⟨_, rfl⟩
      obtain ⟨ph, hph⟩ : ∃ ph, ph = pch l hi := ⟨_, rfl⟩
      rw [← hfl, ← hfh, ← hpl, ← hph] at hp
      have HFL := Aside0.mk hfl
      have HFH := Aside0.mk hfh
      have HPL := Aside0.mk hpl
      have HPH := Aside0.mk hph
      clear hfl hfh hpl hph
      rcases hp with hp | ⟨hp, hq⟩
      · have hp2 : (fl : Int) < fh := by omega
        clear hp
        go_enter Try.func14, Try.ntmps14
        go_wp2_with (first | (go_at_call 36; refine (pworks_ok _).mono ?_; rintro e w1 ⟨rfl, hb⟩; have m_ := Aside0.mk (HS.out.call (by repeat (first | exact Below.refl _ _ | apply below_alloc | apply pw_below_drewN | apply below_drew1)) hb); clear HS hb ; have HS := m_; clear m_) | (go_at_call 43; refine (made_ok k A c l r1 _ (HS.out.step (by repeat (first | exact Below.refl _ _ | apply below_alloc | apply pw_below_drewN | apply below_drew1))).now HC.out hn H.out hs).mono ?_; rintro e w2 ⟨m, rfl, hM, hb⟩; have m_ := Aside0.mk ((HS.out.call (by repeat (first | exact Below.refl _ _ | apply below_alloc | apply pw_below_drewN | apply below_drew1)) hb).add hM (keeps_map _ _)); clear HS hb hM; have HS := m_; clear m_) | (have _t := t1; go_at_call 29; refine (colophonref00_Bring.calls n _ _ _ BM.out).mono ?_; rintro e w3 ⟨rfl, nq, rfl⟩; clear t1 _t) | (have _t := t2; go_at_call 29; refine (colophonref00_Bring.calls k_ _ _ _ BM2.out).mono ?_; rintro e w3 ⟨rfl, nq2, rfl⟩; clear t2 _t) | (have _t := t3; go_at_call 39; refine (MPos_is m l lo _ (HS.out.step (by repeat (first | exact Below.refl _ _ | apply below_alloc | apply pw_below_drewN | apply below_drew1))).now.1 hs HBY.out HV.out l0 (by omega)).mono ?_; rintro e w5 ⟨rfl, hb⟩; rw [← HFL.out, ← HPL.out]; have m_ := Aside0.mk (HS.out.call (by repeat (first | exact Below.refl _ _ | apply below_alloc | apply pw_below_drewN | apply below_drew1)) hb); clear HS hb ; have HS := m_; clear m_; clear t3 _t) | (have _t := t4; go_at_call 39; refine (MPos_is m l hi _ (HS.out.step (by repeat (first | exact Below.refl _ _ | apply below_alloc | apply pw_below_drewN | apply below_drew1))).now.1 hs HBY.out HV.out (by omega) h1).mono ?_; rintro e w6 ⟨rfl, hb⟩; rw [← HFH.out, ← HPH.out]; have zb := blk_new w5 (.cells #[.int .i64 fl, .int .i64 pl] 58); have z0 := cell_alloc1 (cell_below ((blk_cell zb 0).trans rfl) hb); have z1 := cell_alloc1 (cell_below ((blk_cell zb 1).trans rfl) hb); clear zb; have m_ := Aside0.mk (HS.out.call (by repeat (first | exact Below.refl _ _ | apply below_alloc | apply pw_below_drewN | apply below_drew1)) hb); clear HS hb ; have HS := m_; clear m_; clear t4 _t))
        go_ret
        exact ⟨rfl, (HS.out.step (by repeat (first | exact Below.refl _ _ | apply below_alloc | apply pw_below_drewN | apply below_drew1))).bel⟩
      · subst hp
        have hp2 : ¬ (fl : Int) < fl := by omega
        go_enter Try.func14, Try.ntmps14
        go_wp2_with (first | (go_at_call 36; refine (pworks_ok _).mono ?_; rintro e w1 ⟨rfl, hb⟩; have m_ := Aside0.mk (HS.out.call (by repeat (first | exact Below.refl _ _ | apply below_alloc | apply pw_below_drewN | apply below_drew1)) hb); clear HS hb ; have HS := m_; clear m_) | (go_at_call 43; refine (made_ok k A c l r1 _ (HS.out.step (by repeat (first | exact Below.refl _ _ | apply below_alloc | apply pw_below_drewN | apply below_drew1))).now HC.out hn H.out hs).mono ?_; rintro e w2 ⟨m, rfl, hM, hb⟩; have m_ := Aside0.mk ((HS.out.call (by repeat (first | exact Below.refl _ _ | apply below_alloc | apply pw_below_drewN | apply below_drew1)) hb).add hM (keeps_map _ _)); clear HS hb hM; have HS := m_; clear m_) | (have _t := t1; go_at_call 29; refine (colophonref00_Bring.calls n _ _ _ BM.out).mono ?_; rintro e w3 ⟨rfl, nq, rfl⟩; clear t1 _t) | (have _t := t2; go_at_call 29; refine (colophonref00_Bring.calls k_ _ _ _ BM2.out).mono ?_; rintro e w3 ⟨rfl, nq2, rfl⟩; clear t2 _t) | (have _t := t3; go_at_call 39; refine (MPos_is m l lo _ (HS.out.step (by repeat (first | exact Below.refl _ _ | apply below_alloc | apply pw_below_drewN | apply below_drew1))).now.1 hs HBY.out HV.out l0 (by omega)).mono ?_; rintro e w5 ⟨rfl, hb⟩; rw [← HFL.out, ← HPL.out]; have m_ := Aside0.mk (HS.out.call (by repeat (first | exact Below.refl _ _ | apply below_alloc | apply pw_below_drewN | apply below_drew1)) hb); clear HS hb ; have HS := m_; clear m_; clear t3 _t) | (have _t := t4; go_at_call 39; refine (MPos_is m l hi _ (HS.out.step (by repeat (first | exact Below.refl _ _ | apply below_alloc | apply pw_below_drewN | apply below_drew1))).now.1 hs HBY.out HV.out (by omega) h1).mono ?_; rintro e w6 ⟨rfl, hb⟩; rw [← HFH.out, ← HPH.out]; have zb := blk_new w5 (.cells #[.int .i64 fl, .int .i64 pl] 58); have z0 := cell_alloc1 (cell_below ((blk_cell zb 0).trans rfl) hb); have z1 := cell_alloc1 (cell_below ((blk_cell zb 1).trans rfl) hb); clear zb; have m_ := Aside0.mk (HS.out.call (by repeat (first | exact Below.refl _ _ | apply below_alloc | apply pw_below_drewN | apply below_drew1)) hb); clear HS hb ; have HS := m_; clear m_; clear t4 _t))
        go_ret
        exact ⟨rfl, (HS.out.step (by repeat (first | exact Below.refl _ _ | apply below_alloc | apply pw_below_drewN | apply below_drew1))).bel⟩
  · clear hn
    go_enter Try.func14, Try.ntmps14
    go_wp2_with (first | (go_at_call 36; refine (pworks_ok _).mono ?_; rintro e w1 ⟨rfl, hb⟩; have m_ := Aside0.mk (HS.out.call (by repeat (first | exact Below.refl _ _ | apply below_alloc | apply pw_below_drewN | apply below_drew1)) hb); clear HS hb ; have HS := m_; clear m_) | (go_at_call 43; refine (made_err k A c l r1 r2 _ (HS.out.step (by repeat (first | exact Below.refl _ _ | apply below_alloc | apply pw_below_drewN | apply below_drew1))).now HC.out H.out hz).mono ?_; rintro e w2 ⟨rfl, hb⟩; have m_ := Aside0.mk (HS.out.call (by repeat (first | exact Below.refl _ _ | apply below_alloc | apply pw_below_drewN | apply below_drew1)) hb); clear HS hb ; have HS := m_; clear m_))
    go_ret
    exact ⟨rfl, HS.out.bel⟩
theorem PlaceOrder_row (A : Option Addr) (n c : Nat) (zs : List Int) (p q : Int) (W : World) (h : IsRow .u8 W A n c zs) (hb : c ≤ 1048576) (_hp : (Lit.int .i64 p).wf = true) (_hq : (Lit.int .i64 q).wf = true) :
    Calls Try.prog 14 #[.slice A n c, .int .i64 p, .int .i64 q] W fun e w' => e = .returned (.bool true) ∧ Below W.heap.size W w' := by
  have hn : A = none → c = 0 := fun e => by
    subst e
    rcases h with ⟨_, _, h, _⟩ | ⟨x, h, _⟩
    · exact h
    · cases h
  obtain ⟨l, rfl, hc, hC, hw⟩ := h.reads
  have hB : Bytes l := fun x hx => byte_wf (hw x hx)
  exact PlaceOrder_ok _ A c l _ _ p q W hC hc hn hB (Check_f l hB (by omega) (Nat.lt_succ_self _)) rfl (by omega)
end Go.Proofs.Ytogfaahdbecdnaa.B

namespace Go.Proofs.Ytogfaahdbecdnaa.placeOrder
open Go.ChangeShapes Go.WideShapes Go.ChangeAt Go.RowKit Go.Proofs.Ytogfaahdbecdnaa.B
set_option linter.unusedVariables false
theorem own : ownKnob Try.prog.godebug = none := by kernel_rfl
theorem laidOut : laidOutB Try.prog = true := by kernel_rfl
set_option maxRecDepth 100000 in
theorem contract (H : Type) (enc : TypeId × Value → H) (W : World) (base : Nat) (args : Array Value) (ds gs : List (DataW H)) (before : List MemPlace)
    (hval0 : ∀ (j : Nat) t v, Try.f14.params[j]? = some t → args[j]? = some v → Value.okWide Try.prog W .any base t v)
    (hW : DataW.Whole enc Try.prog Try.f14.params.toList Rows.placeOrderSpec.vars false W args.toList ds gs before) (hk : Rows.uptoSmall H (ds ++ gs) = true) :
    Calls Try.prog 14 args W fun e W' => ∃ v, e = .returned v ∧ Rows.placeOrderSpec.post enc Try.prog Try.f14 false true false false W args v W' := by
  have hW' := hW
  obtain ⟨p, q, hA0, hV, rfl, hfz, hnd⟩ := hW
  have hA : DataW.TrodAll enc Try.prog W 0 (fun _ => true) true Try.f14.params.toList args.toList ds p := hA0
  have hval : ∀ (j : Nat) t v, Try.f14.params[j]? = some t → args[j]? = some v → Value.okWide Try.prog W .any base t v := hval0
  rw [Try.params14] at hA hval
  obtain ⟨v0, vs0, d0, ds0, p0, q0, hargs, rfl, rfl, h0, r0⟩ := trodAll_cons hA
  obtain ⟨v1, vs1, d1, ds1, p1, q1, rfl, rfl, rfl, h1, r1⟩ := trodAll_cons r0
  obtain ⟨v2, vs2, d2, ds2, p2, q2, rfl, rfl, rfl, h2, r2⟩ := trodAll_cons r1
  obtain ⟨rfl, rfl, rfl⟩ := trodAll_nil r2
  obtain rfl : args = #[v0, v1, v2] := by cases args; simp_all
  obtain ⟨rfl, rfl⟩ := trodVars_none hV
  have hbulk := bulks.bound hk
  obtain ⟨a0, len0, cap0, rfl⟩ := okWide_slice Try.underlying22 (hval 0 22 v0 rfl rfl)
  have k0 := h0
  have lt0 : ∀ x ∈ p0, x.block < W.heap.size := by obtain ⟨m, hm⟩ := k0; exact DataW.trod_lt m _ _ _ hm
  obtain ⟨z0, w0, b0⟩ : ∃ zs, IsRow .u8 W a0 len0 cap0 zs ∧ cap0 ≤ 1048576 := by
    obtain ⟨fuel, hf⟩ := h0
    rcases open_ints Try.underlying22 Try.underlying5 (by kernel_rfl) hf with ⟨hcs, _⟩ | ⟨x, l, c, zs, hcs, _, hl, hm, hz, hd, hcell, hwz⟩
    · simp [Value.cells] at hcs
      obtain ⟨rfl, rfl, rfl⟩ := hcs
      exact ⟨[], .inl ⟨rfl, rfl, rfl, rfl⟩, by decide⟩
    · simp [Value.cells] at hcs
      obtain ⟨rfl, rfl, rfl⟩ := hcs
      refine ⟨zs, .inr ⟨_, rfl, hl, hm, by simpa using hz, hcell, hwz⟩, ?_⟩
      injection hd with hd _
      have hp : d0 ∈ _ := (show d0 ∈ ([d0, d1, d2] : List (DataW H)) ++ [] from by simp)
      have h1 := bulks.part_le hp
      rw [hd] at h1
      have h2 := bulks.slice_le (H := H) (lits .u8 (zs.take len0)) (lits .u8 (zs.drop len0))
      rw [hd] at hbulk
      have hz' : zs.length = cap0 := by simpa using hz
      simp [lits] at h1 h2 hbulk
      omega
  obtain ⟨a1, rfl, rfl, rfl, w1⟩ := open_int Try.underlying3 (hval 1 3 v1 rfl rfl) h1
  obtain ⟨a2, rfl, rfl, rfl, w2⟩ := open_int Try.underlying3 (hval 2 3 v2 rfl rfl) h2
  clear hA0 hval0
  refine (PlaceOrder_row a0 len0 cap0 z0 a1 a2 W w0 b0 w1 w2).mono fun e W' ⟨he, bel⟩ => ?_
  subst he
  exact ⟨_, rfl, _, _, _, [], _, [], hW', trodAll_mk1 (shut_bool Try.underlying4 _), (trodAll_cons_mk (Below.trod laidOut (by kernel_rfl) (of_decide_eq_true (by kernel_rfl)) k0 bel lt0) (trodAll_cons_mk (shut_int Try.underlying3 w1) (trodAll_cons_mk (shut_int Try.underlying3 w2) trodAll_mk0))), rfl, bel.frame _, fun h => by cases h⟩
set_option maxRecDepth 100000 in
theorem lifted (os : Os) (started : os.Started) (H : Type) (enc : TypeId × Value → H) (F : Stop.Interp) :
    ReturnsInHanded {} Try.checked os 14 .any ((Rows.OpenSpec.upto Rows.placeOrderSpec).pre6 enc Try.prog Try.f14 Rows.placeOrderUptoRow.domain false) (((Rows.OpenSpec.upto Rows.placeOrderSpec).at F).post enc Try.prog Try.f14 false true false false) := by
  refine returnsInHanded_of_cond (C := Try.checked) (s := Rows.OpenSpec.upto Rows.placeOrderSpec) (k := Rows.uptoSmall) rfl own started (by kernel_rfl) Try.func14
    (OpenSpec.witness (enc := enc) (C := Try.checked) (s := Rows.OpenSpec.upto Rows.placeOrderSpec) (k := Rows.uptoSmall) rfl false ⟨#[], #[.slice none 0 0, .int .i64 0, .int .i64 0], []⟩ 8 (by kernel_rfl) (by kernel_rfl) (by kernel_rfl)
      (x := ([.nil, .lit (.int .i64 0), .lit (.int .i64 0)], [], [])) (by kernel_rfl) rfl (by kernel_rfl)) ?_
  intro W base args ds gs before hval hW _ hk _
  exact contract H enc W base args ds gs before hval hW hk
theorem proved : Rows.PlaceOrderUptoSaid :=
  OpenClaim.holds_of_cond 14 Try.f14 rfl rfl rfl rfl rfl rfl rfl ⟨rfl, rfl, rfl, rfl, rfl⟩ rfl rfl rfl rfl rfl (by kernel_rfl) Try.func14 (by kernel_rfl)
    (of_decide_eq_true (by kernel_rfl)) (by unfold Func.isWrapper; first | (rw [if_pos (by decide +kernel)]; kernel_rfl) | (rw [if_neg (by decide +kernel)]; exact ⟨rfl, rfl⟩))
    (fun os started H enc _ F => lifted os started H enc F)
#print axioms proved
end Go.Proofs.Ytogfaahdbecdnaa.placeOrder
namespace Go.Proofs.Ytogfaahdbecdnaa
/-- The row, under a short name, for the claim. -/
theorem placeOrderUpto_holds : Rows.PlaceOrderUptoSaid := placeOrder.proved
end Go.Proofs.Ytogfaahdbecdnaa
