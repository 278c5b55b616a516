/-
  LinesRise, walked.
-/
import Derived.Test.YtogfaahdbecdnaaD0
import Derived.Test.YtogfaahdbecdnaaFBasex5
import Derived.Test.YtogfaahdbecdnaaM1
import Derived.Test.YtogfaahdbecdnaaRow0
namespace Go.Proofs.Ytogfaahdbecdnaa.B
open Go.RowKit Go.Proofs.YtogfaahdbecdnaaW.PrintWords Go.Proofs.YtogfaahdbecdnaaW.PrintLast Go.Proofs.YtogfaahdbecdnaaW.PrintMore Go.Proofs.Ytogfaahdbecdnaa.FBase
set_option linter.unusedVariables false

theorem bring_f (i n : Int) (h0 : 0 < n) (h1 : n < 9223372036854775807) : colophonref00_Bring.f i n = some (i % n) := by
  unfold colophonref00_Bring.f
  rw [if_neg (by omega), if_neg (by omega)]
  have hb := Int.emod_nonneg i (show n ≠ 0 by omega)
  have hl := Int.emod_lt_of_pos i h0
  rcases Int.lt_or_le i 0 with hi | hi
  · by_cases hd : i % n = 0
    · have e : Int.tmod i n = 0 := Int.tmod_eq_zero_of_dvd (Int.dvd_of_emod_eq_zero hd)
      rw [e, if_neg (by omega), hd]
    · have e : Int.tmod i n = i % n - n := by
        rw [Int.tmod_eq_emod]
        rw [if_neg (fun h => h.elim (fun h => by omega) (fun h => hd (Int.emod_eq_zero_of_dvd h)))]
        omega
      rw [e, if_pos (by omega)]
      congr 1
      unfold wrap64
      omega
  · have e : Int.tmod i n = i % n := Int.tmod_eq_emod_of_nonneg hi
    rw [e, if_neg (by omega)]

theorem FindAt.mono {L : List Ln} {fr e pa pb : Int} {r s : Nat} (hc : Chain L fr e) (h : FindAt L pa r) (k : FindAt L pb s) (hp : pa ≤ pb) : r ≤ s ∧ (s : Int) - r ≤ pb - pa := by
  have h1 : r ≤ s := by
    refine Nat.le_of_not_lt (fun hlt => ?_)
    have h2 := h.2.1 s hlt
    have h3 := k.2.2 (by have := h.1; omega)
    omega
  refine ⟨h1, ?_⟩
  rcases Nat.eq_or_lt_of_le h1 with rfl | hlt
  · omega
  · have h2 := h.2.2 (by have := k.1; omega)
    have h3 := k.2.1 (s - 1) (by omega)
    have h4 := (hc.step r (s - 1 - r) (by have := k.1; omega)).1
    rw [show r + (s - 1 - r) = s - 1 by omega, if_neg (by have := k.1; omega)] at h4
    omega

set_option maxHeartbeats 2000000 in
theorem LinesRise_ok (k : Nat) (A : Option Addr) (c : Nat) (l : List Int) (r1 r2 : Int) (p q : Int) (w : World) (hr : Kd.C (Kd.int .u8) w A l.length l) (hc : l.length ≤ c) (h : runes_Check.f k l = some (r1, r2)) (hs : l.length ≤ 1048576) :
    Calls Try.prog 7 #[.slice A l.length c, .int .i64 p, .int .i64 q] w fun e w' => e = .returned (.bool true) ∧ Below w.heap.size w w' := by
  have HR := Aside0.mk hr
  have HC := Aside0.mk hc
  have H := Aside0.mk h
  clear hr hc h
  by_cases hz : r2 = 0
  · subst hz
    have hch := lns_chain0 l
    have hln : (lns l 0 0).length ≤ 2097152 := by have := hch.length_le; omega
    have HCH := Aside0.mk hch
    have b1 := Int.emod_nonneg p (show (l.length : Int) + 1 ≠ 0 by omega)
    have b2 := Int.emod_lt_of_pos p (show (0 : Int) < (l.length : Int) + 1 by omega)
    have b3 := Int.emod_nonneg q (show (l.length : Int) + 1 ≠ 0 by omega)
    have b4 := Int.emod_lt_of_pos q (show (0 : Int) < (l.length : Int) + 1 by omega)
    have BP := Aside0.mk (bring_f p (l.length + 1) (by omega) (by omega))
    have BQ := Aside0.mk (bring_f q (l.length + 1) (by omega) (by omega))
    generalize hp' : p % ((l.length : Int) + 1) = p' at *
    generalize hq' : q % ((l.length : Int) + 1) = q' at *
    clear hp' hq'
    rcases Int.lt_trichotomy p' q' with hpq | rfl | hpq
    · skip
      obtain ⟨ra, ha⟩ := hch.find p'
      obtain ⟨rb, hb⟩ := hch.find q'
      obtain ⟨hm1, hm2⟩ := FindAt.mono hch ha hb (by omega)
      have HA := Aside0.mk ha
      have HBb := Aside0.mk hb
      clear ha hb hch
      have ra2 : ra < 2097152 := Nat.lt_of_lt_of_le HA.out.1 hln
      have rb2 : rb < 2097152 := Nat.lt_of_lt_of_le HBb.out.1 hln
      have d1 : decide (ra ≤ rb) = true := decide_eq_true hm1
      have d2 : decide ((rb : Int) - ra ≤ q' - p') = true := decide_eq_true hm2
      have tok := True.intro
      have tok2 := True.intro
      go_enter Try.func7, Try.ntmps7
      go_wp2_with (first | (go_at_call 24; refine (works_ok _).mono ?_; rintro e w' ⟨rfl, hb⟩; have HB := Aside0.mk hb; clear hb) | (go_at_call 21; refine (New_ok k A c l r1 _ (by repeat (first | exact Kd.C_below HR.out HB.out | exact HR.out | (with_reducible refine Kd.C_alloc ?_ _) | (with_reducible refine Kd.C_drewN ?_ _) | (with_reducible refine Kd.C_drew ?_))) HC.out H.out hs).mono ?_; rintro e w1 ⟨a, rfl, hle, hI, hb⟩; have HI := Aside0.mk hI; have m_ := Aside0.mk (below_step HB.out hb); clear HB; have HB := m_; clear hI hb m_) | (have _t := tok; go_at_call 29; refine (colophonref00_Bring.calls p _ p' _ BP.out).mono ?_; rintro e w' ⟨rfl, nq, rfl⟩; clear tok _t) | (go_at_call 29; refine (colophonref00_Bring.calls q _ q' _ BQ.out).mono ?_; rintro e w' ⟨rfl, nq2, rfl⟩) | (have _t := tok2; go_at_call 31; refine (Find_is a _ 0 l.length p' ra _ (by repeat (first | exact HI.out | apply IsIdx.alloc | apply IsIdx.drewN)) HCH.out (by omega) (by omega) hln HA.out).mono ?_; rintro e w' ⟨rfl, hb⟩; have n0_ := Aside0.mk (IsIdx.below (by repeat (first | exact HI.out | apply IsIdx.alloc | apply IsIdx.drewN)) hb); have m_ := Aside0.mk (below_step (by repeat (first | exact HB.out | apply below_alloc | apply pw_below_drewN | apply below_drew1)) hb); clear HI HB; have HI := n0_; have HB := m_; clear n0_ m_; clear tok2 _t) | (go_at_call 31; refine (Find_is a _ 0 l.length q' rb _ (by repeat (first | exact HI.out | apply IsIdx.alloc | apply IsIdx.drewN)) HCH.out (by omega) (by omega) hln HBb.out).mono ?_; rintro e w' ⟨rfl, hb⟩; have n0_ := Aside0.mk (IsIdx.below (by repeat (first | exact HI.out | apply IsIdx.alloc | apply IsIdx.drewN)) hb); have m_ := Aside0.mk (below_step (by repeat (first | exact HB.out | apply below_alloc | apply pw_below_drewN | apply below_drew1)) hb); clear HI HB; have HI := n0_; have HB := m_; clear n0_ m_))
      go_ret
      exact ⟨rfl, (by repeat (first | exact HB.out | apply below_alloc | apply pw_below_drewN | apply below_drew1))⟩
    · skip
      obtain ⟨ra, ha⟩ := hch.find p'
      obtain ⟨rb, hb⟩ := hch.find p'
      obtain ⟨hm1, hm2⟩ := FindAt.mono hch ha hb (by omega)
      have HA := Aside0.mk ha
      have HBb := Aside0.mk hb
      clear ha hb hch
      have ra2 : ra < 2097152 := Nat.lt_of_lt_of_le HA.out.1 hln
      have rb2 : rb < 2097152 := Nat.lt_of_lt_of_le HBb.out.1 hln
      have d1 : decide (ra ≤ rb) = true := decide_eq_true hm1
      have d2 : decide ((rb : Int) - ra ≤ 0) = true := decide_eq_true (by omega)
      have tok := True.intro
      have tok2 := True.intro
      go_enter Try.func7, Try.ntmps7
      go_wp2_with (first | (go_at_call 24; refine (works_ok _).mono ?_; rintro e w' ⟨rfl, hb⟩; have HB := Aside0.mk hb; clear hb) | (go_at_call 21; refine (New_ok k A c l r1 _ (by repeat (first | exact Kd.C_below HR.out HB.out | exact HR.out | (with_reducible refine Kd.C_alloc ?_ _) | (with_reducible refine Kd.C_drewN ?_ _) | (with_reducible refine Kd.C_drew ?_))) HC.out H.out hs).mono ?_; rintro e w1 ⟨a, rfl, hle, hI, hb⟩; have HI := Aside0.mk hI; have m_ := Aside0.mk (below_step HB.out hb); clear HB; have HB := m_; clear hI hb m_) | (have _t := tok; go_at_call 29; refine (colophonref00_Bring.calls p _ p' _ BP.out).mono ?_; rintro e w' ⟨rfl, nq, rfl⟩; clear tok _t) | (go_at_call 29; refine (colophonref00_Bring.calls q _ p' _ BQ.out).mono ?_; rintro e w' ⟨rfl, nq2, rfl⟩) | (have _t := tok2; go_at_call 31; refine (Find_is a _ 0 l.length p' ra _ (by repeat (first | exact HI.out | apply IsIdx.alloc | apply IsIdx.drewN)) HCH.out (by omega) (by omega) hln HA.out).mono ?_; rintro e w' ⟨rfl, hb⟩; have n0_ := Aside0.mk (IsIdx.below (by repeat (first | exact HI.out | apply IsIdx.alloc | apply IsIdx.drewN)) hb); have m_ := Aside0.mk (below_step (by repeat (first | exact HB.out | apply below_alloc | apply pw_below_drewN | apply below_drew1)) hb); clear HI HB; have HI := n0_; have HB := m_; clear n0_ m_; clear tok2 _t) | (go_at_call 31; refine (Find_is a _ 0 l.length p' rb _ (by repeat (first | exact HI.out | apply IsIdx.alloc | apply IsIdx.drewN)) HCH.out (by omega) (by omega) hln HBb.out).mono ?_; rintro e w' ⟨rfl, hb⟩; have n0_ := Aside0.mk (IsIdx.below (by repeat (first | exact HI.out | apply IsIdx.alloc | apply IsIdx.drewN)) hb); have m_ := Aside0.mk (below_step (by repeat (first | exact HB.out | apply below_alloc | apply pw_below_drewN | apply below_drew1)) hb); clear HI HB; have HI := n0_; have HB := m_; clear n0_ m_))
      go_ret
      exact ⟨rfl, (by repeat (first | exact HB.out | apply below_alloc | apply pw_below_drewN | apply below_drew1))⟩
    · skip
      obtain ⟨ra, ha⟩ := hch.find q'
      obtain ⟨rb, hb⟩ := hch.find p'
      obtain ⟨hm1, hm2⟩ := FindAt.mono hch ha hb (by omega)
      have HA := Aside0.mk ha
      have HBb := Aside0.mk hb
      clear ha hb hch
      have ra2 : ra < 2097152 := Nat.lt_of_lt_of_le HA.out.1 hln
      have rb2 : rb < 2097152 := Nat.lt_of_lt_of_le HBb.out.1 hln
      have d1 : decide (ra ≤ rb) = true := decide_eq_true hm1
      have d2 : decide ((rb : Int) - ra ≤ p' - q') = true := decide_eq_true hm2
      have tok := True.intro
      have tok2 := True.intro
      go_enter Try.func7, Try.ntmps7
      go_wp2_with (first | (go_at_call 24; refine (works_ok _).mono ?_; rintro e w' ⟨rfl, hb⟩; have HB := Aside0.mk hb; clear hb) | (go_at_call 21; refine (New_ok k A c l r1 _ (by repeat (first | exact Kd.C_below HR.out HB.out | exact HR.out | (with_reducible refine Kd.C_alloc ?_ _) | (with_reducible refine Kd.C_drewN ?_ _) | (with_reducible refine Kd.C_drew ?_))) HC.out H.out hs).mono ?_; rintro e w1 ⟨a, rfl, hle, hI, hb⟩; have HI := Aside0.mk hI; have m_ := Aside0.mk (below_step HB.out hb); clear HB; have HB := m_; clear hI hb m_) | (have _t := tok; go_at_call 29; refine (colophonref00_Bring.calls p _ p' _ BP.out).mono ?_; rintro e w' ⟨rfl, nq, rfl⟩; clear tok _t) | (go_at_call 29; refine (colophonref00_Bring.calls q _ q' _ BQ.out).mono ?_; rintro e w' ⟨rfl, nq2, rfl⟩) | (have _t := tok2; go_at_call 31; refine (Find_is a _ 0 l.length q' ra _ (by repeat (first | exact HI.out | apply IsIdx.alloc | apply IsIdx.drewN)) HCH.out (by omega) (by omega) hln HA.out).mono ?_; rintro e w' ⟨rfl, hb⟩; have n0_ := Aside0.mk (IsIdx.below (by repeat (first | exact HI.out | apply IsIdx.alloc | apply IsIdx.drewN)) hb); have m_ := Aside0.mk (below_step (by repeat (first | exact HB.out | apply below_alloc | apply pw_below_drewN | apply below_drew1)) hb); clear HI HB; have HI := n0_; have HB := m_; clear n0_ m_; clear tok2 _t) | (go_at_call 31; refine (Find_is a _ 0 l.length p' rb _ (by repeat (first | exact HI.out | apply IsIdx.alloc | apply IsIdx.drewN)) HCH.out (by omega) (by omega) hln HBb.out).mono ?_; rintro e w' ⟨rfl, hb⟩; have n0_ := Aside0.mk (IsIdx.below (by repeat (first | exact HI.out | apply IsIdx.alloc | apply IsIdx.drewN)) hb); have m_ := Aside0.mk (below_step (by repeat (first | exact HB.out | apply below_alloc | apply pw_below_drewN | apply below_drew1)) hb); clear HI HB; have HI := n0_; have HB := m_; clear n0_ m_))
      go_ret
      exact ⟨rfl, (by repeat (first | exact HB.out | apply below_alloc | apply pw_below_drewN | apply below_drew1))⟩
  · have hz2 : (r2 != 0) = true := bne_iff_ne.mpr hz
    go_enter Try.func7, Try.ntmps7
    go_wp2_with (first | (go_at_call 24; refine (works_ok _).mono ?_; rintro e w' ⟨rfl, hb⟩; have HB := Aside0.mk hb; clear hb) | (go_at_call 21; refine (New_err k A c l r1 r2 _ (by repeat (first | exact Kd.C_below HR.out HB.out | exact HR.out | (with_reducible refine Kd.C_alloc ?_ _) | (with_reducible refine Kd.C_drewN ?_ _) | (with_reducible refine Kd.C_drew ?_))) HC.out H.out hz).mono ?_; rintro e w1 ⟨rfl, hb⟩; have m_ := Aside0.mk (below_step HB.out hb); clear HB; have HB := m_; clear hb m_))
    go_ret
    exact ⟨rfl, (by repeat (first | exact HB.out | apply below_alloc | apply pw_below_drewN | apply below_drew1))⟩

theorem LinesRise_row (A : Option Addr) (n c : Nat) (zs : List Int) (p q : Int) (W : World) (h : IsRow .u8 W A n c zs) (hb : c ≤ 1048576) (_hp : (Lit.int .i64 p).wf = true) (_hq : (Lit.int .i64 q).wf = true) :
    Calls Try.prog 7 #[.slice A n c, .int .i64 p, .int .i64 q] W fun e w' => e = .returned (.bool true) ∧ Below W.heap.size W w' := by
  obtain ⟨l, rfl, hc, hC, hw⟩ := h.reads
  obtain ⟨k, r1, r2, hk⟩ := chk_total l (fun x hx => byte_wf (hw x hx)) (by omega)
  exact LinesRise_ok k A c l r1 r2 p q W hC hc hk (by omega)
end Go.Proofs.Ytogfaahdbecdnaa.B
