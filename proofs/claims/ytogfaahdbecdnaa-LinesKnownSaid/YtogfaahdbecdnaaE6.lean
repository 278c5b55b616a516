/-
  LinesFound, walked.
-/
import Derived.Test.YtogfaahdbecdnaaE7
namespace Go.Proofs.Ytogfaahdbecdnaa.B
open Go.RowKit Go.Proofs.YtogfaahdbecdnaaW.PrintWords Go.Proofs.YtogfaahdbecdnaaW.PrintLast Go.Proofs.YtogfaahdbecdnaaW.PrintMore Go.Proofs.Ytogfaahdbecdnaa.FBase
set_option linter.unusedVariables false

theorem Chain.inside {L : List Ln} {fr e : Int} (hc : Chain L fr e) (n : Nat) (hn : n < L.length) (i : Int) (h0 : (rdLn L n).f0 ≤ i) (h1 : i < (rdLn L n).f2) : FindAt L i n := by
  refine ⟨hn, fun t ht => ?_, fun _ => h1⟩
  have h2 := hc.at t (by omega)
  have h3 := h2.2.2.2.2.2.1 (by omega)
  have h4 := (hc.step t (n - 1 - t) (by omega)).2
  rw [show t + (n - 1 - t) = n - 1 by omega] at h4
  have h5 := (hc.at (n - 1) (by omega)).2.2.2.2.2.1 (by omega)
  rw [show n - 1 + 1 = n by omega] at h5
  omega
theorem Chain.atEnd {L : List Ln} {fr e : Int} (hc : Chain L fr e) : FindAt L e (L.length - 1) := by
  have hp := hc.pos
  exact ⟨by omega, fun t ht => (hc.at t (by omega)).2.2.2.1, fun h => by omega⟩

theorem two_blk (W : World) (o1 o2 : Obj) (t : Nat) : ((W.alloc o1).alloc o2).cell? ⟨W.heap.size, t, none⟩ = (W.alloc o1).cell? ⟨W.heap.size, t, none⟩ ∧ ((W.alloc o1).alloc o2).cell? ⟨W.heap.size + 1, t, none⟩ = ((W.alloc o1).alloc o2).cell? ⟨(W.alloc o1).heap.size, t, none⟩ :=
  ⟨(below_alloc (Below.refl (W.alloc o1).heap.size (W.alloc o1)) o2).cell (p := ⟨W.heap.size, t, none⟩) (by simp), by rw [World.size_alloc]⟩
theorem cell_alloc1 {W : World} {p : Addr} {v : Value} (h : W.cell? p = some v) (o : Obj) : (W.alloc o).cell? p = some v := ((below_alloc (Below.refl _ W) o).cell (World.block_lt_of_cell? W _ h)).trans h
theorem cell_drewN1 {W : World} {p : Addr} {v : Value} (h : W.cell? p = some v) (n : Nat) : (W.drewN n).cell? p = some v := ((pw_below_drewN (Below.refl _ W) n).cell (World.block_lt_of_cell? W _ h)).trans h
theorem cell_below {W W1 : World} {p : Addr} {v : Value} (h : W.cell? p = some v) (hb : Below W.heap.size W W1) : W1.cell? p = some v := (hb.cell (World.block_lt_of_cell? W _ h)).trans h

set_option maxHeartbeats 2000000 in
theorem LinesFound_ok (k : Nat) (A : Option Addr) (c : Nat) (l : List Int) (r1 r2 : Int) (p : Int) (w : World) (hr : Kd.C (Kd.int .u8) w A l.length l) (hc : l.length ≤ c) (h : runes_Check.f k l = some (r1, r2)) (hs : l.length ≤ 1048576) :
    Calls Try.prog 6 #[.slice A l.length c, .int .i64 p] w fun e w' => e = .returned (.bool true) ∧ Below w.heap.size w w' := by
  have HR := Aside0.mk hr
  have HC := Aside0.mk hc
  have H := Aside0.mk h
  clear hr hc h
  by_cases hz : r2 = 0
  · subst hz
    have hch := lns_chain0 l
    have hln : (lns l 0 0).length ≤ 2097152 := by have := hch.length_le; omega
    have hpos := hch.pos
    obtain ⟨L, hL⟩ : ∃ L, lns l 0 0 = L := ⟨_, rfl⟩
    have HLE := Aside0.mk hL
    rw [hL] at hch hln hpos
    clear hL
    have HCH := Aside0.mk hch
    have b1 := Int.emod_nonneg p (show (L.length : Int) ≠ 0 by omega)
    have b2 := Int.emod_lt_of_pos p (show (0 : Int) < (L.length : Int) by omega)
    have bp := bring_f p L.length (by omega) (by omega)
    obtain ⟨n, hn⟩ : ∃ n : Nat, p % (L.length : Int) = n := ⟨_, (Int.toNat_of_nonneg b1).symm⟩
    rw [hn] at bp b1 b2
    have hnl : n < L.length := by omega
    have BP := Aside0.mk bp
    have hat := hch.at n hnl
    have HIN := Aside0.mk (hch.inside n hnl)
    have HE := Aside0.mk hch.atEnd
    clear hn bp hch
    have a1 : 0 ≤ (rdLn L n).f0 := by omega
    have a2 : (rdLn L n).f0 ≤ (rdLn L n).f2 := by omega
    have a3 : (rdLn L n).f2 ≤ l.length := by omega
    clear hat
    obtain ⟨z, hz⟩ : ∃ z, L.length - 1 = z := ⟨_, rfl⟩
    rw [hz] at HE
    have hz1 : wrap64 ((L.length : Int) - 1) = (z : Int) := by unfold wrap64; omega
    have hz2 : ((z : Int) == (L.length : Int) - 1) = true := beq_iff_eq.mpr (by omega)
    have hz3 : (L.length : Int) - 1 = z := by omega
    go_enter Try.func6, Try.ntmps6
    go_wp2_with (first | (go_at_call 24; refine (works_ok _).mono ?_; rintro e w' ⟨rfl, hb⟩; have HB := Aside0.mk hb; clear hb) | (go_at_call 21; refine (New_ok k A c l r1 _ (by repeat (first | exact Kd.C_below HR.out HB.out | exact HR.out | (with_reducible refine Kd.C_alloc ?_ _) | (with_reducible refine Kd.C_drewN ?_ _) | (with_reducible refine Kd.C_drew ?_))) HC.out H.out hs).mono ?_; rintro e w1 ⟨a, rfl, hle, hI, hb⟩; rw [HLE.out] at hI; have HI := Aside0.mk hI; have m_ := Aside0.mk (below_step HB.out hb); clear HB; have HB := m_; clear hI hb m_) | (go_at_call 26; refine (Count_ok a _ _ (by repeat (first | exact HI.out | apply IsIdx.alloc | apply IsIdx.drewN)) HCH.out.pos hln).mono ?_; rintro e w' ⟨rfl, hb⟩; have n0_ := Aside0.mk (IsIdx.below (by repeat (first | exact HI.out | apply IsIdx.alloc | apply IsIdx.drewN)) hb); have m_ := Aside0.mk (below_step (by repeat (first | exact HB.out | apply below_alloc | apply pw_below_drewN | apply below_drew1)) hb); clear HI HB ; have HI := n0_; have HB := m_; clear n0_ m_) | (go_at_call 29; refine (colophonref00_Bring.calls p _ (n : Int) _ BP.out).mono ?_; rintro e w' ⟨rfl, nq, rfl⟩) | (go_at_call 27; refine (Line_ok a _ n _ (by repeat (first | exact HI.out | apply IsIdx.alloc | apply IsIdx.drewN)) (by omega) (by omega) hln).mono ?_; rintro e w' ⟨rfl, hb⟩; have n0_ := Aside0.mk (IsIdx.below (by repeat (first | exact HI.out | apply IsIdx.alloc | apply IsIdx.drewN)) hb); have m_ := Aside0.mk (below_step (by repeat (first | exact HB.out | apply below_alloc | apply pw_below_drewN | apply below_drew1)) hb); clear HI HB ; have HI := n0_; have HB := m_; clear n0_ m_))
    obtain ⟨g, hg⟩ : ∃ g, w'.heap.size = g := ⟨_, rfl⟩
    have hI0 := (HI.out.alloc (.cells #[.int .i64 (rdLn L n).f0, .int .i64 (rdLn L n).f2] 35)).alloc (.cells #[.int .i64 (rdLn L n).f0, .int .i64 (rdLn L n).f1] 35)
    have hB0 := below_alloc (below_alloc HB.out (.cells #[.int .i64 (rdLn L n).f0, .int .i64 (rdLn L n).f2] 35)) (.cells #[.int .i64 (rdLn L n).f0, .int .i64 (rdLn L n).f1] 35)
    have hc1 := (two_blk w' (.cells #[.int .i64 (rdLn L n).f0, .int .i64 (rdLn L n).f2] 35) (.cells #[.int .i64 (rdLn L n).f0, .int .i64 (rdLn L n).f1] 35) 1).1.trans ((blk_cell (blk_new w' _) 1).trans (show _ = some (.int .i64 (rdLn L n).f2) from rfl))
    rw [hg] at hc1 ⊢
    clear hg HI HB hb
    generalize (rdLn L n).f0 = x0 at *
    generalize (rdLn L n).f1 = x1 at *
    generalize (rdLn L n).f2 = x2 at *
    generalize ((w'.alloc (.cells #[.int .i64 x0, .int .i64 x2] 35)).alloc (.cells #[.int .i64 x0, .int .i64 x1] 35)) = W0 at hI0 hB0 hc1 ⊢
    have HI := Aside0.mk hI0
    have HB := Aside0.mk hB0
    have HC1 : Aside0 (W0.cell? ⟨g, 1, none⟩ = some (.int .i64 x2)) := ⟨hc1⟩
    clear hI0 hB0 hc1
    go_loopw [10] (fun s10 W => ∃ i : Int, s10 = .int .i64 i ∧ x0 ≤ i ∧ i ≤ x2 ∧ Aside0 (IsIdx W a L) ∧ Aside0 (Below w.heap.size w W) ∧ Aside0 (W.cell? ⟨g, 1, none⟩ = some (.int .i64 x2))) (fun s10 _ => x2.toNat - (intOf s10).toNat)
    case atStart => exact ⟨x0, rfl, Int.le_refl _, a2, HI, HB, HC1⟩
    case round =>
      clear HI HB HC1
      obtain ⟨i, rfl, hi0, hi1, HI, HB, HC1⟩ := hrel
      have hc1 := HC1.out
      by_cases hlt : i < x2
      · have HF := Aside0.mk (HIN.out i hi0 hlt)
        go_wp2_with (go_at_call 31; refine (Find_is a _ 0 l.length i n _ (by repeat (first | exact HI.out | apply IsIdx.alloc | apply IsIdx.drewN)) HCH.out (by omega) (by omega) hln HF.out).mono ?_; rintro e w' ⟨rfl, hb⟩; have n0_ := Aside0.mk (IsIdx.below (by repeat (first | exact HI.out | apply IsIdx.alloc | apply IsIdx.drewN)) hb); have n1_ := Aside0.mk (cell_below (by repeat (first | exact HC1.out | apply cell_alloc1 | apply cell_drewN1)) hb); have m_ := Aside0.mk (below_step (by repeat (first | exact HB.out | apply below_alloc | apply pw_below_drewN | apply below_drew1)) hb); clear HI HC1 HB hc1; have HI := n0_; have HC1 := n1_; have HB := m_; clear n0_ n1_ m_)
        go_roundw
        case measure => simp [intOf]; omega
        case rel => exact ⟨i + 1, rfl, by omega, by omega, HI, HB, HC1⟩
      · have t2 := True.intro
        go_wp2_with (first | (have _t := t2; go_at_call 31; refine (Find_is a _ 0 l.length l.length z _ (by repeat (first | exact HI.out | apply IsIdx.alloc | apply IsIdx.drewN)) HCH.out (by omega) (by omega) hln HE.out).mono ?_; rintro e w' ⟨rfl, hb⟩; have n0_ := Aside0.mk (IsIdx.below (by repeat (first | exact HI.out | apply IsIdx.alloc | apply IsIdx.drewN)) hb); have m_ := Aside0.mk (below_step (by repeat (first | exact HB.out | apply below_alloc | apply pw_below_drewN | apply below_drew1)) hb); clear HI HB ; have HI := n0_; have HB := m_; clear n0_ m_; clear t2 _t) | (go_at_call 31; refine (Find_no a _ 0 l.length (l.length + 1) _ (by repeat (first | exact HI.out | apply IsIdx.alloc | apply IsIdx.drewN)) HCH.out (.inr (by omega)) hln).mono ?_; rintro e w' ⟨rfl, hb⟩; have n0_ := Aside0.mk (IsIdx.below (by repeat (first | exact HI.out | apply IsIdx.alloc | apply IsIdx.drewN)) hb); have m_ := Aside0.mk (below_step (by repeat (first | exact HB.out | apply below_alloc | apply pw_below_drewN | apply below_drew1)) hb); clear HI HB ; have HI := n0_; have HB := m_; clear n0_ m_) | (go_at_call 26; refine (Count_ok a _ _ (by repeat (first | exact HI.out | apply IsIdx.alloc | apply IsIdx.drewN)) HCH.out.pos hln).mono ?_; rintro e w' ⟨rfl, hb⟩; have n0_ := Aside0.mk (IsIdx.below (by repeat (first | exact HI.out | apply IsIdx.alloc | apply IsIdx.drewN)) hb); have m_ := Aside0.mk (below_step (by repeat (first | exact HB.out | apply below_alloc | apply pw_below_drewN | apply below_drew1)) hb); clear HI HB ; have HI := n0_; have HB := m_; clear n0_ m_))
        go_ret
        exact ⟨rfl, (by repeat (first | exact HB.out | apply below_alloc | apply pw_below_drewN | apply below_drew1))⟩
  · have hz2 : (r2 != 0) = true := bne_iff_ne.mpr hz
    go_enter Try.func6, Try.ntmps6
    go_wp2_with (first | (go_at_call 24; refine (works_ok _).mono ?_; rintro e w' ⟨rfl, hb⟩; have HB := Aside0.mk hb; clear hb) | (go_at_call 21; refine (New_err k A c l r1 r2 _ (by repeat (first | exact Kd.C_below HR.out HB.out | exact HR.out | (with_reducible refine Kd.C_alloc ?_ _) | (with_reducible refine Kd.C_drewN ?_ _) | (with_reducible refine Kd.C_drew ?_))) HC.out H.out hz).mono ?_; rintro e w1 ⟨rfl, hb⟩; have m_ := Aside0.mk (below_step HB.out hb); clear HB; have HB := m_; clear hb m_))
    go_ret
    exact ⟨rfl, (by repeat (first | exact HB.out | apply below_alloc | apply pw_below_drewN | apply below_drew1))⟩

theorem LinesFound_row (A : Option Addr) (n c : Nat) (zs : List Int) (p : Int) (W : World) (h : IsRow .u8 W A n c zs) (hb : c ≤ 1048576) (_hp : (Lit.int .i64 p).wf = true) :
    Calls Try.prog 6 #[.slice A n c, .int .i64 p] W fun e w' => e = .returned (.bool true) ∧ Below W.heap.size W w' := by
  obtain ⟨l, rfl, hc, hC, hw⟩ := h.reads
  obtain ⟨k, r1, r2, hk⟩ := chk_total l (fun x hx => byte_wf (hw x hx)) (by omega)
  exact LinesFound_ok k A c l r1 r2 p W hC hc hk (by omega)
end Go.Proofs.Ytogfaahdbecdnaa.B
