/-
  LinesFind, walked.
-/
import Derived.Test.YtogfaahdbecdnaaE5
import Derived.Test.YtogfaahdbecdnaaM7
namespace Go.Proofs.Ytogfaahdbecdnaa.B
open Go.RowKit Go.Proofs.YtogfaahdbecdnaaW.PrintWords Go.Proofs.YtogfaahdbecdnaaW.PrintLast Go.Proofs.YtogfaahdbecdnaaW.PrintMore Go.Proofs.Ytogfaahdbecdnaa.FBase
set_option linter.unusedVariables false

set_option maxRecDepth 100000 in
set_option maxHeartbeats 4000000 in
theorem LinesFind_ok (k k2 : Nat) (A : Option Addr) (c : Nat) (l : List Int) (r1 r2 : Int) (p : Int) (w : World) (hr : Kd.C (Kd.int .u8) w A l.length l) (hc : l.length ≤ c) (h : runes_Check.f k l = some (r1, r2)) (h2 : colophonref01_Check.f k2 l = some (r1, r2)) (hs : l.length ≤ 1048576) :
    Calls Try.prog 4 #[.slice A l.length c, .int .i64 p] w fun e w' => e = .returned (.bool true) ∧ Below w.heap.size w w' := by
  have HR := Aside0.mk hr
  have HC := Aside0.mk hc
  have H := Aside0.mk h
  have H2 := Aside0.mk h2
  have HB := Aside0.mk (Below.refl w.heap.size w)
  clear hr hc h h2
  by_cases hz : r2 = 0
  · subst hz
    have hch := lns_chain0 l
    have hln : (lns l 0 0).length ≤ 2097152 := by have := hch.length_le; omega
    obtain ⟨L, hL⟩ : ∃ L, lns l 0 0 = L := ⟨_, rfl⟩
    have HLE := Aside0.mk hL
    rw [hL] at hch hln
    have HCH := Aside0.mk hch
    clear hL
    by_cases hp : 0 ≤ p ∧ p ≤ l.length
    · obtain ⟨hp0, hp1⟩ := hp
      obtain ⟨r, hf⟩ := hch.find p
      have HF := Aside0.mk hf
      clear hf hch
      go_enter Try.func4, Try.ntmps4
      go_wp2_with (first | (go_at_call 21; refine (New_ok k A c l r1 _ HR.out HC.out H.out hs).mono ?_; rintro e w1 ⟨a, rfl, hle, hI, hb⟩; rw [HLE.out] at hI; have HI := Aside0.mk hI; have HB := Aside0.mk hb; clear hI hb) | (go_at_call 22; refine (RNew_ok k2 A c l r1 _ (by repeat (first | exact Kd.C_below HR.out HB.out | exact HR.out | (with_reducible refine Kd.C_alloc ?_ _) | (with_reducible refine Kd.C_drewN ?_ _) | (with_reducible refine Kd.C_drew ?_))) HC.out H2.out hs).mono ?_; rintro e w1 ⟨a2, rfl, hle2, hI, hb⟩; rw [HLE.out] at hI; have HJ := Aside0.mk hI; have n0_ := Aside0.mk (IsIdx.below (by repeat (first | exact HI.out | apply IsIdx.alloc | apply IsIdx.drewN)) hb); have m_ := Aside0.mk (below_step (by repeat (first | exact HB.out | apply below_alloc | apply pw_below_drewN | apply below_drew1)) hb); clear HI HB ; have HI := n0_; have HB := m_; clear n0_ m_; clear hI hb) | (go_at_call 31; refine (Find_is a _ 0 l.length p r _ (by repeat (first | exact HI.out | apply IsIdx.alloc | apply IsIdx.drewN)) HCH.out hp0 hp1 hln HF.out).mono ?_; rintro e w' ⟨rfl, hb⟩; have n0_ := Aside0.mk (IsIdx.below (by repeat (first | exact HI.out | apply IsIdx.alloc | apply IsIdx.drewN)) hb); have n1_ := Aside0.mk (IsRef.below (by repeat (first | exact HJ.out | apply IsRef.alloc | apply IsRef.drewN)) hb); have m_ := Aside0.mk (below_step (by repeat (first | exact HB.out | apply below_alloc | apply pw_below_drewN | apply below_drew1)) hb); clear HI HJ HB ; have HI := n0_; have HJ := n1_; have HB := m_; clear n0_ n1_ m_) | (go_at_call 32; refine (RFind_is a2 _ 0 l.length p r _ (by repeat (first | exact HJ.out | apply IsRef.alloc | apply IsRef.drewN)) HCH.out hp0 hp1 hln HF.out).mono ?_; rintro e w' ⟨rfl, rfl⟩) | (go_at_call 24; refine (works_ok _).mono ?_; rintro e w' ⟨rfl, hb⟩; have m_ := Aside0.mk (below_step (by repeat (first | exact HB.out | apply below_alloc | apply pw_below_drewN | apply below_drew1)) hb); clear HB; have HB := m_; clear hb m_))
      go_ret
      exact ⟨rfl, (by repeat (first | exact HB.out | apply below_alloc | apply pw_below_drewN | apply below_drew1))⟩
    · have HF := Aside0.mk (show p < 0 ∨ (l.length : Int) < p by omega)
      clear hp hch
      go_enter Try.func4, Try.ntmps4
      go_wp2_with (first | (go_at_call 21; refine (New_ok k A c l r1 _ HR.out HC.out H.out hs).mono ?_; rintro e w1 ⟨a, rfl, hle, hI, hb⟩; rw [HLE.out] at hI; have HI := Aside0.mk hI; have HB := Aside0.mk hb; clear hI hb) | (go_at_call 22; refine (RNew_ok k2 A c l r1 _ (by repeat (first | exact Kd.C_below HR.out HB.out | exact HR.out | (with_reducible refine Kd.C_alloc ?_ _) | (with_reducible refine Kd.C_drewN ?_ _) | (with_reducible refine Kd.C_drew ?_))) HC.out H2.out hs).mono ?_; rintro e w1 ⟨a2, rfl, hle2, hI, hb⟩; rw [HLE.out] at hI; have HJ := Aside0.mk hI; have n0_ := Aside0.mk (IsIdx.below (by repeat (first | exact HI.out | apply IsIdx.alloc | apply IsIdx.drewN)) hb); have m_ := Aside0.mk (below_step (by repeat (first | exact HB.out | apply below_alloc | apply pw_below_drewN | apply below_drew1)) hb); clear HI HB ; have HI := n0_; have HB := m_; clear n0_ m_; clear hI hb) | (go_at_call 31; refine (Find_no a _ 0 l.length p _ (by repeat (first | exact HI.out | apply IsIdx.alloc | apply IsIdx.drewN)) HCH.out HF.out hln).mono ?_; rintro e w' ⟨rfl, hb⟩; have n0_ := Aside0.mk (IsIdx.below (by repeat (first | exact HI.out | apply IsIdx.alloc | apply IsIdx.drewN)) hb); have n1_ := Aside0.mk (IsRef.below (by repeat (first | exact HJ.out | apply IsRef.alloc | apply IsRef.drewN)) hb); have m_ := Aside0.mk (below_step (by repeat (first | exact HB.out | apply below_alloc | apply pw_below_drewN | apply below_drew1)) hb); clear HI HJ HB ; have HI := n0_; have HJ := n1_; have HB := m_; clear n0_ n1_ m_) | (go_at_call 32; refine (RFind_no a2 _ 0 l.length p _ (by repeat (first | exact HJ.out | apply IsRef.alloc | apply IsRef.drewN)) HCH.out HF.out hln).mono ?_; rintro e w' ⟨rfl, rfl⟩) | (go_at_call 24; refine (works_ok _).mono ?_; rintro e w' ⟨rfl, hb⟩; have m_ := Aside0.mk (below_step (by repeat (first | exact HB.out | apply below_alloc | apply pw_below_drewN | apply below_drew1)) hb); clear HB; have HB := m_; clear hb m_))
      go_ret
      exact ⟨rfl, (by repeat (first | exact HB.out | apply below_alloc | apply pw_below_drewN | apply below_drew1))⟩
  · have hz2 : (r2 != 0) = true := bne_iff_ne.mpr hz
    go_enter Try.func4, Try.ntmps4
    go_wp2_with (first | (go_at_call 21; refine (New_err k A c l r1 r2 _ HR.out HC.out H.out hz).mono ?_; rintro e w1 ⟨rfl, hb⟩; have HB := Aside0.mk hb; clear hb) | (go_at_call 22; refine (RNew_err k2 A c l r1 r2 _ (by repeat (first | exact Kd.C_below HR.out HB.out | exact HR.out | (with_reducible refine Kd.C_alloc ?_ _) | (with_reducible refine Kd.C_drewN ?_ _) | (with_reducible refine Kd.C_drew ?_))) HC.out H2.out hz).mono ?_; rintro e w1 ⟨rfl, hb⟩; have m_ := Aside0.mk (below_step (by repeat (first | exact HB.out | apply below_alloc | apply pw_below_drewN | apply below_drew1)) hb); clear HB; have HB := m_; clear m_; clear hb) | (go_at_call 24; refine (works_ok _).mono ?_; rintro e w' ⟨rfl, hb⟩; have m_ := Aside0.mk (below_step (by repeat (first | exact HB.out | apply below_alloc | apply pw_below_drewN | apply below_drew1)) hb); clear HB; have HB := m_; clear hb m_))
    go_ret
    exact ⟨rfl, (by repeat (first | exact HB.out | apply below_alloc | apply pw_below_drewN | apply below_drew1))⟩

theorem both_checks {A : Option Addr} {n c : Nat} {zs : List Int} {W : World} (h : IsRow .u8 W A n c zs) (hb : c ≤ 1048576) : ∃ (l : List Int) (k k2 : Nat) (r1 r2 : Int), n = l.length ∧ Bytes l ∧ l.length ≤ c ∧ l.length ≤ 1048576 ∧ Kd.C (Kd.int .u8) W A l.length l ∧ runes_Check.f k l = some (r1, r2) ∧ colophonref01_Check.f k2 l = some (r1, r2) ∧ chk l = (r1, r2) := by
  obtain ⟨l, rfl, hc, hC, hw⟩ := h.reads
  have hB : Bytes l := fun x hx => byte_wf (hw x hx)
  exact ⟨l, _, _, _, _, rfl, hB, hc, by omega, hC, Check_f l hB (by omega) (Nat.lt_succ_self _), RCheck_f l hB (by omega) (Nat.lt_succ_self _), rfl⟩
theorem LinesFind_row (A : Option Addr) (n c : Nat) (zs : List Int) (p : Int) (W : World) (h : IsRow .u8 W A n c zs) (hb : c ≤ 1048576) (_hp : (Lit.int .i64 p).wf = true) :
    Calls Try.prog 4 #[.slice A n c, .int .i64 p] W fun e w' => e = .returned (.bool true) ∧ Below W.heap.size W w' := by
  obtain ⟨l, k, k2, r1, r2, rfl, -, hc, hs, hC, h1, h2, -⟩ := both_checks h hb
  exact LinesFind_ok k k2 A c l r1 r2 p W hC hc h1 h2 hs
end Go.Proofs.Ytogfaahdbecdnaa.B
