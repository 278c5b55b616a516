/-
  The row of PlaceOffset, in its second form: for every input of bulk at most 1048576 the call answers true, and the input reads as it did.
-/
import Derived.Lib.SmallJoins
import Derived.WideKeyArgs
import Derived.OpenShut
import Derived.WalkKit
import Derived.ProofKit
import Derived.ShutString
import Derived.ChangeOld
import Derived.Below
import Derived.SizedLaws
import Derived.JoinedCond
import Derived.Test.YtogfaahdbecdnaaZLPlaceOffset0
set_option linter.unusedSimpArgs false
set_option linter.unusedVariables false
/-
  PlaceSpan, walked.
-/
namespace Go.Proofs.Ytogfaahdbecdnaa.B
open Go.RowKit Go.Shelf Go.Proofs Go.Proofs.YtogfaahdbecdnaaW.PrintWords Go.Proofs.YtogfaahdbecdnaaW.PrintLast Go.Proofs.YtogfaahdbecdnaaW.PrintMore Go.Proofs.Ytogfaahdbecdnaa.FBase
set_option linter.unusedVariables false
set_option linter.unusedSimpArgs false

theorem IsRMap.below {W W1 : World} {m : Nat} {l : List Int} (h : IsRMap W m l) (hb : Below W.heap.size W W1) : IsRMap W1 m l := keeps_rmap m l W W1 h hb
theorem off_any (l : List Int) (hs : l.length ≤ 1048576) (hB : Bytes l) (hv : V l) (x y : Int) (hy : y ≤ 9223372036854775807) :
    ∃ v e : Int, (∀ m w, IsMap w m l → Calls Try.prog 37 #[.pointer (some ⟨m, 0, none⟩), .agg #[.int .i64 x, .int .i64 y]] w fun e' w' => e' = .returned (.tuple #[.int .i64 v, .int .i64 e]) ∧ Below w.heap.size w w') ∧ (∀ m w, IsRMap w m l → Calls Try.prog 38 #[.pointer (some ⟨m, 0, none⟩), .agg #[.int .i64 x, .int .i64 y]] w fun e' w' => e' = .returned (.tuple #[.int .i64 v, .int .i64 e]) ∧ Below w.heap.size w w') := by
  by_cases h : x < 0 ∨ y < 0
  · exact ⟨0, 9, fun m w hM => MOffset_neg m l x y w hM h, fun m w _ => ROff_neg _ x y w h⟩
  · exact ⟨poff l x y, 0, fun m w hM => MOffset_is m l x y w hM hs hB hv (by omega) (by omega) hy, fun m w hM => ROff_is m l x y w hM hs hB hv (by omega) (by omega) hy⟩
theorem pos_any (l : List Int) (hs : l.length ≤ 1048576) (hB : Bytes l) (hv : V l) (x : Int) :
    ∃ a b e : Int, (∀ m w, IsMap w m l → Calls Try.prog 39 #[.pointer (some ⟨m, 0, none⟩), .int .i64 x] w fun e' w' => e' = .returned (.tuple #[.agg #[.int .i64 a, .int .i64 b], .int .i64 e]) ∧ Below w.heap.size w w') ∧ (∀ m w, IsRMap w m l → Calls Try.prog 40 #[.pointer (some ⟨m, 0, none⟩), .int .i64 x] w fun e' w' => e' = .returned (.tuple #[.agg #[.int .i64 a, .int .i64 b], .int .i64 e]) ∧ Below w.heap.size w w') := by
  by_cases h : x < 0 ∨ l.length < x
  · exact ⟨0, 0, 9, fun m w hM => MPos_out m l x w hM hs h, fun m w hM => RPos_out m l x w hM hs h⟩
  · exact ⟨fnd l x, pch l x, 0, fun m w hM => MPos_is m l x w hM hs hB hv (by omega) (by omega), fun m w hM => RPos_is m l x w hM hs hB hv (by omega) (by omega)⟩
theorem span_any (l : List Int) (hs : l.length ≤ 1048576) (hB : Bytes l) (hv : V l) (x0 x1 x2 x3 : Int) (h1 : x1 ≤ 9223372036854775807) (h3 : x3 ≤ 9223372036854775807) :
    ∃ s0 s1 e : Int, (∀ m w, IsMap w m l → Calls Try.prog 48 #[.pointer (some ⟨m, 0, none⟩), .agg #[.int .i64 x0, .int .i64 x1, .int .i64 x2, .int .i64 x3]] w fun e' w' => e' = .returned (.tuple #[.agg #[.int .i64 s0, .int .i64 s1], .int .i64 e]) ∧ Below w.heap.size w w') ∧ (∀ m w, IsRMap w m l → Calls Try.prog 49 #[.pointer (some ⟨m, 0, none⟩), .agg #[.int .i64 x0, .int .i64 x1, .int .i64 x2, .int .i64 x3]] w fun e' w' => e' = .returned (.tuple #[.agg #[.int .i64 s0, .int .i64 s1], .int .i64 e]) ∧ Below w.heap.size w w') := by
  obtain ⟨va, ea, ma, ra⟩ := off_any l hs hB hv x0 x1 h1
  obtain ⟨vb, eb, mb, rb⟩ := off_any l hs hB hv x2 x3 h3
  by_cases ha : ea = 0
  · subst ha
    by_cases hb : eb = 0
    · subst hb
      by_cases hlt : vb < va
      · exact ⟨0, 0, 2, fun m w hM => MSpan_rev _ x0 x1 x2 x3 va vb w (fun W hW => ma m W (hM.below hW)) (fun W hW => mb m W (hM.below hW)) hlt, fun m w hM => RSpan_rev _ x0 x1 x2 x3 va vb w (fun W hW => ra m W (hM.below hW)) (fun W hW => rb m W (hM.below hW)) hlt⟩
      · exact ⟨va, vb, 0, fun m w hM => MSpan_ok _ x0 x1 x2 x3 va vb w (fun W hW => ma m W (hM.below hW)) (fun W hW => mb m W (hM.below hW)) (by omega), fun m w hM => RSpan_ok _ x0 x1 x2 x3 va vb w (fun W hW => ra m W (hM.below hW)) (fun W hW => rb m W (hM.below hW)) (by omega)⟩
    · exact ⟨0, 0, eb, fun m w hM => MSpan_e2 _ x0 x1 x2 x3 va vb eb w (fun W hW => ma m W (hM.below hW)) (fun W hW => mb m W (hM.below hW)) hb, fun m w hM => RSpan_e2 _ x0 x1 x2 x3 va vb eb w (fun W hW => ra m W (hM.below hW)) (fun W hW => rb m W (hM.below hW)) hb⟩
  · exact ⟨0, 0, ea, fun m w hM => MSpan_e1 _ x0 x1 x2 x3 va ea w (fun W hW => ma m W (hM.below hW)) ha, fun m w hM => RSpan_e1 _ x0 x1 x2 x3 va ea w (fun W hW => ra m W (hM.below hW)) ha⟩
theorem range_any (l : List Int) (hs : l.length ≤ 1048576) (hB : Bytes l) (hv : V l) (x0 x1 : Int) :
    ∃ q0 q1 q2 q3 e : Int, (∀ m w, IsMap w m l → Calls Try.prog 50 #[.pointer (some ⟨m, 0, none⟩), .agg #[.int .i64 x0, .int .i64 x1]] w fun e' w' => e' = .returned (.tuple #[.agg #[.int .i64 q0, .int .i64 q1, .int .i64 q2, .int .i64 q3], .int .i64 e]) ∧ Below w.heap.size w w') ∧ (∀ m w, IsRMap w m l → Calls Try.prog 51 #[.pointer (some ⟨m, 0, none⟩), .agg #[.int .i64 x0, .int .i64 x1]] w fun e' w' => e' = .returned (.tuple #[.agg #[.int .i64 q0, .int .i64 q1, .int .i64 q2, .int .i64 q3], .int .i64 e]) ∧ Below w.heap.size w w') := by
  obtain ⟨a, ca, ea, ma, ra⟩ := pos_any l hs hB hv x0
  obtain ⟨b, cb, eb, mb, rb⟩ := pos_any l hs hB hv x1
  by_cases ha : ea = 0
  · subst ha
    by_cases hb : eb = 0
    · subst hb
      by_cases hlt : x1 < x0
      · exact ⟨0, 0, 0, 0, 2, fun m w hM => MRange_rev _ x0 x1 a ca b cb w (fun W hW => ma m W (hM.below hW)) (fun W hW => mb m W (hM.below hW)) hlt, fun m w hM => RRange_rev _ x0 x1 a ca b cb w (fun W hW => ra m W (hM.below hW)) (fun W hW => rb m W (hM.below hW)) hlt⟩
      · exact ⟨a, ca, b, cb, 0, fun m w hM => MRange_ok _ x0 x1 a ca b cb w (fun W hW => ma m W (hM.below hW)) (fun W hW => mb m W (hM.below hW)) (by omega), fun m w hM => RRange_ok _ x0 x1 a ca b cb w (fun W hW => ra m W (hM.below hW)) (fun W hW => rb m W (hM.below hW)) (by omega)⟩
    · exact ⟨0, 0, 0, 0, eb, fun m w hM => MRange_e2 _ x0 x1 a ca b cb eb w (fun W hW => ma m W (hM.below hW)) (fun W hW => mb m W (hM.below hW)) hb, fun m w hM => RRange_e2 _ x0 x1 a ca b cb eb w (fun W hW => ra m W (hM.below hW)) (fun W hW => rb m W (hM.below hW)) hb⟩
  · exact ⟨0, 0, 0, 0, ea, fun m w hM => MRange_e1 _ x0 x1 a ca ea w (fun W hW => ma m W (hM.below hW)) ha, fun m w hM => RRange_e1 _ x0 x1 a ca ea w (fun W hW => ra m W (hM.below hW)) ha⟩

set_option maxRecDepth 100000 in
set_option maxHeartbeats 4000000 in
theorem PlaceSpan_ok (k k2 : Nat) (A : Option Addr) (c : Nat) (l : List Int) (r1 r2 x0 x1 x2 x3 y0 y1 : Int) (w : World) (hr : Kd.C (Kd.int .u8) w A l.length l) (hc : l.length ≤ c) (hn : A = none → c = 0) (hB : Bytes l) (h : runes_Check.f k l = some (r1, r2)) (h2 : colophonref01_Check.f k2 l = some (r1, r2)) (hk : chk l = (r1, r2)) (hs : l.length ≤ 1048576) (hx1 : x1 ≤ 9223372036854775807) (hx3 : x3 ≤ 9223372036854775807) :
    Calls Try.prog 17 #[.slice A l.length c, .agg #[.int .i64 x0, .int .i64 x1, .int .i64 x2, .int .i64 x3], .agg #[.int .i64 y0, .int .i64 y1]] w fun e w' => e = .returned (.bool true) ∧ Below w.heap.size w w' := by
  have HC := Aside0.mk hc
  have H := Aside0.mk h
  have H2 := Aside0.mk h2
  have hb1 : Below w.heap.size w (w.alloc (.cells #[.int .i64 x0, .int .i64 x1, .int .i64 x2, .int .i64 x3] 79)) := below_alloc (Below.refl _ _) _
  have hb2 : Below (w.alloc (.cells #[.int .i64 x0, .int .i64 x1, .int .i64 x2, .int .i64 x3] 79)).heap.size (w.alloc (.cells #[.int .i64 x0, .int .i64 x1, .int .i64 x2, .int .i64 x3] 79)) ((w.alloc (.cells #[.int .i64 x0, .int .i64 x1, .int .i64 x2, .int .i64 x3] 79)).alloc (.cells #[.int .i64 y0, .int .i64 y1] 35)) := below_alloc (Below.refl _ _) _
  have hg1 : IsBlk ((w.alloc (.cells #[.int .i64 x0, .int .i64 x1, .int .i64 x2, .int .i64 x3] 79)).alloc (.cells #[.int .i64 y0, .int .i64 y1] 35)) (w.alloc (.cells #[.int .i64 x0, .int .i64 x1, .int .i64 x2, .int .i64 x3] 79)).heap.size (.cells #[.int .i64 y0, .int .i64 y1] 35) := blk_new _ _
  rw [World.size_alloc] at hg1
  have HS : Aside0 (Sta w ((w.alloc (.cells #[.int .i64 x0, .int .i64 x1, .int .i64 x2, .int .i64 x3] 79)).alloc (.cells #[.int .i64 y0, .int .i64 y1] 35)) (fun W => IsBlk W w.heap.size (.cells #[.int .i64 x0, .int .i64 x1, .int .i64 x2, .int .i64 x3] 79) ∧ IsBlk W (w.heap.size + 1) (.cells #[.int .i64 y0, .int .i64 y1] 35) ∧ Kd.C (Kd.int .u8) W A l.length l)) := ⟨⟨below_step hb1 hb2, ⟨IsBlk.below (blk_new w _) hb2, hg1, Kd.C_below (Kd.C_below hr hb1) hb2⟩, keeps_and (keeps_blk _ _) (keeps_and (keeps_blk _ _) (keeps_C _ _ _ _))⟩⟩
  clear hb1 hb2 hg1 hr hc h h2
  by_cases hz : r2 = 0
  · subst hz
    have hv : V l := (chk_V hB).1 (by rw [hk])
    obtain ⟨s0, s1, se, hsp⟩ := span_any l hs hB hv x0 x1 x2 x3 hx1 hx3
    obtain ⟨q0, q1, q2, q3, qe, hrg⟩ := range_any l hs hB hv y0 y1
    have HSP := Aside0.mk hsp
    have HRG := Aside0.mk hrg
    clear hsp hrg hv hk hB
    go_enter Try.func17, Try.ntmps17
    go_wp2_with (first | (go_at_call 34; refine (MNew_ok k A c l r1 _ (HS.out.step (by repeat (first | exact Below.refl _ _ | apply below_alloc | apply pw_below_drewN | apply below_drew1))).now.2.2 HC.out hn H.out hs).mono ?_; rintro e w1 ⟨m, rfl, hM, hb⟩; have m_ := Aside0.mk ((HS.out.call (by repeat (first | exact Below.refl _ _ | apply below_alloc | apply pw_below_drewN | apply below_drew1)) hb).add hM (keeps_map _ _)); clear HS hb hM; have HS := m_; clear m_; have c0 : w1.cell? ⟨w.heap.size, 0, none⟩ = some (.int .i64 x0) := HS.out.now.2.1.cell 0; have c1 : w1.cell? ⟨w.heap.size, 1, none⟩ = some (.int .i64 x1) := HS.out.now.2.1.cell 1; have c2 : w1.cell? ⟨w.heap.size, 2, none⟩ = some (.int .i64 x2) := HS.out.now.2.1.cell 2; have c3 : w1.cell? ⟨w.heap.size, 3, none⟩ = some (.int .i64 x3) := HS.out.now.2.1.cell 3; have d0 : w1.cell? ⟨w.heap.size + 1, 0, none⟩ = some (.int .i64 y0) := HS.out.now.2.2.1.cell 0; have d1 : w1.cell? ⟨w.heap.size + 1, 1, none⟩ = some (.int .i64 y1) := HS.out.now.2.2.1.cell 1) | (go_at_call 35; refine (RMNew_ok k2 A c l r1 _ (HS.out.step (by repeat (first | exact Below.refl _ _ | apply below_alloc | apply pw_below_drewN | apply below_drew1))).now.2.2.2 HC.out H2.out hs).mono ?_; rintro e w2 ⟨m2, rfl, hM, hb⟩; have m_ := Aside0.mk ((HS.out.call (by repeat (first | exact Below.refl _ _ | apply below_alloc | apply pw_below_drewN | apply below_drew1)) hb).add hM (keeps_rmap _ _)); clear HS hb hM; have HS := m_; clear m_; have c0 : w2.cell? ⟨w.heap.size, 0, none⟩ = some (.int .i64 x0) := HS.out.now.2.2.1.cell 0; have c1 : w2.cell? ⟨w.heap.size, 1, none⟩ = some (.int .i64 x1) := HS.out.now.2.2.1.cell 1; have c2 : w2.cell? ⟨w.heap.size, 2, none⟩ = some (.int .i64 x2) := HS.out.now.2.2.1.cell 2; have c3 : w2.cell? ⟨w.heap.size, 3, none⟩ = some (.int .i64 x3) := HS.out.now.2.2.1.cell 3; have d0 : w2.cell? ⟨w.heap.size + 1, 0, none⟩ = some (.int .i64 y0) := HS.out.now.2.2.2.1.cell 0; have d1 : w2.cell? ⟨w.heap.size + 1, 1, none⟩ = some (.int .i64 y1) := HS.out.now.2.2.2.1.cell 1) | (go_at_call 48; refine (HSP.out.1 m _ (HS.out.step (by repeat (first | exact Below.refl _ _ | apply below_alloc | apply pw_below_drewN | apply below_drew1))).now.2.1).mono ?_; rintro e w3 ⟨rfl, hb⟩; have m_ := Aside0.mk (HS.out.call (by repeat (first | exact Below.refl _ _ | apply below_alloc | apply pw_below_drewN | apply below_drew1)) hb); clear HS hb ; have HS := m_; clear m_; have c0 : w3.cell? ⟨w.heap.size, 0, none⟩ = some (.int .i64 x0) := HS.out.now.2.2.1.cell 0; have c0a := cell_alloc1 c0; have c1 : w3.cell? ⟨w.heap.size, 1, none⟩ = some (.int .i64 x1) := HS.out.now.2.2.1.cell 1; have c1a := cell_alloc1 c1; have c2 : w3.cell? ⟨w.heap.size, 2, none⟩ = some (.int .i64 x2) := HS.out.now.2.2.1.cell 2; have c2a := cell_alloc1 c2; have c3 : w3.cell? ⟨w.heap.size, 3, none⟩ = some (.int .i64 x3) := HS.out.now.2.2.1.cell 3; have c3a := cell_alloc1 c3; have d0 : w3.cell? ⟨w.heap.size + 1, 0, none⟩ = some (.int .i64 y0) := HS.out.now.2.2.2.1.cell 0; have d0a := cell_alloc1 d0; have d1 : w3.cell? ⟨w.heap.size + 1, 1, none⟩ = some (.int .i64 y1) := HS.out.now.2.2.2.1.cell 1; have d1a := cell_alloc1 d1) | (go_at_call 49; refine (HSP.out.2 m2 _ (HS.out.step (by repeat (first | exact Below.refl _ _ | apply below_alloc | apply pw_below_drewN | apply below_drew1))).now.1).mono ?_; rintro e w4 ⟨rfl, hb⟩; have hbx := IsBlk.below (blk_new w3 (.cells #[.int .i64 s0, .int .i64 s1] 35)) hb; have m_ := Aside0.mk ((HS.out.call (by repeat (first | exact Below.refl _ _ | apply below_alloc | apply pw_below_drewN | apply below_drew1)) hb).add hbx (keeps_blk _ _)); clear HS hb hbx; have HS := m_; clear m_; have c0 : w4.cell? ⟨w.heap.size, 0, none⟩ = some (.int .i64 x0) := HS.out.now.2.2.2.1.cell 0; have c0a := cell_alloc1 c0; have c1 : w4.cell? ⟨w.heap.size, 1, none⟩ = some (.int .i64 x1) := HS.out.now.2.2.2.1.cell 1; have c1a := cell_alloc1 c1; have c2 : w4.cell? ⟨w.heap.size, 2, none⟩ = some (.int .i64 x2) := HS.out.now.2.2.2.1.cell 2; have c2a := cell_alloc1 c2; have c3 : w4.cell? ⟨w.heap.size, 3, none⟩ = some (.int .i64 x3) := HS.out.now.2.2.2.1.cell 3; have c3a := cell_alloc1 c3; have d0 : w4.cell? ⟨w.heap.size + 1, 0, none⟩ = some (.int .i64 y0) := HS.out.now.2.2.2.2.1.cell 0; have d0a := cell_alloc1 d0; have d1 : w4.cell? ⟨w.heap.size + 1, 1, none⟩ = some (.int .i64 y1) := HS.out.now.2.2.2.2.1.cell 1; have d1a := cell_alloc1 d1) | (go_at_call 50; refine (HRG.out.1 m _ (HS.out.step (by repeat (first | exact Below.refl _ _ | apply below_alloc | apply pw_below_drewN | apply below_drew1))).now.2.2.1).mono ?_; rintro e w5 ⟨rfl, hb⟩; have hbx := IsBlk.below (blk_new w4 (.cells #[.int .i64 s0, .int .i64 s1] 35)) hb; have m_ := Aside0.mk ((HS.out.call (by repeat (first | exact Below.refl _ _ | apply below_alloc | apply pw_below_drewN | apply below_drew1)) hb).add hbx (keeps_blk _ _)); clear HS hb hbx; have HS := m_; clear m_; have c0 : w5.cell? ⟨w.heap.size, 0, none⟩ = some (.int .i64 x0) := HS.out.now.2.2.2.2.1.cell 0; have c0a := cell_alloc1 c0; have c1 : w5.cell? ⟨w.heap.size, 1, none⟩ = some (.int .i64 x1) := HS.out.now.2.2.2.2.1.cell 1; have c1a := cell_alloc1 c1; have c2 : w5.cell? ⟨w.heap.size, 2, none⟩ = some (.int .i64 x2) := HS.out.now.2.2.2.2.1.cell 2; have c2a := cell_alloc1 c2; have c3 : w5.cell? ⟨w.heap.size, 3, none⟩ = some (.int .i64 x3) := HS.out.now.2.2.2.2.1.cell 3; have c3a := cell_alloc1 c3; have d0 : w5.cell? ⟨w.heap.size + 1, 0, none⟩ = some (.int .i64 y0) := HS.out.now.2.2.2.2.2.1.cell 0; have d0a := cell_alloc1 d0; have d1 : w5.cell? ⟨w.heap.size + 1, 1, none⟩ = some (.int .i64 y1) := HS.out.now.2.2.2.2.2.1.cell 1; have d1a := cell_alloc1 d1) | (go_at_call 51; refine (HRG.out.2 m2 _ (HS.out.step (by repeat (first | exact Below.refl _ _ | apply below_alloc | apply pw_below_drewN | apply below_drew1))).now.2.2.1).mono ?_; rintro e w6 ⟨rfl, hb⟩; have hbx := IsBlk.below (blk_new w5 (.cells #[.int .i64 q0, .int .i64 q1, .int .i64 q2, .int .i64 q3] 79)) hb; have m_ := Aside0.mk ((HS.out.call (by repeat (first | exact Below.refl _ _ | apply below_alloc | apply pw_below_drewN | apply below_drew1)) hb).add hbx (keeps_blk _ _)); clear HS hb hbx; have HS := m_; clear m_; have e0 : w6.cell? ⟨w5.heap.size, 0, none⟩ = some (.int .i64 q0) := HS.out.now.1.cell 0; have e0a := cell_alloc1 e0; have e1 : w6.cell? ⟨w5.heap.size, 1, none⟩ = some (.int .i64 q1) := HS.out.now.1.cell 1; have e1a := cell_alloc1 e1; have e2 : w6.cell? ⟨w5.heap.size, 2, none⟩ = some (.int .i64 q2) := HS.out.now.1.cell 2; have e2a := cell_alloc1 e2; have e3 : w6.cell? ⟨w5.heap.size, 3, none⟩ = some (.int .i64 q3) := HS.out.now.1.cell 3; have e3a := cell_alloc1 e3; have g0 : w6.cell? ⟨w4.heap.size, 0, none⟩ = some (.int .i64 s0) := HS.out.now.2.1.cell 0; have g0a := cell_alloc1 g0; have g1 : w6.cell? ⟨w4.heap.size, 1, none⟩ = some (.int .i64 s1) := HS.out.now.2.1.cell 1; have g1a := cell_alloc1 g1; have h0 : w6.cell? ⟨w3.heap.size, 0, none⟩ = some (.int .i64 s0) := HS.out.now.2.2.1.cell 0; have h0a := cell_alloc1 h0; have h1 : w6.cell? ⟨w3.heap.size, 1, none⟩ = some (.int .i64 s1) := HS.out.now.2.2.1.cell 1; have h1a := cell_alloc1 h1) | (go_at_call 36; refine (pworks_ok _).mono ?_; rintro e w7 ⟨rfl, hb⟩; have m_ := Aside0.mk (HS.out.call (by repeat (first | exact Below.refl _ _ | apply below_alloc | apply pw_below_drewN | apply below_drew1)) hb); clear HS hb ; have HS := m_; clear m_))
    go_ret
    exact ⟨rfl, HS.out.bel⟩
  · have hz2 : (r2 != 0) = true := bne_iff_ne.mpr hz
    clear hn hk hB
    go_enter Try.func17, Try.ntmps17
    go_wp2_with (first | (go_at_call 34; refine (MNew_err k A c l r1 r2 _ (HS.out.step (by repeat (first | exact Below.refl _ _ | apply below_alloc | apply pw_below_drewN | apply below_drew1))).now.2.2 HC.out H.out hz).mono ?_; rintro e w1 ⟨rfl, hb⟩; have m_ := Aside0.mk (HS.out.call (by repeat (first | exact Below.refl _ _ | apply below_alloc | apply pw_below_drewN | apply below_drew1)) hb); clear HS hb ; have HS := m_; clear m_) | (go_at_call 35; refine (RMNew_err k2 A c l r1 r2 _ (HS.out.step (by repeat (first | exact Below.refl _ _ | apply below_alloc | apply pw_below_drewN | apply below_drew1))).now.2.2 HC.out H2.out hz).mono ?_; rintro e w2 ⟨rfl, hb⟩; have m_ := Aside0.mk (HS.out.call (by repeat (first | exact Below.refl _ _ | apply below_alloc | apply pw_below_drewN | apply below_drew1)) hb); clear HS hb ; have HS := m_; clear m_) | (go_at_call 36; refine (pworks_ok _).mono ?_; rintro e w7 ⟨rfl, hb⟩; have m_ := Aside0.mk (HS.out.call (by repeat (first | exact Below.refl _ _ | apply below_alloc | apply pw_below_drewN | apply below_drew1)) hb); clear HS hb ; have HS := m_; clear m_))
    go_ret
    exact ⟨rfl, HS.out.bel⟩
theorem PlaceSpan_row (A : Option Addr) (n c : Nat) (zs : List Int) (x0 x1 x2 x3 y0 y1 : Int) (W : World) (h : IsRow .u8 W A n c zs) (hb : c ≤ 1048576) (_h0 : (Lit.int .i64 x0).wf = true) (h1 : (Lit.int .i64 x1).wf = true) (_h2 : (Lit.int .i64 x2).wf = true) (h3 : (Lit.int .i64 x3).wf = true) (_k0 : (Lit.int .i64 y0).wf = true) (_k1 : (Lit.int .i64 y1).wf = true) :
    Calls Try.prog 17 #[.slice A n c, .agg #[.int .i64 x0, .int .i64 x1, .int .i64 x2, .int .i64 x3], .agg #[.int .i64 y0, .int .i64 y1]] W fun e w' => e = .returned (.bool true) ∧ Below W.heap.size W w' := by
  have hn : A = none → c = 0 := fun e => by
    subst e
    rcases h with ⟨_, _, h, _⟩ | ⟨x, h, _⟩
    · exact h
    · cases h
  obtain ⟨l, rfl, hc, hC, hw⟩ := h.reads
  have hB : Bytes l := fun x hx => byte_wf (hw x hx)
  exact PlaceSpan_ok _ _ A c l _ _ x0 x1 x2 x3 y0 y1 W hC hc hn hB (Check_f l hB (by omega) (Nat.lt_succ_self _)) (RCheck_f l hB (by omega) (Nat.lt_succ_self _)) rfl (by omega) (int_wf h1).2 (int_wf h3).2
end Go.Proofs.Ytogfaahdbecdnaa.B

/-
  Maps of places whose memory is all new; the document's End.
-/
namespace Go.Proofs.Ytogfaahdbecdnaa.B
open Go.RowKit Go.Shelf Go.Proofs Go.Proofs.YtogfaahdbecdnaaW.PrintWords Go.Proofs.YtogfaahdbecdnaaW.PrintLast Go.Proofs.YtogfaahdbecdnaaW.PrintMore Go.Proofs.Ytogfaahdbecdnaa.FBase
set_option linter.unusedVariables false
set_option linter.unusedSimpArgs false

theorem c_from {base e c : Nat} {W : World} {A : Option Addr} {l : List Int} {ok : Nat → Prop} (hR : Kd.R (Kd.int .u8) e W base ok (.slice A l.length c) l) : FromBase base W (fun W => Kd.C (Kd.int .u8) W A l.length l) := fun W1 hW1 =>
  (Kd.R_reads' (Kd.R_move (Kd.R_bound hR) (fun k hk => hW1 k hk.2.1 hk.2.2.1))).2.2
theorem own_nil {k : IntKind} {e base n cap : Nat} {ok : Nat → Prop} {W : World} {A : Option Addr} {xs : List Int} (h : Kd.R (Kd.int k) e W base ok (.slice A n cap) xs) : A = none → cap = 0 := by
  intro hA
  subst hA
  obtain ⟨inner, ho⟩ := Kd.R_own h
  rcases ho.2 with ⟨hv, _⟩ | ⟨g, cap', cur, hv, hg, hh, _⟩
  · injection hv with _ _ h3
  · injection hv with h1 _ _
    cases h1

set_option maxHeartbeats 1000000 in
theorem MNew_all (k : Nat) (A : Option Addr) (c : Nat) (l : List Int) (r1 : Int) (w : World) (hr : Kd.C (Kd.int .u8) w A l.length l) (hc : l.length ≤ c) (hn : A = none → c = 0) (h : runes_Check.f k l = some (r1, 0)) (hs : l.length ≤ 1048576) :
    Calls Try.prog 34 #[.slice A l.length c] w fun e w' => ∃ m, e = .returned (.tuple #[.pointer (some ⟨m, 0, none⟩), .int .i64 0]) ∧ FromBase w.heap.size w' (fun W => IsMap W m l) ∧ Below w.heap.size w w' := by
  have HS := Aside0.mk ((Sta.start w).only hr (keeps_C _ _ _ _))
  have HC := Aside0.mk hc
  have H := Aside0.mk h
  clear hr hc h
  go_enter Try.func34, Try.ntmps34
  go_wp2_with (first | (go_at_call 21; refine (New_all k A c l r1 _ (HS.out.step (by repeat (first | exact Below.refl _ _ | apply below_alloc | apply pw_below_drewN | apply below_drew1))).now HC.out H.out hs).mono ?_; rintro e w1 ⟨a, rfl, hle, hI, hb⟩; have HLA := Aside0.mk hle; have HZ := Aside0.mk hb.size; clear hle; have m_ := Aside0.mk ((HS.out.call (by repeat (first | exact Below.refl _ _ | apply below_alloc | apply pw_below_drewN | apply below_drew1)) hb).add hI (keeps_from _ _)); clear HS hb hI; have HS := m_; clear m_) | (go_at_call 62; refine (Clone_ok A c l _ (HS.out.step (by repeat (first | exact Below.refl _ _ | apply below_alloc | apply pw_below_drewN | apply below_drew1))).now.2 HC.out hn hs).mono ?_; rintro e w2 ⟨v, rfl, hR, hb⟩; obtain ⟨A2, c2, rfl⟩ := Kd.R_slice hR; obtain ⟨-, hcap, -⟩ := Kd.R_reads' hR; have HCP := Aside0.mk hcap; have hF := c_from (Kd.R_lower hR HZ.out); clear hcap hR; have m_ := Aside0.mk ((HS.out.call (by repeat (first | exact Below.refl _ _ | apply below_alloc | apply pw_below_drewN | apply below_drew1)) hb).add hF (keeps_from _ _)); clear HS hb hF; have HS := m_; clear m_))
  go_ret2
  have hS := HS.out.step (below_alloc (Below.refl _ w2) (.cells #[.pointer (some ⟨a, 0, none⟩), .slice A2 l.length c2] 88))
  have hblk : IsBlk (w2.alloc (.cells #[.pointer (some ⟨a, 0, none⟩), .slice A2 l.length c2] 88)) w2.heap.size (.cells #[.pointer (some ⟨a, 0, none⟩), .slice A2 l.length c2] 88) := blk_new w2 _
  refine ⟨_, rfl, (hS.now.2.1.and (hS.now.1.and (FromBase.blk HS.out.bel.size hblk))).mono ?_, hS.bel⟩
  rintro W ⟨h1, h2, h3⟩
  exact ⟨a, A2, c2, h3, h1, HCP.out, h2⟩
set_option maxHeartbeats 1000000 in
theorem RMNew_all (k : Nat) (A : Option Addr) (c : Nat) (l : List Int) (r1 : Int) (w : World) (hr : Kd.C (Kd.int .u8) w A l.length l) (hc : l.length ≤ c) (h : colophonref01_Check.f k l = some (r1, 0)) (hs : l.length ≤ 1048576) :
    Calls Try.prog 35 #[.slice A l.length c] w fun e w' => ∃ m, e = .returned (.tuple #[.pointer (some ⟨m, 0, none⟩), .int .i64 0]) ∧ FromBase w.heap.size w' (fun W => IsRMap W m l) ∧ Below w.heap.size w w' := by
  have HS := Aside0.mk ((Sta.start w).only hr (keeps_C _ _ _ _))
  have HC := Aside0.mk hc
  have H := Aside0.mk h
  clear hr hc h
  go_enter Try.func35, Try.ntmps35
  go_wp2_with (first | (go_at_call 22; refine (RNew_all k A c l r1 _ (HS.out.step (by repeat (first | exact Below.refl _ _ | apply below_alloc | apply pw_below_drewN | apply below_drew1))).now HC.out H.out hs).mono ?_; rintro e w1 ⟨a, rfl, hle, hI, hb⟩; have HLA := Aside0.mk hle; have HZ := Aside0.mk hb.size; clear hle; have m_ := Aside0.mk ((HS.out.call (by repeat (first | exact Below.refl _ _ | apply below_alloc | apply pw_below_drewN | apply below_drew1)) hb).add hI (keeps_from _ _)); clear HS hb hI; have HS := m_; clear m_) | (go_at_call 20; refine (Copy_ok A c l _ (HS.out.step (by repeat (first | exact Below.refl _ _ | apply below_alloc | apply pw_below_drewN | apply below_drew1))).now.2 HC.out hs).mono ?_; rintro e w2 ⟨v, rfl, hR, hb⟩; obtain ⟨A2, c2, rfl⟩ := Kd.R_slice hR; obtain ⟨-, hcap, -⟩ := Kd.R_reads' hR; have HCP := Aside0.mk hcap; have hF := c_from (Kd.R_lower hR HZ.out); clear hcap hR; have m_ := Aside0.mk ((HS.out.call (by repeat (first | exact Below.refl _ _ | apply below_alloc | apply pw_below_drewN | apply below_drew1)) hb).add hF (keeps_from _ _)); clear HS hb hF; have HS := m_; clear m_))
  go_ret2
  have hS := HS.out.step (below_alloc (Below.refl _ w2) (.cells #[.slice A2 l.length c2, .pointer (some ⟨a, 0, none⟩)] 96))
  have hblk : IsBlk (w2.alloc (.cells #[.slice A2 l.length c2, .pointer (some ⟨a, 0, none⟩)] 96)) w2.heap.size (.cells #[.slice A2 l.length c2, .pointer (some ⟨a, 0, none⟩)] 96) := blk_new w2 _
  refine ⟨_, rfl, (hS.now.2.1.and (hS.now.1.and (FromBase.blk HS.out.bel.size hblk))).mono ?_, hS.bel⟩
  rintro W ⟨h1, h2, h3⟩
  exact ⟨a, A2, c2, HCP.out, h1, h2, h3⟩

set_option maxRecDepth 100000 in
set_option maxHeartbeats 1000000 in
theorem REnd_is (m : Nat) (l : List Int) (w : World) (hM : IsRMap w m l) (hs : l.length ≤ 1048576) (hB : Bytes l) (hv : V l) :
    Calls Try.prog 42 #[.pointer (some ⟨m, 0, none⟩)] w fun e w' => e = .returned (.agg #[.int .i64 (fnd l l.length), .int .i64 (pch l l.length)]) ∧ Below w.heap.size w w' := by
  obtain ⟨a, A, c, hc, hA⟩ := hM
  have HC := Aside0.mk hc
  have hb1 := below_alloc (Below.refl _ w) (.cells #[.int .i64 0, .int .i64 0] 58)
  have HS : Aside0 (Sta w (w.alloc (.cells #[.int .i64 0, .int .i64 0] 58)) (fun W => IsBlk W w.heap.size (.cells #[.int .i64 0, .int .i64 0] 58) ∧ RMapAt W m a A c l)) := ⟨⟨hb1, ⟨blk_new w _, keeps_rmapAt m a A c l _ _ hA hb1⟩, keeps_and (keeps_blk _ _) (keeps_rmapAt _ _ _ _ _)⟩⟩
  have cm : (w.alloc (.cells #[.int .i64 0, .int .i64 0] 58)).cell? ⟨m, 0, none⟩ = some (.slice A l.length c) := HS.out.now.2.2.2.cell 0
  have HBY := Aside0.mk hB
  have HV := Aside0.mk hv
  clear hA hb1 hc hB hv
  go_enter Try.func42, Try.ntmps42
  go_wp2_with (go_at_call 40; refine (RPos_is m l (l.length : Int) _ ⟨a, A, c, HC.out, (HS.out.step (by repeat (first | exact Below.refl _ _ | apply below_alloc | apply pw_below_drewN | apply below_drew1))).now.2⟩ hs HBY.out HV.out (by omega) (Int.le_refl _)).mono ?_; rintro e w1 ⟨rfl, hb⟩; have m_ := Aside0.mk (HS.out.call (by repeat (first | exact Below.refl _ _ | apply below_alloc | apply pw_below_drewN | apply below_drew1)) hb); clear HS hb ; have HS := m_; clear m_; have k0 : w1.cell? ⟨w.heap.size, 0, none⟩ = some (.int .i64 0) := HS.out.now.1.cell 0; have k1 : w1.cell? ⟨w.heap.size, 1, none⟩ = some (.int .i64 0) := HS.out.now.1.cell 1; have k2 := HS.out.now.1.frozen 0; have k3 := HS.out.now.1.frozen 1; have k0' := cell_alloc1 k0; have k1' := cell_alloc1 k1; have k2' := froz_alloc1 k0 k2; have k3' := froz_alloc1 k1 k3)
  refine bodyPost_ret (v := .agg #[.int .i64 (fnd l l.length), .int .i64 (pch l l.length)]) (by simp [results, Try.results42, go_sem, *]) rfl ⟨rfl, ?_⟩
  have hS := HS.out.bel
  repeat (first | exact hS | apply below_alloc | apply pw_below_drewN | apply below_drew1 | refine Below.setCell ?_ (by simp) _)
end Go.Proofs.Ytogfaahdbecdnaa.B

/-
  PlaceOffset, walked.
-/
namespace Go.Proofs.Ytogfaahdbecdnaa.B
open Go.RowKit Go.Shelf Go.Proofs Go.Proofs.YtogfaahdbecdnaaW.PrintWords Go.Proofs.YtogfaahdbecdnaaW.PrintLast Go.Proofs.YtogfaahdbecdnaaW.PrintMore Go.Proofs.Ytogfaahdbecdnaa.FBase
set_option linter.unusedVariables false
set_option linter.unusedSimpArgs false

set_option maxRecDepth 100000 in
set_option maxHeartbeats 4000000 in
theorem PlaceOffset_ok (k k2 : Nat) (A : Option Addr) (c : Nat) (l : List Int) (r1 r2 p0 p1 at_ : Int) (w : World) (hr : Kd.C (Kd.int .u8) w A l.length l) (hc : l.length ≤ c) (hB : Bytes l) (h : runes_Check.f k l = some (r1, r2)) (h2 : colophonref01_Check.f k2 l = some (r1, r2)) (hk : chk l = (r1, r2)) (hs : l.length ≤ 1048576) (hp1 : p1 ≤ 9223372036854775807) :
    Calls Try.prog 11 #[.slice A l.length c, .agg #[.int .i64 p0, .int .i64 p1], .int .i64 at_] w fun e w' => e = .returned (.bool true) ∧ Below w.heap.size w w' := by
  have HC := Aside0.mk hc
  have H := Aside0.mk h
  have H2 := Aside0.mk h2
  have HBY := Aside0.mk hB
  have HE := Aside0.mk (show colophonref00_EqBytes.f (l.length + 1) l l = some true by rw [EqBytes_f l l hs (Nat.lt_succ_self _)]; simp)
  have hb1 : Below w.heap.size w (w.alloc (.cells #[.int .i64 p0, .int .i64 p1] 58)) := below_alloc (Below.refl _ _) _
  have HS : Aside0 (Sta w (w.alloc (.cells #[.int .i64 p0, .int .i64 p1] 58)) (fun W => IsBlk W w.heap.size (.cells #[.int .i64 p0, .int .i64 p1] 58) ∧ Kd.C (Kd.int .u8) W A l.length l)) := ⟨⟨hb1, ⟨blk_new w _, Kd.C_below hr hb1⟩, keeps_and (keeps_blk _ _) (keeps_C _ _ _ _)⟩⟩
  clear hb1 hr hc h h2
  by_cases hz : r2 = 0
  · subst hz
    have hv : V l := (chk_V hB).1 (by rw [hk])
    obtain ⟨qv, qo, hof⟩ := off_any l hs hB hv p0 p1 hp1
    obtain ⟨qa, qb, qe, hps⟩ := pos_any l hs hB hv at_
    have HOF := Aside0.mk hof
    have HPS := Aside0.mk hps
    have HV := Aside0.mk hv
    clear hof hps hv hk hB
    go_enter Try.func11, Try.ntmps11
    go_wp2_with (first | (go_at_call 20; refine (Copy_ok A c l _ (HS.out.step (by repeat (first | exact Below.refl _ _ | apply below_alloc | apply pw_below_drewN | apply below_drew1))).now.2 HC.out hs).mono ?_; rintro e w1 ⟨v, rfl, hR, hb⟩; obtain ⟨Ai, ci, rfl⟩ := Kd.R_slice hR; obtain ⟨-, hci, -⟩ := Kd.R_reads' hR; have hR := Kd.R_lower hR (show w.heap.size + 1 ≤ _ by simp); have HZ0 := Aside0.mk hb.size; have HCI := Aside0.mk hci; have HO := Aside0.mk hR; have HN := Aside0.mk (own_nil hR); clear hci; have m_ := Aside0.mk ((HS.out.call (by repeat (first | exact Below.refl _ _ | apply below_alloc | apply pw_below_drewN | apply below_drew1)) hb).add hR (keeps_R _ _ _ _ _ _)); clear HS hb hR; have HS := m_; clear m_) | (go_at_call 34; refine (MNew_all k Ai ci l r1 _ (Kd.R_reads' (HS.out.step (by repeat (first | exact Below.refl _ _ | apply below_alloc | apply pw_below_drewN | apply below_drew1))).now.1).2.2 HCI.out HN.out H.out hs).mono ?_; rintro e w2 ⟨m, rfl, hM, hb⟩; have HZ := Aside0.mk hb.size; have m_ := Aside0.mk ((HS.out.call (by repeat (first | exact Below.refl _ _ | apply below_alloc | apply pw_below_drewN | apply below_drew1)) hb).add hM (keeps_from _ _)); clear HS hb hM; have HS := m_; clear m_) | (go_at_call 35; refine (RMNew_all k2 A c l r1 _ (HS.out.step (by repeat (first | exact Below.refl _ _ | apply below_alloc | apply pw_below_drewN | apply below_drew1))).now.2.2.2 HC.out H2.out hs).mono ?_; rintro e w3 ⟨m2, rfl, hM, hb⟩; have hM := FromBase.lower hM HZ.out; have m_ := Aside0.mk ((HS.out.call (by repeat (first | exact Below.refl _ _ | apply below_alloc | apply pw_below_drewN | apply below_drew1)) hb).add hM (keeps_from _ _)); clear HS hb hM; have HS := m_; clear m_) | (go_at_call 23; refine (colophonref00_EqBytes.calls _ Ai ci l A c l true _ (Kd.R_reads' (HS.out.step (by repeat (first | exact Below.refl _ _ | apply below_alloc | apply pw_below_drewN | apply below_drew1))).now.2.2.1).2.2 HCI.out (HS.out.step (by repeat (first | exact Below.refl _ _ | apply below_alloc | apply pw_below_drewN | apply below_drew1))).now.2.2.2.2 HC.out HE.out).mono ?_; rintro e w4 ⟨rfl, nq, rfl⟩))
    have hS1 := HS.out.step (pw_below_drewN (Below.refl _ w3) nq)
    clear HS
    have HR0 := Aside0.mk hS1.now.2.2.1
    have HS : Aside0 (Sta w (w3.drewN nq) (fun W => FromBase w1.heap.size W (fun W => IsRMap W m2 l) ∧ FromBase w1.heap.size W (fun W => IsMap W m l) ∧ IsBlk W w.heap.size (.cells #[.int .i64 p0, .int .i64 p1] 58))) := ⟨hS1.only ⟨hS1.now.1, hS1.now.2.1, hS1.now.2.2.2.1⟩ (keeps_and (keeps_from _ _) (keeps_and (keeps_from _ _) (keeps_blk _ _)))⟩
    clear hS1
    generalize (w3.drewN nq) = W0 at *
    go_loopw [12] (fun s12 W => ∃ i : Nat, i ≤ l.length ∧ s12 = .int .i64 i ∧ Aside0 (∃ zs, Kd.R (Kd.int .u8) 5 W (w.heap.size + 1) (fun _ => True) (.slice Ai l.length ci) zs) ∧ Aside0 (Sta w W (fun W => FromBase w1.heap.size W (fun W => IsRMap W m2 l) ∧ FromBase w1.heap.size W (fun W => IsMap W m l) ∧ IsBlk W w.heap.size (.cells #[.int .i64 p0, .int .i64 p1] 58)))) (fun s12 _ => l.length - (intOf s12).toNat)
    case atStart => exact ⟨0, Nat.zero_le _, rfl, ⟨_, HR0.out⟩, HS⟩
    case round =>
      clear HS HR0
      obtain ⟨i, hi, rfl, HRz, HS⟩ := hrel
      by_cases hlt : i < l.length
      · obtain ⟨zs, hRz⟩ := HRz.out
        obtain ⟨gi, rfl, hg1, hg2⟩ := own_at hRz (by omega)
        obtain ⟨gj, e, -, hg3⟩ := own_at HO.out (by omega)
        cases e
        obtain ⟨hc1, hf1⟩ := cell_own hRz i hlt
        have HRz2 := Aside0.mk hRz
        have i1 : (i : Int) < l.length := by omega
        clear hRz HRz
        go_wp2
        go_roundw
        case measure => simp [intOf]; omega
        case rel =>
          exact ⟨i + 1, hlt, by simp, ⟨_, put_own HRz2.out i 10⟩, ⟨HS.out.bel.setCell (p := ⟨gi, i, none⟩) (by simp; omega) _, ⟨HS.out.now.1.set (p := ⟨gi, i, none⟩) hg3 _, HS.out.now.2.1.set (p := ⟨gi, i, none⟩) hg3 _, HS.out.now.2.2.other (by simp; omega) _⟩, HS.out.keeps⟩⟩
      · obtain rfl : i = l.length := by omega
        clear HRz
        have c0 : wr.cell? ⟨w.heap.size, 0, none⟩ = some (.int .i64 p0) := HS.out.now.2.2.cell 0
        have c1 : wr.cell? ⟨w.heap.size, 1, none⟩ = some (.int .i64 p1) := HS.out.now.2.2.cell 1
        go_wp2_with (first | (go_at_call 37; refine (HOF.out.1 m _ (HS.out.step (by repeat (first | exact Below.refl _ _ | apply below_alloc | apply pw_below_drewN | apply below_drew1))).now.2.1.now).mono ?_; rintro e w5 ⟨rfl, hb⟩; have m_ := Aside0.mk (HS.out.call (by repeat (first | exact Below.refl _ _ | apply below_alloc | apply pw_below_drewN | apply below_drew1)) hb); clear HS hb ; have HS := m_; clear m_; have c0 : w5.cell? ⟨w.heap.size, 0, none⟩ = some (.int .i64 p0) := HS.out.now.2.2.cell 0; have c1 : w5.cell? ⟨w.heap.size, 1, none⟩ = some (.int .i64 p1) := HS.out.now.2.2.cell 1) | (go_at_call 38; refine (HOF.out.2 m2 _ (HS.out.step (by repeat (first | exact Below.refl _ _ | apply below_alloc | apply pw_below_drewN | apply below_drew1))).now.1.now).mono ?_; rintro e w6 ⟨rfl, hb⟩; have m_ := Aside0.mk (HS.out.call (by repeat (first | exact Below.refl _ _ | apply below_alloc | apply pw_below_drewN | apply below_drew1)) hb); clear HS hb ; have HS := m_; clear m_; have c0 : w6.cell? ⟨w.heap.size, 0, none⟩ = some (.int .i64 p0) := HS.out.now.2.2.cell 0; have c1 : w6.cell? ⟨w.heap.size, 1, none⟩ = some (.int .i64 p1) := HS.out.now.2.2.cell 1) | (go_at_call 39; refine (HPS.out.1 m _ (HS.out.step (by repeat (first | exact Below.refl _ _ | apply below_alloc | apply pw_below_drewN | apply below_drew1))).now.2.1.now).mono ?_; rintro e w7 ⟨rfl, hb⟩; have m_ := Aside0.mk (HS.out.call (by repeat (first | exact Below.refl _ _ | apply below_alloc | apply pw_below_drewN | apply below_drew1)) hb); clear HS hb ; have HS := m_; clear m_) | (go_at_call 40; refine (HPS.out.2 m2 _ (HS.out.step (by repeat (first | exact Below.refl _ _ | apply below_alloc | apply pw_below_drewN | apply below_drew1))).now.1.now).mono ?_; rintro e w8 ⟨rfl, hb⟩; have hbx := IsBlk.below (blk_new w7 (.cells #[.int .i64 qa, .int .i64 qb] 58)) hb; have m_ := Aside0.mk ((HS.out.call (by repeat (first | exact Below.refl _ _ | apply below_alloc | apply pw_below_drewN | apply below_drew1)) hb).add hbx (keeps_blk _ _)); clear HS hb hbx; have HS := m_; clear m_; have z0 : w8.cell? ⟨w7.heap.size, 0, none⟩ = some (.int .i64 qa) := HS.out.now.1.cell 0; have z1 : w8.cell? ⟨w7.heap.size, 1, none⟩ = some (.int .i64 qb) := HS.out.now.1.cell 1; have z0a := cell_alloc1 z0; have z1a := cell_alloc1 z1) | (go_at_call 41; refine (MEnd_is m l _ (HS.out.step (by repeat (first | exact Below.refl _ _ | apply below_alloc | apply pw_below_drewN | apply below_drew1))).now.2.2.1.now hs HBY.out HV.out).mono ?_; rintro e w9 ⟨rfl, hb⟩; have m_ := Aside0.mk (HS.out.call (by repeat (first | exact Below.refl _ _ | apply below_alloc | apply pw_below_drewN | apply below_drew1)) hb); clear HS hb ; have HS := m_; clear m_) | (go_at_call 42; refine (REnd_is m2 l _ (HS.out.step (by repeat (first | exact Below.refl _ _ | apply below_alloc | apply pw_below_drewN | apply below_drew1))).now.2.1.now hs HBY.out HV.out).mono ?_; rintro e w10 ⟨rfl, hb⟩; have m_ := Aside0.mk (HS.out.call (by repeat (first | exact Below.refl _ _ | apply below_alloc | apply pw_below_drewN | apply below_drew1)) hb); clear HS hb ; have HS := m_; clear m_) | (go_at_call 36; refine (pworks_ok _).mono ?_; rintro e w11 ⟨rfl, hb⟩; have m_ := Aside0.mk (HS.out.call (by repeat (first | exact Below.refl _ _ | apply below_alloc | apply pw_below_drewN | apply below_drew1)) hb); clear HS hb ; have HS := m_; clear m_))
        go_ret
        exact ⟨rfl, HS.out.bel⟩
  · have hz2 : (r2 != 0) = true := bne_iff_ne.mpr hz
    clear hk hB
    go_enter Try.func11, Try.ntmps11
    go_wp2_with (first | (go_at_call 20; refine (Copy_ok A c l _ (HS.out.step (by repeat (first | exact Below.refl _ _ | apply below_alloc | apply pw_below_drewN | apply below_drew1))).now.2 HC.out hs).mono ?_; rintro e w1 ⟨v, rfl, hR, hb⟩; obtain ⟨Ai, ci, rfl⟩ := Kd.R_slice hR; obtain ⟨-, hci, -⟩ := Kd.R_reads' hR; have hR := Kd.R_lower hR (show w.heap.size + 1 ≤ _ by simp); have HZ0 := Aside0.mk hb.size; have HCI := Aside0.mk hci; have HO := Aside0.mk hR; have HN := Aside0.mk (own_nil hR); clear hci; have m_ := Aside0.mk ((HS.out.call (by repeat (first | exact Below.refl _ _ | apply below_alloc | apply pw_below_drewN | apply below_drew1)) hb).add hR (keeps_R _ _ _ _ _ _)); clear HS hb hR; have HS := m_; clear m_) | (go_at_call 34; refine (MNew_err k Ai ci l r1 r2 _ (Kd.R_reads' (HS.out.step (by repeat (first | exact Below.refl _ _ | apply below_alloc | apply pw_below_drewN | apply below_drew1))).now.1).2.2 HCI.out H.out hz).mono ?_; rintro e w2 ⟨rfl, hb⟩; have m_ := Aside0.mk (HS.out.call (by repeat (first | exact Below.refl _ _ | apply below_alloc | apply pw_below_drewN | apply below_drew1)) hb); clear HS hb ; have HS := m_; clear m_) | (go_at_call 35; refine (RMNew_err k2 A c l r1 r2 _ (HS.out.step (by repeat (first | exact Below.refl _ _ | apply below_alloc | apply pw_below_drewN | apply below_drew1))).now.2.2 HC.out H2.out hz).mono ?_; rintro e w3 ⟨rfl, hb⟩; have m_ := Aside0.mk (HS.out.call (by repeat (first | exact Below.refl _ _ | apply below_alloc | apply pw_below_drewN | apply below_drew1)) hb); clear HS hb ; have HS := m_; clear m_) | (go_at_call 23; refine (colophonref00_EqBytes.calls _ Ai ci l A c l true _ (Kd.R_reads' (HS.out.step (by repeat (first | exact Below.refl _ _ | apply below_alloc | apply pw_below_drewN | apply below_drew1))).now.1).2.2 HCI.out (HS.out.step (by repeat (first | exact Below.refl _ _ | apply below_alloc | apply pw_below_drewN | apply below_drew1))).now.2.2 HC.out HE.out).mono ?_; rintro e w4 ⟨rfl, nq, rfl⟩) | (go_at_call 36; refine (pworks_ok _).mono ?_; rintro e w11 ⟨rfl, hb⟩; have m_ := Aside0.mk (HS.out.call (by repeat (first | exact Below.refl _ _ | apply below_alloc | apply pw_below_drewN | apply below_drew1)) hb); clear HS hb ; have HS := m_; clear m_))
    go_ret
    exact ⟨rfl, HS.out.bel⟩
theorem PlaceOffset_row (A : Option Addr) (n c : Nat) (zs : List Int) (p0 p1 at_ : Int) (W : World) (h : IsRow .u8 W A n c zs) (hb : c ≤ 1048576) (_h0 : (Lit.int .i64 p0).wf = true) (h1 : (Lit.int .i64 p1).wf = true) (_h2 : (Lit.int .i64 at_).wf = true) :
    Calls Try.prog 11 #[.slice A n c, .agg #[.int .i64 p0, .int .i64 p1], .int .i64 at_] W fun e w' => e = .returned (.bool true) ∧ Below W.heap.size W w' := by
  obtain ⟨l, rfl, hc, hC, hw⟩ := h.reads
  have hB : Bytes l := fun x hx => byte_wf (hw x hx)
  exact PlaceOffset_ok _ _ A c l _ _ p0 p1 at_ W hC hc hB (Check_f l hB (by omega) (Nat.lt_succ_self _)) (RCheck_f l hB (by omega) (Nat.lt_succ_self _)) rfl (by omega) (int_wf h1).2
end Go.Proofs.Ytogfaahdbecdnaa.B

/-
  Rows: how an array of two numbers, a struct of two, a struct of two of these that came in by value is read.
-/
namespace Go.Proofs.Ytogfaahdbecdnaa.B
open Go.RowKit Go.ChangeShapes Go.WideShapes Go.Joins
set_option linter.unusedVariables false
section
variable {H : Type} {enc : TypeId × Value → H} {P : Program} {w : World} {base : Nat} {spare : Nat → Bool} {held : Bool} {r : Reach} {b0 : Nat}
theorem open_two_arr {t e : TypeId} {v : Value} {d : DataW H} {p : List MemPlace} (ht : P.underlying t = some (.array 2 e)) (he : P.underlying e = some (.int .i64)) (hC : P.cellsOf t = 2) (hc : P.cellsOf e = 1)
    (hv : Value.okWide P w r b0 t v) (h : DataW.Trod enc P w base spare held t v d p) :
    ∃ x y : Int, v = .agg #[.int .i64 x, .int .i64 y] ∧ p = [] ∧ (Lit.int .i64 x).wf = true ∧ (Lit.int .i64 y).wf = true := by
  simp only [Value.okWide, ht] at hv
  obtain ⟨cs, rfl, hsz, _⟩ := hv
  obtain ⟨c0, c1, rfl⟩ := array2 (hsz.trans (by simpa using hC))
  obtain ⟨fuel, hf⟩ := h
  obtain ⟨xs, m, _, hx, _, hl, hf⟩ := DataW.trod_array ht hf
  match xs, hl with
  | [z0, z1], _ =>
    have h0 := hf 0 (by omega)
    have h1 := hf 1 (by omega)
    simp [Value.cells, hc] at h0 h1
    obtain ⟨x, ex, rfl, wx⟩ := DataW.trod_int he h0
    obtain ⟨y, ey, rfl, wy⟩ := DataW.trod_int he h1
    cases ex
    cases ey
    simp at hx
    exact ⟨x, y, rfl, hx.2, wx, wy⟩
theorem open_two_struct {t : TypeId} {f0 f1 : Field} {v : Value} {d : DataW H} {p : List MemPlace} (hs : P.underlying t = some (.struct #[f0, f1])) (i0 : P.underlying f0.type = some (.int .i64)) (i1 : P.underlying f1.type = some (.int .i64))
    (o0 : f0.offset = 0) (o1 : f1.offset = 1) (k0 : P.cellsOf f0.type = 1) (k1 : P.cellsOf f1.type = 1) (hC : P.cellsOf t = 2) (hv : Value.okWide P w r b0 t v) (h : DataW.Trod enc P w base spare held t v d p) :
    ∃ x y : Int, v = .agg #[.int .i64 x, .int .i64 y] ∧ p = [] ∧ (Lit.int .i64 x).wf = true ∧ (Lit.int .i64 y).wf = true := by
  obtain ⟨cs, rfl, hsz⟩ := okWide_struct hs hv
  obtain ⟨c0, c1, rfl⟩ := array2 (hsz.trans hC)
  obtain ⟨fuel, hf⟩ := h
  obtain ⟨z0, z1, n, hx, _, h0, h1⟩ := trod_struct2 hs hf
  simp [Value.cells, o0, o1, k0, k1] at h0 h1
  obtain ⟨x, ex, rfl, wx⟩ := DataW.trod_int i0 h0
  obtain ⟨y, ey, rfl, wy⟩ := DataW.trod_int i1 h1
  cases ex
  cases ey
  simp at hx
  exact ⟨x, y, rfl, hx.2, wx, wy⟩
theorem open_four_struct {t : TypeId} {f0 f1 g0 g1 : Field} {v : Value} {d : DataW H} {p : List MemPlace} (hs : P.underlying t = some (.struct #[f0, f1])) (e1 : f1.type = f0.type) (hq : P.underlying f0.type = some (.struct #[g0, g1]))
    (i0 : P.underlying g0.type = some (.int .i64)) (i1 : P.underlying g1.type = some (.int .i64))
    (o0 : f0.offset = 0) (o1 : f1.offset = 2) (p0 : g0.offset = 0) (p1 : g1.offset = 1) (kq : P.cellsOf f0.type = 2) (k0 : P.cellsOf g0.type = 1) (k1 : P.cellsOf g1.type = 1) (hC : P.cellsOf t = 4) (hv : Value.okWide P w r b0 t v) (h : DataW.Trod enc P w base spare held t v d p) :
    ∃ x0 x1 x2 x3 : Int, v = .agg #[.int .i64 x0, .int .i64 x1, .int .i64 x2, .int .i64 x3] ∧ p = [] ∧ (Lit.int .i64 x0).wf = true ∧ (Lit.int .i64 x1).wf = true ∧ (Lit.int .i64 x2).wf = true ∧ (Lit.int .i64 x3).wf = true := by
  obtain ⟨cs, rfl, hsz⟩ := okWide_struct hs hv
  obtain ⟨c0, c1, c2, c3, rfl⟩ := array4 (hsz.trans hC)
  obtain ⟨fuel, hf⟩ := h
  obtain ⟨z0, z1, n, hx, _, h0, h1⟩ := trod_struct2 hs hf
  rw [e1] at h1
  simp [Value.cells, o0, o1, kq] at h0 h1
  obtain ⟨u0, u1, n0, hx0, _, h00, h01⟩ := trod_struct2 hq h0
  obtain ⟨u2, u3, n1, hx1, _, h10, h11⟩ := trod_struct2 hq h1
  simp [p0, p1, k0, k1] at h00 h01 h10 h11
  obtain ⟨x0, ex0, rfl, w0⟩ := DataW.trod_int i0 h00
  obtain ⟨x1, ex1, rfl, w1⟩ := DataW.trod_int i1 h01
  obtain ⟨x2, ex2, rfl, w2⟩ := DataW.trod_int i0 h10
  obtain ⟨x3, ex3, rfl, w3⟩ := DataW.trod_int i1 h11
  cases ex0
  cases ex1
  cases ex2
  cases ex3
  subst hx0 hx1
  simp at hx
  exact ⟨x0, x1, x2, x3, rfl, hx.2, w0, w1, w2, w3⟩
end
end Go.Proofs.Ytogfaahdbecdnaa.B

namespace Go.Proofs.Ytogfaahdbecdnaa.placeOffset
open Go.ChangeShapes Go.WideShapes Go.ChangeAt Go.RowKit Go.Proofs.Ytogfaahdbecdnaa.B
set_option linter.unusedVariables false
theorem own : ownKnob Try.prog.godebug = none := by kernel_rfl
theorem laidOut : laidOutB Try.prog = true := by kernel_rfl
set_option maxRecDepth 100000 in
theorem contract (H : Type) (enc : TypeId × Value → H) (W : World) (base : Nat) (args : Array Value) (ds gs : List (DataW H)) (before : List MemPlace)
    (hval0 : ∀ (j : Nat) t v, Try.f11.params[j]? = some t → args[j]? = some v → Value.okWide Try.prog W .any base t v)
    (hW : DataW.Whole enc Try.prog Try.f11.params.toList Rows.placeOffsetSpec.vars false W args.toList ds gs before) (hk : Rows.uptoSmall H (ds ++ gs) = true) :
    Calls Try.prog 11 args W fun e W' => ∃ v, e = .returned v ∧ Rows.placeOffsetSpec.post enc Try.prog Try.f11 false true false false W args v W' := by
  have hW' := hW
  obtain ⟨p, q, hA0, hV, rfl, hfz, hnd⟩ := hW
  have hA : DataW.TrodAll enc Try.prog W 0 (fun _ => true) true Try.f11.params.toList args.toList ds p := hA0
  have hval : ∀ (j : Nat) t v, Try.f11.params[j]? = some t → args[j]? = some v → Value.okWide Try.prog W .any base t v := hval0
  rw [Try.params11] at hA hval
  obtain ⟨v0, vs0, d0, ds0, p0, q0, hargs, rfl, rfl, h0, r0⟩ := trodAll_cons hA
  obtain ⟨v1, vs1, d1, ds1, p1, q1, rfl, rfl, rfl, h1, r1⟩ := trodAll_cons r0
  obtain ⟨v2, vs2, d2, ds2, p2, q2, rfl, rfl, rfl, h2, r2⟩ := trodAll_cons r1
  obtain ⟨rfl, rfl, rfl⟩ := trodAll_nil r2
  obtain rfl : args = #[v0, v1, v2] := by cases args; simp_all
  obtain ⟨rfl, rfl⟩ := trodVars_none hV
  have hbulk := bulks.bound hk
  obtain ⟨a0, len0, cap0, rfl⟩ := okWide_slice Try.underlying22 (hval 0 22 v0 rfl rfl)
  have k0 := h0
  have lt0 : ∀ x ∈ p0, x.block < W.heap.size := by obtain ⟨m, hm⟩ := k0; exact DataW.trod_lt m _ _ _ hm
  obtain ⟨z0, w0, b0⟩ : ∃ zs, IsRow .u8 W a0 len0 cap0 zs ∧ cap0 ≤ 1048576 := by
    obtain ⟨fuel, hf⟩ := h0
    rcases open_ints Try.underlying22 Try.underlying5 (by kernel_rfl) hf with ⟨hcs, _⟩ | ⟨x, l, c, zs, hcs, _, hl, hm, hz, hd, hcell, hwz⟩
    · simp [Value.cells] at hcs
      obtain ⟨rfl, rfl, rfl⟩ := hcs
      exact ⟨[], .inl ⟨rfl, rfl, rfl, rfl⟩, by decide⟩
    · simp [Value.cells] at hcs
      obtain ⟨rfl, rfl, rfl⟩ := hcs
      refine ⟨zs, .inr ⟨_, rfl, hl, hm, by simpa using hz, hcell, hwz⟩, ?_⟩
      injection hd with hd _
      have hp : d0 ∈ _ := (show d0 ∈ ([d0, d1, d2] : List (DataW H)) ++ [] from by simp)
      have h1 := bulks.part_le hp
      rw [hd] at h1
      have h2 := bulks.slice_le (H := H) (lits .u8 (zs.take len0)) (lits .u8 (zs.drop len0))
      rw [hd] at hbulk
      have hz' : zs.length = cap0 := by simpa using hz
      simp [lits] at h1 h2 hbulk
      omega
  obtain ⟨x1_0, x1_1, rfl, rfl, w1_0, w1_1⟩ := open_two_struct Try.underlying58 Try.underlying3 Try.underlying3 rfl rfl (by kernel_rfl) (by kernel_rfl) (by kernel_rfl) (hval 1 58 v1 rfl rfl) h1
  obtain ⟨a2, rfl, rfl, rfl, w2⟩ := open_int Try.underlying3 (hval 2 3 v2 rfl rfl) h2
  clear hA0 hval0
  refine (PlaceOffset_row a0 len0 cap0 z0 x1_0 x1_1 a2 W w0 b0 w1_0 w1_1 w2).mono fun e W' ⟨he, bel⟩ => ?_
  subst he
  exact ⟨_, rfl, _, _, _, [], _, [], hW', trodAll_mk1 (shut_bool Try.underlying4 _), (trodAll_cons_mk (Below.trod laidOut (by kernel_rfl) (of_decide_eq_true (by kernel_rfl)) k0 bel lt0) (trodAll_cons_mk (WideElems.Trod_stays laidOut (by kernel_rfl) (of_decide_eq_true (by kernel_rfl)) h1 (by simp) (by simp)) (trodAll_cons_mk (shut_int Try.underlying3 w2) trodAll_mk0))), rfl, bel.frame _, fun h => by cases h⟩
set_option maxRecDepth 100000 in
theorem lifted (os : Os) (started : os.Started) (H : Type) (enc : TypeId × Value → H) (F : Stop.Interp) :
    ReturnsInHanded {} Try.checked os 11 .any ((Rows.OpenSpec.upto Rows.placeOffsetSpec).pre6 enc Try.prog Try.f11 Rows.placeOffsetUptoRow.domain false) (((Rows.OpenSpec.upto Rows.placeOffsetSpec).at F).post enc Try.prog Try.f11 false true false false) := by
  refine returnsInHanded_of_cond (C := Try.checked) (s := Rows.OpenSpec.upto Rows.placeOffsetSpec) (k := Rows.uptoSmall) rfl own started (by kernel_rfl) Try.func11
    (OpenSpec.witness (enc := enc) (C := Try.checked) (s := Rows.OpenSpec.upto Rows.placeOffsetSpec) (k := Rows.uptoSmall) rfl false ⟨#[], #[.slice none 0 0, .agg #[.int .i64 0, .int .i64 0], .int .i64 0], []⟩ 8 (by kernel_rfl) (by kernel_rfl) (by kernel_rfl)
      (x := ([.nil, .agg [.lit (.int .i64 0), .lit (.int .i64 0)], .lit (.int .i64 0)], [], [])) (by kernel_rfl) rfl (by kernel_rfl)) ?_
  intro W base args ds gs before hval hW _ hk _
  exact contract H enc W base args ds gs before hval hW hk
theorem proved : Rows.PlaceOffsetUptoSaid :=
  OpenClaim.holds_of_cond 11 Try.f11 rfl rfl rfl rfl rfl rfl rfl ⟨rfl, rfl, rfl, rfl, rfl⟩ rfl rfl rfl rfl rfl (by kernel_rfl) Try.func11 (by kernel_rfl)
    (of_decide_eq_true (by kernel_rfl)) (by unfold Func.isWrapper; first | (rw [if_pos (by decide +kernel)]; kernel_rfl) | (rw [if_neg (by decide +kernel)]; exact ⟨rfl, rfl⟩))
    (fun os started H enc _ F => lifted os started H enc F)
#print axioms proved
end Go.Proofs.Ytogfaahdbecdnaa.placeOffset
namespace Go.Proofs.Ytogfaahdbecdnaa
/-- The row, under a short name, for the claim. -/
theorem placeOffsetUpto_holds : Rows.PlaceOffsetUptoSaid := placeOffset.proved
end Go.Proofs.Ytogfaahdbecdnaa
