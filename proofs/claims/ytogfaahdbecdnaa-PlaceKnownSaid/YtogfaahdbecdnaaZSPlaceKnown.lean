/-
  The row of PlaceKnown, in its full form: for every input the call answers true, and the input reads as it did.
-/
import Derived.WalkKit
import Derived.ProofKit
import Derived.OpenShut
import Derived.ShutString
import Derived.ChangeOld
import Derived.Below
import Derived.SizedLaws
import Derived.JoinedCond
import Derived.Test.YtogfaahdbecdnaaZH6
set_option linter.unusedSimpArgs false
set_option linter.unusedVariables false
/-
  place: Span, Range, of the program and of the document, over what Offset and Pos answer.
-/
namespace Go.Proofs.Ytogfaahdbecdnaa.B
open Go.RowKit Go.Shelf Go.Proofs Go.Proofs.YtogfaahdbecdnaaW.PrintWords Go.Proofs.YtogfaahdbecdnaaW.PrintLast Go.Proofs.YtogfaahdbecdnaaW.PrintMore Go.Proofs.Ytogfaahdbecdnaa.FBase
set_option linter.unusedVariables false
set_option linter.unusedSimpArgs false

set_option maxRecDepth 100000 in
set_option maxHeartbeats 1000000 in
theorem MSpan_e1 (p : Option Addr) (x0 x1 x2 x3 va ea : Int) (w : World) (h1 : ∀ W, Below w.heap.size w W → Calls Try.prog 37 #[.pointer p, .agg #[.int .i64 x0, .int .i64 x1]] W fun e W' => e = .returned (.tuple #[.int .i64 va, .int .i64 ea]) ∧ Below W.heap.size W W') (hz : ea ≠ 0) : Calls Try.prog 48 #[.pointer p, .agg #[.int .i64 x0, .int .i64 x1, .int .i64 x2, .int .i64 x3]] w fun e w' => e = .returned (.tuple #[.agg #[.int .i64 0, .int .i64 0], .int .i64 ea]) ∧ Below w.heap.size w w' := by
  have hb1 := below_alloc (Below.refl _ w) (.cells #[.int .i64 x0, .int .i64 x1, .int .i64 x2, .int .i64 x3] 79)
  have hb2 : Below (w.alloc (.cells #[.int .i64 x0, .int .i64 x1, .int .i64 x2, .int .i64 x3] 79)).heap.size (w.alloc (.cells #[.int .i64 x0, .int .i64 x1, .int .i64 x2, .int .i64 x3] 79)) ((w.alloc (.cells #[.int .i64 x0, .int .i64 x1, .int .i64 x2, .int .i64 x3] 79)).alloc (.cells #[.int .i64 0, .int .i64 0] 35)) := below_alloc (Below.refl _ _) _
  have hg : IsBlk ((w.alloc (.cells #[.int .i64 x0, .int .i64 x1, .int .i64 x2, .int .i64 x3] 79)).alloc (.cells #[.int .i64 0, .int .i64 0] 35)) (w.alloc (.cells #[.int .i64 x0, .int .i64 x1, .int .i64 x2, .int .i64 x3] 79)).heap.size (.cells #[.int .i64 0, .int .i64 0] 35) := blk_new _ _
  rw [World.size_alloc] at hg
  have HS : Aside0 (Sta w ((w.alloc (.cells #[.int .i64 x0, .int .i64 x1, .int .i64 x2, .int .i64 x3] 79)).alloc (.cells #[.int .i64 0, .int .i64 0] 35)) (fun W => IsBlk W w.heap.size (.cells #[.int .i64 x0, .int .i64 x1, .int .i64 x2, .int .i64 x3] 79) ∧ IsBlk W (w.heap.size + 1) (.cells #[.int .i64 0, .int .i64 0] 35))) := ⟨⟨below_step hb1 hb2, ⟨IsBlk.below (blk_new w _) hb2, hg⟩, keeps_and (keeps_blk _ _) (keeps_blk _ _)⟩⟩
  clear hb1 hb2 hg
  have n1 := blk_lt HS.out.now.1
  have n2 := blk_lt HS.out.now.2
  have c0 : ((w.alloc (.cells #[.int .i64 x0, .int .i64 x1, .int .i64 x2, .int .i64 x3] 79)).alloc (.cells #[.int .i64 0, .int .i64 0] 35)).cell? ⟨w.heap.size, 0, none⟩ = some (.int .i64 x0) := HS.out.now.1.cell 0
  have c1 : ((w.alloc (.cells #[.int .i64 x0, .int .i64 x1, .int .i64 x2, .int .i64 x3] 79)).alloc (.cells #[.int .i64 0, .int .i64 0] 35)).cell? ⟨w.heap.size, 1, none⟩ = some (.int .i64 x1) := HS.out.now.1.cell 1
  have c2 : ((w.alloc (.cells #[.int .i64 x0, .int .i64 x1, .int .i64 x2, .int .i64 x3] 79)).alloc (.cells #[.int .i64 0, .int .i64 0] 35)).cell? ⟨w.heap.size, 2, none⟩ = some (.int .i64 x2) := HS.out.now.1.cell 2
  have c3 : ((w.alloc (.cells #[.int .i64 x0, .int .i64 x1, .int .i64 x2, .int .i64 x3] 79)).alloc (.cells #[.int .i64 0, .int .i64 0] 35)).cell? ⟨w.heap.size, 3, none⟩ = some (.int .i64 x3) := HS.out.now.1.cell 3
  have k0 : ((w.alloc (.cells #[.int .i64 x0, .int .i64 x1, .int .i64 x2, .int .i64 x3] 79)).alloc (.cells #[.int .i64 0, .int .i64 0] 35)).cell? ⟨w.heap.size + 1, 0, none⟩ = some (.int .i64 0) := HS.out.now.2.cell 0
  have f0 := HS.out.now.2.frozen 0
  have k1 : ((w.alloc (.cells #[.int .i64 x0, .int .i64 x1, .int .i64 x2, .int .i64 x3] 79)).alloc (.cells #[.int .i64 0, .int .i64 0] 35)).cell? ⟨w.heap.size + 1, 1, none⟩ = some (.int .i64 0) := HS.out.now.2.cell 1
  have f1 := HS.out.now.2.frozen 1
  have H1 := Aside0.mk h1
  clear h1
  have hz1 : (ea != 0) = true := bne_iff_ne.mpr hz
  clear hz
  have t1 := True.intro
  have t2 := True.intro
  go_enter Try.func48, Try.ntmps48
  go_wp2_with (have _t := t1; go_at_call 37; refine (H1.out _ (HS.out.step (by repeat (first | exact Below.refl _ _ | apply below_alloc | apply pw_below_drewN | apply below_drew1))).bel).mono ?_; rintro e w1 ⟨rfl, hb⟩; have m_ := Aside0.mk (HS.out.call (by repeat (first | exact Below.refl _ _ | apply below_alloc | apply pw_below_drewN | apply below_drew1)) hb); clear HS hb; have HS := m_; clear m_; have n1 := blk_lt HS.out.now.1; have n2 := blk_lt HS.out.now.2; have c0 : w1.cell? ⟨w.heap.size, 0, none⟩ = some (.int .i64 x0) := HS.out.now.1.cell 0; have c1 : w1.cell? ⟨w.heap.size, 1, none⟩ = some (.int .i64 x1) := HS.out.now.1.cell 1; have c2 : w1.cell? ⟨w.heap.size, 2, none⟩ = some (.int .i64 x2) := HS.out.now.1.cell 2; have c3 : w1.cell? ⟨w.heap.size, 3, none⟩ = some (.int .i64 x3) := HS.out.now.1.cell 3; have k0 : w1.cell? ⟨w.heap.size + 1, 0, none⟩ = some (.int .i64 0) := HS.out.now.2.cell 0; have f0 := HS.out.now.2.frozen 0; have k1 : w1.cell? ⟨w.heap.size + 1, 1, none⟩ = some (.int .i64 0) := HS.out.now.2.cell 1; have f1 := HS.out.now.2.frozen 1; clear t1 _t)
  all_goals try (go_step3; go_wp2)
  first | rw [Exit.noGoto_ret] | skip
  refine bodyPost_ret (v := .tuple #[.agg #[.int .i64 0, .int .i64 0], .int .i64 ea]) (by simp [results, Try.results48, go_sem, *]) rfl ⟨rfl, ?_⟩
  have hS := HS.out.bel
  repeat (first | exact hS | apply below_alloc | apply pw_below_drewN | apply below_drew1 | refine Below.setCell ?_ (by simp) _)
set_option maxRecDepth 100000 in
set_option maxHeartbeats 1000000 in
theorem MSpan_e2 (p : Option Addr) (x0 x1 x2 x3 va vb eb : Int) (w : World) (h1 : ∀ W, Below w.heap.size w W → Calls Try.prog 37 #[.pointer p, .agg #[.int .i64 x0, .int .i64 x1]] W fun e W' => e = .returned (.tuple #[.int .i64 va, .int .i64 0]) ∧ Below W.heap.size W W') (h2 : ∀ W, Below w.heap.size w W → Calls Try.prog 37 #[.pointer p, .agg #[.int .i64 x2, .int .i64 x3]] W fun e W' => e = .returned (.tuple #[.int .i64 vb, .int .i64 eb]) ∧ Below W.heap.size W W') (hz : eb ≠ 0) : Calls Try.prog 48 #[.pointer p, .agg #[.int .i64 x0, .int .i64 x1, .int .i64 x2, .int .i64 x3]] w fun e w' => e = .returned (.tuple #[.agg #[.int .i64 0, .int .i64 0], .int .i64 eb]) ∧ Below w.heap.size w w' := by
  have hb1 := below_alloc (Below.refl _ w) (.cells #[.int .i64 x0, .int .i64 x1, .int .i64 x2, .int .i64 x3] 79)
  have hb2 : Below (w.alloc (.cells #[.int .i64 x0, .int .i64 x1, .int .i64 x2, .int .i64 x3] 79)).heap.size (w.alloc (.cells #[.int .i64 x0, .int .i64 x1, .int .i64 x2, .int .i64 x3] 79)) ((w.alloc (.cells #[.int .i64 x0, .int .i64 x1, .int .i64 x2, .int .i64 x3] 79)).alloc (.cells #[.int .i64 0, .int .i64 0] 35)) := below_alloc (Below.refl _ _) _
  have hg : IsBlk ((w.alloc (.cells #[.int .i64 x0, .int .i64 x1, .int .i64 x2, .int .i64 x3] 79)).alloc (.cells #[.int .i64 0, .int .i64 0] 35)) (w.alloc (.cells #[.int .i64 x0, .int .i64 x1, .int .i64 x2, .int .i64 x3] 79)).heap.size (.cells #[.int .i64 0, .int .i64 0] 35) := blk_new _ _
  rw [World.size_alloc] at hg
  have HS : Aside0 (Sta w ((w.alloc (.cells #[.int .i64 x0, .int .i64 x1, .int .i64 x2, .int .i64 x3] 79)).alloc (.cells #[.int .i64 0, .int .i64 0] 35)) (fun W => IsBlk W w.heap.size (.cells #[.int .i64 x0, .int .i64 x1, .int .i64 x2, .int .i64 x3] 79) ∧ IsBlk W (w.heap.size + 1) (.cells #[.int .i64 0, .int .i64 0] 35))) := ⟨⟨below_step hb1 hb2, ⟨IsBlk.below (blk_new w _) hb2, hg⟩, keeps_and (keeps_blk _ _) (keeps_blk _ _)⟩⟩
  clear hb1 hb2 hg
  have n1 := blk_lt HS.out.now.1
  have n2 := blk_lt HS.out.now.2
  have c0 : ((w.alloc (.cells #[.int .i64 x0, .int .i64 x1, .int .i64 x2, .int .i64 x3] 79)).alloc (.cells #[.int .i64 0, .int .i64 0] 35)).cell? ⟨w.heap.size, 0, none⟩ = some (.int .i64 x0) := HS.out.now.1.cell 0
  have c1 : ((w.alloc (.cells #[.int .i64 x0, .int .i64 x1, .int .i64 x2, .int .i64 x3] 79)).alloc (.cells #[.int .i64 0, .int .i64 0] 35)).cell? ⟨w.heap.size, 1, none⟩ = some (.int .i64 x1) := HS.out.now.1.cell 1
  have c2 : ((w.alloc (.cells #[.int .i64 x0, .int .i64 x1, .int .i64 x2, .int .i64 x3] 79)).alloc (.cells #[.int .i64 0, .int .i64 0] 35)).cell? ⟨w.heap.size, 2, none⟩ = some (.int .i64 x2) := HS.out.now.1.cell 2
  have c3 : ((w.alloc (.cells #[.int .i64 x0, .int .i64 x1, .int .i64 x2, .int .i64 x3] 79)).alloc (.cells #[.int .i64 0, .int .i64 0] 35)).cell? ⟨w.heap.size, 3, none⟩ = some (.int .i64 x3) := HS.out.now.1.cell 3
  have k0 : ((w.alloc (.cells #[.int .i64 x0, .int .i64 x1, .int .i64 x2, .int .i64 x3] 79)).alloc (.cells #[.int .i64 0, .int .i64 0] 35)).cell? ⟨w.heap.size + 1, 0, none⟩ = some (.int .i64 0) := HS.out.now.2.cell 0
  have f0 := HS.out.now.2.frozen 0
  have k1 : ((w.alloc (.cells #[.int .i64 x0, .int .i64 x1, .int .i64 x2, .int .i64 x3] 79)).alloc (.cells #[.int .i64 0, .int .i64 0] 35)).cell? ⟨w.heap.size + 1, 1, none⟩ = some (.int .i64 0) := HS.out.now.2.cell 1
  have f1 := HS.out.now.2.frozen 1
  have H1 := Aside0.mk h1
  clear h1
  have H2 := Aside0.mk h2
  clear h2
  have hz1 : (eb != 0) = true := bne_iff_ne.mpr hz
  clear hz
  have t1 := True.intro
  have t2 := True.intro
  go_enter Try.func48, Try.ntmps48
  go_wp2_with (first | (have _t := t1; go_at_call 37; refine (H1.out _ (HS.out.step (by repeat (first | exact Below.refl _ _ | apply below_alloc | apply pw_below_drewN | apply below_drew1))).bel).mono ?_; rintro e w1 ⟨rfl, hb⟩; have m_ := Aside0.mk (HS.out.call (by repeat (first | exact Below.refl _ _ | apply below_alloc | apply pw_below_drewN | apply below_drew1)) hb); clear HS hb; have HS := m_; clear m_; have n1 := blk_lt HS.out.now.1; have n2 := blk_lt HS.out.now.2; have c0 : w1.cell? ⟨w.heap.size, 0, none⟩ = some (.int .i64 x0) := HS.out.now.1.cell 0; have c1 : w1.cell? ⟨w.heap.size, 1, none⟩ = some (.int .i64 x1) := HS.out.now.1.cell 1; have c2 : w1.cell? ⟨w.heap.size, 2, none⟩ = some (.int .i64 x2) := HS.out.now.1.cell 2; have c3 : w1.cell? ⟨w.heap.size, 3, none⟩ = some (.int .i64 x3) := HS.out.now.1.cell 3; have k0 : w1.cell? ⟨w.heap.size + 1, 0, none⟩ = some (.int .i64 0) := HS.out.now.2.cell 0; have f0 := HS.out.now.2.frozen 0; have k1 : w1.cell? ⟨w.heap.size + 1, 1, none⟩ = some (.int .i64 0) := HS.out.now.2.cell 1; have f1 := HS.out.now.2.frozen 1; clear t1 _t) | (have _t := t2; go_at_call 37; refine (H2.out _ (HS.out.step (by repeat (first | exact Below.refl _ _ | apply below_alloc | apply pw_below_drewN | apply below_drew1))).bel).mono ?_; rintro e w2 ⟨rfl, hb⟩; have m_ := Aside0.mk (HS.out.call (by repeat (first | exact Below.refl _ _ | apply below_alloc | apply pw_below_drewN | apply below_drew1)) hb); clear HS hb; have HS := m_; clear m_; have n1 := blk_lt HS.out.now.1; have n2 := blk_lt HS.out.now.2; have c0 : w2.cell? ⟨w.heap.size, 0, none⟩ = some (.int .i64 x0) := HS.out.now.1.cell 0; have c1 : w2.cell? ⟨w.heap.size, 1, none⟩ = some (.int .i64 x1) := HS.out.now.1.cell 1; have c2 : w2.cell? ⟨w.heap.size, 2, none⟩ = some (.int .i64 x2) := HS.out.now.1.cell 2; have c3 : w2.cell? ⟨w.heap.size, 3, none⟩ = some (.int .i64 x3) := HS.out.now.1.cell 3; have k0 : w2.cell? ⟨w.heap.size + 1, 0, none⟩ = some (.int .i64 0) := HS.out.now.2.cell 0; have f0 := HS.out.now.2.frozen 0; have k1 : w2.cell? ⟨w.heap.size + 1, 1, none⟩ = some (.int .i64 0) := HS.out.now.2.cell 1; have f1 := HS.out.now.2.frozen 1; clear t2 _t))
  all_goals try (go_step3; go_wp2)
  first | rw [Exit.noGoto_ret] | skip
  refine bodyPost_ret (v := .tuple #[.agg #[.int .i64 0, .int .i64 0], .int .i64 eb]) (by simp [results, Try.results48, go_sem, *]) rfl ⟨rfl, ?_⟩
  have hS := HS.out.bel
  repeat (first | exact hS | apply below_alloc | apply pw_below_drewN | apply below_drew1 | refine Below.setCell ?_ (by simp) _)
set_option maxRecDepth 100000 in
set_option maxHeartbeats 1000000 in
theorem MSpan_rev (p : Option Addr) (x0 x1 x2 x3 va vb : Int) (w : World) (h1 : ∀ W, Below w.heap.size w W → Calls Try.prog 37 #[.pointer p, .agg #[.int .i64 x0, .int .i64 x1]] W fun e W' => e = .returned (.tuple #[.int .i64 va, .int .i64 0]) ∧ Below W.heap.size W W') (h2 : ∀ W, Below w.heap.size w W → Calls Try.prog 37 #[.pointer p, .agg #[.int .i64 x2, .int .i64 x3]] W fun e W' => e = .returned (.tuple #[.int .i64 vb, .int .i64 0]) ∧ Below W.heap.size W W') (hlt : vb < va) : Calls Try.prog 48 #[.pointer p, .agg #[.int .i64 x0, .int .i64 x1, .int .i64 x2, .int .i64 x3]] w fun e w' => e = .returned (.tuple #[.agg #[.int .i64 0, .int .i64 0], .int .i64 2]) ∧ Below w.heap.size w w' := by
  have hb1 := below_alloc (Below.refl _ w) (.cells #[.int .i64 x0, .int .i64 x1, .int .i64 x2, .int .i64 x3] 79)
  have hb2 : Below (w.alloc (.cells #[.int .i64 x0, .int .i64 x1, .int .i64 x2, .int .i64 x3] 79)).heap.size (w.alloc (.cells #[.int .i64 x0, .int .i64 x1, .int .i64 x2, .int .i64 x3] 79)) ((w.alloc (.cells #[.int .i64 x0, .int .i64 x1, .int .i64 x2, .int .i64 x3] 79)).alloc (.cells #[.int .i64 0, .int .i64 0] 35)) := below_alloc (Below.refl _ _) _
  have hg : IsBlk ((w.alloc (.cells #[.int .i64 x0, .int .i64 x1, .int .i64 x2, .int .i64 x3] 79)).alloc (.cells #[.int .i64 0, .int .i64 0] 35)) (w.alloc (.cells #[.int .i64 x0, .int .i64 x1, .int .i64 x2, .int .i64 x3] 79)).heap.size (.cells #[.int .i64 0, .int .i64 0] 35) := blk_new _ _
  rw [World.size_alloc] at hg
  have HS : Aside0 (Sta w ((w.alloc (.cells #[.int .i64 x0, .int .i64 x1, .int .i64 x2, .int .i64 x3] 79)).alloc (.cells #[.int .i64 0, .int .i64 0] 35)) (fun W => IsBlk W w.heap.size (.cells #[.int .i64 x0, .int .i64 x1, .int .i64 x2, .int .i64 x3] 79) ∧ IsBlk W (w.heap.size + 1) (.cells #[.int .i64 0, .int .i64 0] 35))) := ⟨⟨below_step hb1 hb2, ⟨IsBlk.below (blk_new w _) hb2, hg⟩, keeps_and (keeps_blk _ _) (keeps_blk _ _)⟩⟩
  clear hb1 hb2 hg
  have n1 := blk_lt HS.out.now.1
  have n2 := blk_lt HS.out.now.2
  have c0 : ((w.alloc (.cells #[.int .i64 x0, .int .i64 x1, .int .i64 x2, .int .i64 x3] 79)).alloc (.cells #[.int .i64 0, .int .i64 0] 35)).cell? ⟨w.heap.size, 0, none⟩ = some (.int .i64 x0) := HS.out.now.1.cell 0
  have c1 : ((w.alloc (.cells #[.int .i64 x0, .int .i64 x1, .int .i64 x2, .int .i64 x3] 79)).alloc (.cells #[.int .i64 0, .int .i64 0] 35)).cell? ⟨w.heap.size, 1, none⟩ = some (.int .i64 x1) := HS.out.now.1.cell 1
  have c2 : ((w.alloc (.cells #[.int .i64 x0, .int .i64 x1, .int .i64 x2, .int .i64 x3] 79)).alloc (.cells #[.int .i64 0, .int .i64 0] 35)).cell? ⟨w.heap.size, 2, none⟩ = some (.int .i64 x2) := HS.out.now.1.cell 2
  have c3 : ((w.alloc (.cells #[.int .i64 x0, .int .i64 x1, .int .i64 x2, .int .i64 x3] 79)).alloc (.cells #[.int .i64 0, .int .i64 0] 35)).cell? ⟨w.heap.size, 3, none⟩ = some (.int .i64 x3) := HS.out.now.1.cell 3
  have k0 : ((w.alloc (.cells #[.int .i64 x0, .int .i64 x1, .int .i64 x2, .int .i64 x3] 79)).alloc (.cells #[.int .i64 0, .int .i64 0] 35)).cell? ⟨w.heap.size + 1, 0, none⟩ = some (.int .i64 0) := HS.out.now.2.cell 0
  have f0 := HS.out.now.2.frozen 0
  have k1 : ((w.alloc (.cells #[.int .i64 x0, .int .i64 x1, .int .i64 x2, .int .i64 x3] 79)).alloc (.cells #[.int .i64 0, .int .i64 0] 35)).cell? ⟨w.heap.size + 1, 1, none⟩ = some (.int .i64 0) := HS.out.now.2.cell 1
  have f1 := HS.out.now.2.frozen 1
  have H1 := Aside0.mk h1
  clear h1
  have H2 := Aside0.mk h2
  clear h2
  have t1 := True.intro
  have t2 := True.intro
  go_enter Try.func48, Try.ntmps48
  go_wp2_with (first | (have _t := t1; go_at_call 37; refine (H1.out _ (HS.out.step (by repeat (first | exact Below.refl _ _ | apply below_alloc | apply pw_below_drewN | apply below_drew1))).bel).mono ?_; rintro e w1 ⟨rfl, hb⟩; have m_ := Aside0.mk (HS.out.call (by repeat (first | exact Below.refl _ _ | apply below_alloc | apply pw_below_drewN | apply below_drew1)) hb); clear HS hb; have HS := m_; clear m_; have n1 := blk_lt HS.out.now.1; have n2 := blk_lt HS.out.now.2; have c0 : w1.cell? ⟨w.heap.size, 0, none⟩ = some (.int .i64 x0) := HS.out.now.1.cell 0; have c1 : w1.cell? ⟨w.heap.size, 1, none⟩ = some (.int .i64 x1) := HS.out.now.1.cell 1; have c2 : w1.cell? ⟨w.heap.size, 2, none⟩ = some (.int .i64 x2) := HS.out.now.1.cell 2; have c3 : w1.cell? ⟨w.heap.size, 3, none⟩ = some (.int .i64 x3) := HS.out.now.1.cell 3; have k0 : w1.cell? ⟨w.heap.size + 1, 0, none⟩ = some (.int .i64 0) := HS.out.now.2.cell 0; have f0 := HS.out.now.2.frozen 0; have k1 : w1.cell? ⟨w.heap.size + 1, 1, none⟩ = some (.int .i64 0) := HS.out.now.2.cell 1; have f1 := HS.out.now.2.frozen 1; clear t1 _t) | (have _t := t2; go_at_call 37; refine (H2.out _ (HS.out.step (by repeat (first | exact Below.refl _ _ | apply below_alloc | apply pw_below_drewN | apply below_drew1))).bel).mono ?_; rintro e w2 ⟨rfl, hb⟩; have m_ := Aside0.mk (HS.out.call (by repeat (first | exact Below.refl _ _ | apply below_alloc | apply pw_below_drewN | apply below_drew1)) hb); clear HS hb; have HS := m_; clear m_; have n1 := blk_lt HS.out.now.1; have n2 := blk_lt HS.out.now.2; have c0 : w2.cell? ⟨w.heap.size, 0, none⟩ = some (.int .i64 x0) := HS.out.now.1.cell 0; have c1 : w2.cell? ⟨w.heap.size, 1, none⟩ = some (.int .i64 x1) := HS.out.now.1.cell 1; have c2 : w2.cell? ⟨w.heap.size, 2, none⟩ = some (.int .i64 x2) := HS.out.now.1.cell 2; have c3 : w2.cell? ⟨w.heap.size, 3, none⟩ = some (.int .i64 x3) := HS.out.now.1.cell 3; have k0 : w2.cell? ⟨w.heap.size + 1, 0, none⟩ = some (.int .i64 0) := HS.out.now.2.cell 0; have f0 := HS.out.now.2.frozen 0; have k1 : w2.cell? ⟨w.heap.size + 1, 1, none⟩ = some (.int .i64 0) := HS.out.now.2.cell 1; have f1 := HS.out.now.2.frozen 1; clear t2 _t))
  all_goals try (go_step3; go_wp2)
  first | rw [Exit.noGoto_ret] | skip
  refine bodyPost_ret (v := .tuple #[.agg #[.int .i64 0, .int .i64 0], .int .i64 2]) (by simp [results, Try.results48, go_sem, *]) rfl ⟨rfl, ?_⟩
  have hS := HS.out.bel
  repeat (first | exact hS | apply below_alloc | apply pw_below_drewN | apply below_drew1 | refine Below.setCell ?_ (by simp) _)
set_option maxRecDepth 100000 in
set_option maxHeartbeats 1000000 in
theorem MSpan_ok (p : Option Addr) (x0 x1 x2 x3 va vb : Int) (w : World) (h1 : ∀ W, Below w.heap.size w W → Calls Try.prog 37 #[.pointer p, .agg #[.int .i64 x0, .int .i64 x1]] W fun e W' => e = .returned (.tuple #[.int .i64 va, .int .i64 0]) ∧ Below W.heap.size W W') (h2 : ∀ W, Below w.heap.size w W → Calls Try.prog 37 #[.pointer p, .agg #[.int .i64 x2, .int .i64 x3]] W fun e W' => e = .returned (.tuple #[.int .i64 vb, .int .i64 0]) ∧ Below W.heap.size W W') (hlt : va ≤ vb) : Calls Try.prog 48 #[.pointer p, .agg #[.int .i64 x0, .int .i64 x1, .int .i64 x2, .int .i64 x3]] w fun e w' => e = .returned (.tuple #[.agg #[.int .i64 va, .int .i64 vb], .int .i64 0]) ∧ Below w.heap.size w w' := by
  have hb1 := below_alloc (Below.refl _ w) (.cells #[.int .i64 x0, .int .i64 x1, .int .i64 x2, .int .i64 x3] 79)
  have hb2 : Below (w.alloc (.cells #[.int .i64 x0, .int .i64 x1, .int .i64 x2, .int .i64 x3] 79)).heap.size (w.alloc (.cells #[.int .i64 x0, .int .i64 x1, .int .i64 x2, .int .i64 x3] 79)) ((w.alloc (.cells #[.int .i64 x0, .int .i64 x1, .int .i64 x2, .int .i64 x3] 79)).alloc (.cells #[.int .i64 0, .int .i64 0] 35)) := below_alloc (Below.refl _ _) _
  have hg : IsBlk ((w.alloc (.cells #[.int .i64 x0, .int .i64 x1, .int .i64 x2, .int .i64 x3] 79)).alloc (.cells #[.int .i64 0, .int .i64 0] 35)) (w.alloc (.cells #[.int .i64 x0, .int .i64 x1, .int .i64 x2, .int .i64 x3] 79)).heap.size (.cells #[.int .i64 0, .int .i64 0] 35) := blk_new _ _
  rw [World.size_alloc] at hg
  have HS : Aside0 (Sta w ((w.alloc (.cells #[.int .i64 x0, .int .i64 x1, .int .i64 x2, .int .i64 x3] 79)).alloc (.cells #[.int .i64 0, .int .i64 0] 35)) (fun W => IsBlk W w.heap.size (.cells #[.int .i64 x0, .int .i64 x1, .int .i64 x2, .int .i64 x3] 79) ∧ IsBlk W (w.heap.size + 1) (.cells #[.int .i64 0, .int .i64 0] 35))) := ⟨⟨below_step hb1 hb2, ⟨IsBlk.below (blk_new w _) hb2, hg⟩, keeps_and (keeps_blk _ _) (keeps_blk _ _)⟩⟩
  clear hb1 hb2 hg
  have n1 := blk_lt HS.out.now.1
  have n2 := blk_lt HS.out.now.2
  have c0 : ((w.alloc (.cells #[.int .i64 x0, .int .i64 x1, .int .i64 x2, .int .i64 x3] 79)).alloc (.cells #[.int .i64 0, .int .i64 0] 35)).cell? ⟨w.heap.size, 0, none⟩ = some (.int .i64 x0) := HS.out.now.1.cell 0
  have c1 : ((w.alloc (.cells #[.int .i64 x0, .int .i64 x1, .int .i64 x2, .int .i64 x3] 79)).alloc (.cells #[.int .i64 0, .int .i64 0] 35)).cell? ⟨w.heap.size, 1, none⟩ = some (.int .i64 x1) := HS.out.now.1.cell 1
  have c2 : ((w.alloc (.cells #[.int .i64 x0, .int .i64 x1, .int .i64 x2, .int .i64 x3] 79)).alloc (.cells #[.int .i64 0, .int .i64 0] 35)).cell? ⟨w.heap.size, 2, none⟩ = some (.int .i64 x2) := HS.out.now.1.cell 2
  have c3 : ((w.alloc (.cells #[.int .i64 x0, .int .i64 x1, .int .i64 x2, .int .i64 x3] 79)).alloc (.cells #[.int .i64 0, .int .i64 0] 35)).cell? ⟨w.heap.size, 3, none⟩ = some (.int .i64 x3) := HS.out.now.1.cell 3
  have k0 : ((w.alloc (.cells #[.int .i64 x0, .int .i64 x1, .int .i64 x2, .int .i64 x3] 79)).alloc (.cells #[.int .i64 0, .int .i64 0] 35)).cell? ⟨w.heap.size + 1, 0, none⟩ = some (.int .i64 0) := HS.out.now.2.cell 0
  have f0 := HS.out.now.2.frozen 0
  have k1 : ((w.alloc (.cells #[.int .i64 x0, .int .i64 x1, .int .i64 x2, .int .i64 x3] 79)).alloc (.cells #[.int .i64 0, .int .i64 0] 35)).cell? ⟨w.heap.size + 1, 1, none⟩ = some (.int .i64 0) := HS.out.now.2.cell 1
  have f1 := HS.out.now.2.frozen 1
  have H1 := Aside0.mk h1
  clear h1
  have H2 := Aside0.mk h2
  clear h2
  have t1 := True.intro
  have t2 := True.intro
  go_enter Try.func48, Try.ntmps48
  go_wp2_with (first | (have _t := t1; go_at_call 37; refine (H1.out _ (HS.out.step (by repeat (first | exact Below.refl _ _ | apply below_alloc | apply pw_below_drewN | apply below_drew1))).bel).mono ?_; rintro e w1 ⟨rfl, hb⟩; have m_ := Aside0.mk (HS.out.call (by repeat (first | exact Below.refl _ _ | apply below_alloc | apply pw_below_drewN | apply below_drew1)) hb); clear HS hb; have HS := m_; clear m_; have n1 := blk_lt HS.out.now.1; have n2 := blk_lt HS.out.now.2; have c0 : w1.cell? ⟨w.heap.size, 0, none⟩ = some (.int .i64 x0) := HS.out.now.1.cell 0; have c1 : w1.cell? ⟨w.heap.size, 1, none⟩ = some (.int .i64 x1) := HS.out.now.1.cell 1; have c2 : w1.cell? ⟨w.heap.size, 2, none⟩ = some (.int .i64 x2) := HS.out.now.1.cell 2; have c3 : w1.cell? ⟨w.heap.size, 3, none⟩ = some (.int .i64 x3) := HS.out.now.1.cell 3; have k0 : w1.cell? ⟨w.heap.size + 1, 0, none⟩ = some (.int .i64 0) := HS.out.now.2.cell 0; have f0 := HS.out.now.2.frozen 0; have k1 : w1.cell? ⟨w.heap.size + 1, 1, none⟩ = some (.int .i64 0) := HS.out.now.2.cell 1; have f1 := HS.out.now.2.frozen 1; clear t1 _t) | (have _t := t2; go_at_call 37; refine (H2.out _ (HS.out.step (by repeat (first | exact Below.refl _ _ | apply below_alloc | apply pw_below_drewN | apply below_drew1))).bel).mono ?_; rintro e w2 ⟨rfl, hb⟩; have m_ := Aside0.mk (HS.out.call (by repeat (first | exact Below.refl _ _ | apply below_alloc | apply pw_below_drewN | apply below_drew1)) hb); clear HS hb; have HS := m_; clear m_; have n1 := blk_lt HS.out.now.1; have n2 := blk_lt HS.out.now.2; have c0 : w2.cell? ⟨w.heap.size, 0, none⟩ = some (.int .i64 x0) := HS.out.now.1.cell 0; have c1 : w2.cell? ⟨w.heap.size, 1, none⟩ = some (.int .i64 x1) := HS.out.now.1.cell 1; have c2 : w2.cell? ⟨w.heap.size, 2, none⟩ = some (.int .i64 x2) := HS.out.now.1.cell 2; have c3 : w2.cell? ⟨w.heap.size, 3, none⟩ = some (.int .i64 x3) := HS.out.now.1.cell 3; have k0 : w2.cell? ⟨w.heap.size + 1, 0, none⟩ = some (.int .i64 0) := HS.out.now.2.cell 0; have f0 := HS.out.now.2.frozen 0; have k1 : w2.cell? ⟨w.heap.size + 1, 1, none⟩ = some (.int .i64 0) := HS.out.now.2.cell 1; have f1 := HS.out.now.2.frozen 1; clear t2 _t))
  all_goals try (go_step3; go_wp2)
  first | rw [Exit.noGoto_ret] | skip
  refine bodyPost_ret (v := .tuple #[.agg #[.int .i64 va, .int .i64 vb], .int .i64 0]) (by simp [results, Try.results48, go_sem, *]) rfl ⟨rfl, ?_⟩
  have hS := HS.out.bel
  repeat (first | exact hS | apply below_alloc | apply pw_below_drewN | apply below_drew1 | refine Below.setCell ?_ (by simp) _)

set_option maxRecDepth 100000 in
set_option maxHeartbeats 1000000 in
theorem MRange_e1 (p : Option Addr) (x0 x1 a ca ea : Int) (w : World) (h1 : ∀ W, Below w.heap.size w W → Calls Try.prog 39 #[.pointer p, .int .i64 x0] W fun e W' => e = .returned (.tuple #[.agg #[.int .i64 a, .int .i64 ca], .int .i64 ea]) ∧ Below W.heap.size W W') (hz : ea ≠ 0) : Calls Try.prog 50 #[.pointer p, .agg #[.int .i64 x0, .int .i64 x1]] w fun e w' => e = .returned (.tuple #[.agg #[.int .i64 0, .int .i64 0, .int .i64 0, .int .i64 0], .int .i64 ea]) ∧ Below w.heap.size w w' := by
  have hb1 := below_alloc (Below.refl _ w) (.cells #[.int .i64 x0, .int .i64 x1] 35)
  have hb2 : Below (w.alloc (.cells #[.int .i64 x0, .int .i64 x1] 35)).heap.size (w.alloc (.cells #[.int .i64 x0, .int .i64 x1] 35)) ((w.alloc (.cells #[.int .i64 x0, .int .i64 x1] 35)).alloc (.cells #[.int .i64 0, .int .i64 0, .int .i64 0, .int .i64 0] 79)) := below_alloc (Below.refl _ _) _
  have hg : IsBlk ((w.alloc (.cells #[.int .i64 x0, .int .i64 x1] 35)).alloc (.cells #[.int .i64 0, .int .i64 0, .int .i64 0, .int .i64 0] 79)) (w.alloc (.cells #[.int .i64 x0, .int .i64 x1] 35)).heap.size (.cells #[.int .i64 0, .int .i64 0, .int .i64 0, .int .i64 0] 79) := blk_new _ _
  rw [World.size_alloc] at hg
  have HS : Aside0 (Sta w ((w.alloc (.cells #[.int .i64 x0, .int .i64 x1] 35)).alloc (.cells #[.int .i64 0, .int .i64 0, .int .i64 0, .int .i64 0] 79)) (fun W => IsBlk W w.heap.size (.cells #[.int .i64 x0, .int .i64 x1] 35) ∧ IsBlk W (w.heap.size + 1) (.cells #[.int .i64 0, .int .i64 0, .int .i64 0, .int .i64 0] 79))) := ⟨⟨below_step hb1 hb2, ⟨IsBlk.below (blk_new w _) hb2, hg⟩, keeps_and (keeps_blk _ _) (keeps_blk _ _)⟩⟩
  clear hb1 hb2 hg
  have n1 := blk_lt HS.out.now.1
  have n2 := blk_lt HS.out.now.2
  have c0 : ((w.alloc (.cells #[.int .i64 x0, .int .i64 x1] 35)).alloc (.cells #[.int .i64 0, .int .i64 0, .int .i64 0, .int .i64 0] 79)).cell? ⟨w.heap.size, 0, none⟩ = some (.int .i64 x0) := HS.out.now.1.cell 0
  have c1 : ((w.alloc (.cells #[.int .i64 x0, .int .i64 x1] 35)).alloc (.cells #[.int .i64 0, .int .i64 0, .int .i64 0, .int .i64 0] 79)).cell? ⟨w.heap.size, 1, none⟩ = some (.int .i64 x1) := HS.out.now.1.cell 1
  have k0 : ((w.alloc (.cells #[.int .i64 x0, .int .i64 x1] 35)).alloc (.cells #[.int .i64 0, .int .i64 0, .int .i64 0, .int .i64 0] 79)).cell? ⟨w.heap.size + 1, 0, none⟩ = some (.int .i64 0) := HS.out.now.2.cell 0
  have f0 := HS.out.now.2.frozen 0
  have k1 : ((w.alloc (.cells #[.int .i64 x0, .int .i64 x1] 35)).alloc (.cells #[.int .i64 0, .int .i64 0, .int .i64 0, .int .i64 0] 79)).cell? ⟨w.heap.size + 1, 1, none⟩ = some (.int .i64 0) := HS.out.now.2.cell 1
  have f1 := HS.out.now.2.frozen 1
  have k2 : ((w.alloc (.cells #[.int .i64 x0, .int .i64 x1] 35)).alloc (.cells #[.int .i64 0, .int .i64 0, .int .i64 0, .int .i64 0] 79)).cell? ⟨w.heap.size + 1, 2, none⟩ = some (.int .i64 0) := HS.out.now.2.cell 2
  have f2 := HS.out.now.2.frozen 2
  have k3 : ((w.alloc (.cells #[.int .i64 x0, .int .i64 x1] 35)).alloc (.cells #[.int .i64 0, .int .i64 0, .int .i64 0, .int .i64 0] 79)).cell? ⟨w.heap.size + 1, 3, none⟩ = some (.int .i64 0) := HS.out.now.2.cell 3
  have f3 := HS.out.now.2.frozen 3
  have H1 := Aside0.mk h1
  clear h1
  have hz1 : (ea != 0) = true := bne_iff_ne.mpr hz
  clear hz
  have t1 := True.intro
  have t2 := True.intro
  go_enter Try.func50, Try.ntmps50
  go_wp2_with (have _t := t1; go_at_call 39; refine (H1.out _ (HS.out.step (by repeat (first | exact Below.refl _ _ | apply below_alloc | apply pw_below_drewN | apply below_drew1))).bel).mono ?_; rintro e w1 ⟨rfl, hb⟩; have m_ := Aside0.mk (HS.out.call (by repeat (first | exact Below.refl _ _ | apply below_alloc | apply pw_below_drewN | apply below_drew1)) hb); clear HS hb; have HS := m_; clear m_; have n1 := blk_lt HS.out.now.1; have n2 := blk_lt HS.out.now.2; have c0 : w1.cell? ⟨w.heap.size, 0, none⟩ = some (.int .i64 x0) := HS.out.now.1.cell 0; have c1 : w1.cell? ⟨w.heap.size, 1, none⟩ = some (.int .i64 x1) := HS.out.now.1.cell 1; have k0 : w1.cell? ⟨w.heap.size + 1, 0, none⟩ = some (.int .i64 0) := HS.out.now.2.cell 0; have f0 := HS.out.now.2.frozen 0; have k1 : w1.cell? ⟨w.heap.size + 1, 1, none⟩ = some (.int .i64 0) := HS.out.now.2.cell 1; have f1 := HS.out.now.2.frozen 1; have k2 : w1.cell? ⟨w.heap.size + 1, 2, none⟩ = some (.int .i64 0) := HS.out.now.2.cell 2; have f2 := HS.out.now.2.frozen 2; have k3 : w1.cell? ⟨w.heap.size + 1, 3, none⟩ = some (.int .i64 0) := HS.out.now.2.cell 3; have f3 := HS.out.now.2.frozen 3; have c0a := cell_alloc1 c0; have c1a := cell_alloc1 c1; have k0a := cell_alloc1 k0; have f0a := froz_alloc1 k0 f0; have k1a := cell_alloc1 k1; have f1a := froz_alloc1 k1 f1; have k2a := cell_alloc1 k2; have f2a := froz_alloc1 k2 f2; have k3a := cell_alloc1 k3; have f3a := froz_alloc1 k3 f3; clear t1 _t)
  all_goals try (go_step3; go_wp2)
  first | rw [Exit.noGoto_ret] | skip
  refine bodyPost_ret (v := .tuple #[.agg #[.int .i64 0, .int .i64 0, .int .i64 0, .int .i64 0], .int .i64 ea]) (by simp [results, Try.results50, go_sem, *]) rfl ⟨rfl, ?_⟩
  have hS := HS.out.bel
  repeat (first | exact hS | apply below_alloc | apply pw_below_drewN | apply below_drew1 | refine Below.setCell ?_ (by simp) _)
set_option maxRecDepth 100000 in
set_option maxHeartbeats 1000000 in
theorem MRange_e2 (p : Option Addr) (x0 x1 a ca b cb eb : Int) (w : World) (h1 : ∀ W, Below w.heap.size w W → Calls Try.prog 39 #[.pointer p, .int .i64 x0] W fun e W' => e = .returned (.tuple #[.agg #[.int .i64 a, .int .i64 ca], .int .i64 0]) ∧ Below W.heap.size W W') (h2 : ∀ W, Below w.heap.size w W → Calls Try.prog 39 #[.pointer p, .int .i64 x1] W fun e W' => e = .returned (.tuple #[.agg #[.int .i64 b, .int .i64 cb], .int .i64 eb]) ∧ Below W.heap.size W W') (hz : eb ≠ 0) : Calls Try.prog 50 #[.pointer p, .agg #[.int .i64 x0, .int .i64 x1]] w fun e w' => e = .returned (.tuple #[.agg #[.int .i64 0, .int .i64 0, .int .i64 0, .int .i64 0], .int .i64 eb]) ∧ Below w.heap.size w w' := by
  have hb1 := below_alloc (Below.refl _ w) (.cells #[.int .i64 x0, .int .i64 x1] 35)
  have hb2 : Below (w.alloc (.cells #[.int .i64 x0, .int .i64 x1] 35)).heap.size (w.alloc (.cells #[.int .i64 x0, .int .i64 x1] 35)) ((w.alloc (.cells #[.int .i64 x0, .int .i64 x1] 35)).alloc (.cells #[.int .i64 0, .int .i64 0, .int .i64 0, .int .i64 0] 79)) := below_alloc (Below.refl _ _) _
  have hg : IsBlk ((w.alloc (.cells #[.int .i64 x0, .int .i64 x1] 35)).alloc (.cells #[.int .i64 0, .int .i64 0, .int .i64 0, .int .i64 0] 79)) (w.alloc (.cells #[.int .i64 x0, .int .i64 x1] 35)).heap.size (.cells #[.int .i64 0, .int .i64 0, .int .i64 0, .int .i64 0] 79) := blk_new _ _
  rw [World.size_alloc] at hg
  have HS : Aside0 (Sta w ((w.alloc (.cells #[.int .i64 x0, .int .i64 x1] 35)).alloc (.cells #[.int .i64 0, .int .i64 0, .int .i64 0, .int .i64 0] 79)) (fun W => IsBlk W w.heap.size (.cells #[.int .i64 x0, .int .i64 x1] 35) ∧ IsBlk W (w.heap.size + 1) (.cells #[.int .i64 0, .int .i64 0, .int .i64 0, .int .i64 0] 79))) := ⟨⟨below_step hb1 hb2, ⟨IsBlk.below (blk_new w _) hb2, hg⟩, keeps_and (keeps_blk _ _) (keeps_blk _ _)⟩⟩
  clear hb1 hb2 hg
  have n1 := blk_lt HS.out.now.1
  have n2 := blk_lt HS.out.now.2
  have c0 : ((w.alloc (.cells #[.int .i64 x0, .int .i64 x1] 35)).alloc (.cells #[.int .i64 0, .int .i64 0, .int .i64 0, .int .i64 0] 79)).cell? ⟨w.heap.size, 0, none⟩ = some (.int .i64 x0) := HS.out.now.1.cell 0
  have c1 : ((w.alloc (.cells #[.int .i64 x0, .int .i64 x1] 35)).alloc (.cells #[.int .i64 0, .int .i64 0, .int .i64 0, .int .i64 0] 79)).cell? ⟨w.heap.size, 1, none⟩ = some (.int .i64 x1) := HS.out.now.1.cell 1
  have k0 : ((w.alloc (.cells #[.int .i64 x0, .int .i64 x1] 35)).alloc (.cells #[.int .i64 0, .int .i64 0, .int .i64 0, .int .i64 0] 79)).cell? ⟨w.heap.size + 1, 0, none⟩ = some (.int .i64 0) := HS.out.now.2.cell 0
  have f0 := HS.out.now.2.frozen 0
  have k1 : ((w.alloc (.cells #[.int .i64 x0, .int .i64 x1] 35)).alloc (.cells #[.int .i64 0, .int .i64 0, .int .i64 0, .int .i64 0] 79)).cell? ⟨w.heap.size + 1, 1, none⟩ = some (.int .i64 0) := HS.out.now.2.cell 1
  have f1 := HS.out.now.2.frozen 1
  have k2 : ((w.alloc (.cells #[.int .i64 x0, .int .i64 x1] 35)).alloc (.cells #[.int .i64 0, .int .i64 0, .int .i64 0, .int .i64 0] 79)).cell? ⟨w.heap.size + 1, 2, none⟩ = some (.int .i64 0) := HS.out.now.2.cell 2
  have f2 := HS.out.now.2.frozen 2
  have k3 : ((w.alloc (.cells #[.int .i64 x0, .int .i64 x1] 35)).alloc (.cells #[.int .i64 0, .int .i64 0, .int .i64 0, .int .i64 0] 79)).cell? ⟨w.heap.size + 1, 3, none⟩ = some (.int .i64 0) := HS.out.now.2.cell 3
  have f3 := HS.out.now.2.frozen 3
  have H1 := Aside0.mk h1
  clear h1
  have H2 := Aside0.mk h2
  clear h2
  have hz1 : (eb != 0) = true := bne_iff_ne.mpr hz
  clear hz
  have t1 := True.intro
  have t2 := True.intro
  go_enter Try.func50, Try.ntmps50
  go_wp2_with (first | (have _t := t1; go_at_call 39; refine (H1.out _ (HS.out.step (by repeat (first | exact Below.refl _ _ | apply below_alloc | apply pw_below_drewN | apply below_drew1))).bel).mono ?_; rintro e w1 ⟨rfl, hb⟩; have m_ := Aside0.mk (HS.out.call (by repeat (first | exact Below.refl _ _ | apply below_alloc | apply pw_below_drewN | apply below_drew1)) hb); clear HS hb; have HS := m_; clear m_; have n1 := blk_lt HS.out.now.1; have n2 := blk_lt HS.out.now.2; have c0 : w1.cell? ⟨w.heap.size, 0, none⟩ = some (.int .i64 x0) := HS.out.now.1.cell 0; have c1 : w1.cell? ⟨w.heap.size, 1, none⟩ = some (.int .i64 x1) := HS.out.now.1.cell 1; have k0 : w1.cell? ⟨w.heap.size + 1, 0, none⟩ = some (.int .i64 0) := HS.out.now.2.cell 0; have f0 := HS.out.now.2.frozen 0; have k1 : w1.cell? ⟨w.heap.size + 1, 1, none⟩ = some (.int .i64 0) := HS.out.now.2.cell 1; have f1 := HS.out.now.2.frozen 1; have k2 : w1.cell? ⟨w.heap.size + 1, 2, none⟩ = some (.int .i64 0) := HS.out.now.2.cell 2; have f2 := HS.out.now.2.frozen 2; have k3 : w1.cell? ⟨w.heap.size + 1, 3, none⟩ = some (.int .i64 0) := HS.out.now.2.cell 3; have f3 := HS.out.now.2.frozen 3; have c0a := cell_alloc1 c0; have c1a := cell_alloc1 c1; have k0a := cell_alloc1 k0; have f0a := froz_alloc1 k0 f0; have k1a := cell_alloc1 k1; have f1a := froz_alloc1 k1 f1; have k2a := cell_alloc1 k2; have f2a := froz_alloc1 k2 f2; have k3a := cell_alloc1 k3; have f3a := froz_alloc1 k3 f3; clear t1 _t) | (have _t := t2; go_at_call 39; refine (H2.out _ (HS.out.step (by repeat (first | exact Below.refl _ _ | apply below_alloc | apply pw_below_drewN | apply below_drew1))).bel).mono ?_; rintro e w2 ⟨rfl, hb⟩; have hp0 := cell_below ((blk_cell (blk_new w1 (.cells #[.int .i64 a, .int .i64 ca] 58)) 0).trans rfl) hb; have hp1 := cell_below ((blk_cell (blk_new w1 (.cells #[.int .i64 a, .int .i64 ca] 58)) 1).trans rfl) hb; have hp0a := cell_alloc1 hp0; have hp1a := cell_alloc1 hp1; have m_ := Aside0.mk (HS.out.call (by repeat (first | exact Below.refl _ _ | apply below_alloc | apply pw_below_drewN | apply below_drew1)) hb); clear HS hb; have HS := m_; clear m_; have n1 := blk_lt HS.out.now.1; have n2 := blk_lt HS.out.now.2; have c0 : w2.cell? ⟨w.heap.size, 0, none⟩ = some (.int .i64 x0) := HS.out.now.1.cell 0; have c1 : w2.cell? ⟨w.heap.size, 1, none⟩ = some (.int .i64 x1) := HS.out.now.1.cell 1; have k0 : w2.cell? ⟨w.heap.size + 1, 0, none⟩ = some (.int .i64 0) := HS.out.now.2.cell 0; have f0 := HS.out.now.2.frozen 0; have k1 : w2.cell? ⟨w.heap.size + 1, 1, none⟩ = some (.int .i64 0) := HS.out.now.2.cell 1; have f1 := HS.out.now.2.frozen 1; have k2 : w2.cell? ⟨w.heap.size + 1, 2, none⟩ = some (.int .i64 0) := HS.out.now.2.cell 2; have f2 := HS.out.now.2.frozen 2; have k3 : w2.cell? ⟨w.heap.size + 1, 3, none⟩ = some (.int .i64 0) := HS.out.now.2.cell 3; have f3 := HS.out.now.2.frozen 3; have c0a := cell_alloc1 c0; have c1a := cell_alloc1 c1; have k0a := cell_alloc1 k0; have f0a := froz_alloc1 k0 f0; have k1a := cell_alloc1 k1; have f1a := froz_alloc1 k1 f1; have k2a := cell_alloc1 k2; have f2a := froz_alloc1 k2 f2; have k3a := cell_alloc1 k3; have f3a := froz_alloc1 k3 f3; clear t2 _t))
  all_goals try (go_step3; go_wp2)
  first | rw [Exit.noGoto_ret] | skip
  refine bodyPost_ret (v := .tuple #[.agg #[.int .i64 0, .int .i64 0, .int .i64 0, .int .i64 0], .int .i64 eb]) (by simp [results, Try.results50, go_sem, *]) rfl ⟨rfl, ?_⟩
  have hS := HS.out.bel
  repeat (first | exact hS | apply below_alloc | apply pw_below_drewN | apply below_drew1 | refine Below.setCell ?_ (by simp) _)
set_option maxRecDepth 100000 in
set_option maxHeartbeats 1000000 in
theorem MRange_rev (p : Option Addr) (x0 x1 a ca b cb : Int) (w : World) (h1 : ∀ W, Below w.heap.size w W → Calls Try.prog 39 #[.pointer p, .int .i64 x0] W fun e W' => e = .returned (.tuple #[.agg #[.int .i64 a, .int .i64 ca], .int .i64 0]) ∧ Below W.heap.size W W') (h2 : ∀ W, Below w.heap.size w W → Calls Try.prog 39 #[.pointer p, .int .i64 x1] W fun e W' => e = .returned (.tuple #[.agg #[.int .i64 b, .int .i64 cb], .int .i64 0]) ∧ Below W.heap.size W W') (hlt : x1 < x0) : Calls Try.prog 50 #[.pointer p, .agg #[.int .i64 x0, .int .i64 x1]] w fun e w' => e = .returned (.tuple #[.agg #[.int .i64 0, .int .i64 0, .int .i64 0, .int .i64 0], .int .i64 2]) ∧ Below w.heap.size w w' := by
  have hb1 := below_alloc (Below.refl _ w) (.cells #[.int .i64 x0, .int .i64 x1] 35)
  have hb2 : Below (w.alloc (.cells #[.int .i64 x0, .int .i64 x1] 35)).heap.size (w.alloc (.cells #[.int .i64 x0, .int .i64 x1] 35)) ((w.alloc (.cells #[.int .i64 x0, .int .i64 x1] 35)).alloc (.cells #[.int .i64 0, .int .i64 0, .int .i64 0, .int .i64 0] 79)) := below_alloc (Below.refl _ _) _
  have hg : IsBlk ((w.alloc (.cells #[.int .i64 x0, .int .i64 x1] 35)).alloc (.cells #[.int .i64 0, .int .i64 0, .int .i64 0, .int .i64 0] 79)) (w.alloc (.cells #[.int .i64 x0, .int .i64 x1] 35)).heap.size (.cells #[.int .i64 0, .int .i64 0, .int .i64 0, .int .i64 0] 79) := blk_new _ _
  rw [World.size_alloc] at hg
  have HS : Aside0 (Sta w ((w.alloc (.cells #[.int .i64 x0, .int .i64 x1] 35)).alloc (.cells #[.int .i64 0, .int .i64 0, .int .i64 0, .int .i64 0] 79)) (fun W => IsBlk W w.heap.size (.cells #[.int .i64 x0, .int .i64 x1] 35) ∧ IsBlk W (w.heap.size + 1) (.cells #[.int .i64 0, .int .i64 0, .int .i64 0, .int .i64 0] 79))) := ⟨⟨below_step hb1 hb2, ⟨IsBlk.below (blk_new w _) hb2, hg⟩, keeps_and (keeps_blk _ _) (keeps_blk _ _)⟩⟩
  clear hb1 hb2 hg
  have n1 := blk_lt HS.out.now.1
  have n2 := blk_lt HS.out.now.2
  have c0 : ((w.alloc (.cells #[.int .i64 x0, .int .i64 x1] 35)).alloc (.cells #[.int .i64 0, .int .i64 0, .int .i64 0, .int .i64 0] 79)).cell? ⟨w.heap.size, 0, none⟩ = some (.int .i64 x0) := HS.out.now.1.cell 0
  have c1 : ((w.alloc (.cells #[.int .i64 x0, .int .i64 x1] 35)).alloc (.cells #[.int .i64 0, .int .i64 0, .int .i64 0, .int .i64 0] 79)).cell? ⟨w.heap.size, 1, none⟩ = some (.int .i64 x1) := HS.out.now.1.cell 1
  have k0 : ((w.alloc (.cells #[.int .i64 x0, .int .i64 x1] 35)).alloc (.cells #[.int .i64 0, .int .i64 0, .int .i64 0, .int .i64 0] 79)).cell? ⟨w.heap.size + 1, 0, none⟩ = some (.int .i64 0) := HS.out.now.2.cell 0
  have f0 := HS.out.now.2.frozen 0
  have k1 : ((w.alloc (.cells #[.int .i64 x0, .int .i64 x1] 35)).alloc (.cells #[.int .i64 0, .int .i64 0, .int .i64 0, .int .i64 0] 79)).cell? ⟨w.heap.size + 1, 1, none⟩ = some (.int .i64 0) := HS.out.now.2.cell 1
  have f1 := HS.out.now.2.frozen 1
  have k2 : ((w.alloc (.cells #[.int .i64 x0, .int .i64 x1] 35)).alloc (.cells #[.int .i64 0, .int .i64 0, .int .i64 0, .int .i64 0] 79)).cell? ⟨w.heap.size + 1, 2, none⟩ = some (.int .i64 0) := HS.out.now.2.cell 2
  have f2 := HS.out.now.2.frozen 2
  have k3 : ((w.alloc (.cells #[.int .i64 x0, .int .i64 x1] 35)).alloc (.cells #[.int .i64 0, .int .i64 0, .int .i64 0, .int .i64 0] 79)).cell? ⟨w.heap.size + 1, 3, none⟩ = some (.int .i64 0) := HS.out.now.2.cell 3
  have f3 := HS.out.now.2.frozen 3
  have H1 := Aside0.mk h1
  clear h1
  have H2 := Aside0.mk h2
  clear h2
  have t1 := True.intro
  have t2 := True.intro
  go_enter Try.func50, Try.ntmps50
  go_wp2_with (first | (have _t := t1; go_at_call 39; refine (H1.out _ (HS.out.step (by repeat (first | exact Below.refl _ _ | apply below_alloc | apply pw_below_drewN | apply below_drew1))).bel).mono ?_; rintro e w1 ⟨rfl, hb⟩; have m_ := Aside0.mk (HS.out.call (by repeat (first | exact Below.refl _ _ | apply below_alloc | apply pw_below_drewN | apply below_drew1)) hb); clear HS hb; have HS := m_; clear m_; have n1 := blk_lt HS.out.now.1; have n2 := blk_lt HS.out.now.2; have c0 : w1.cell? ⟨w.heap.size, 0, none⟩ = some (.int .i64 x0) := HS.out.now.1.cell 0; have c1 : w1.cell? ⟨w.heap.size, 1, none⟩ = some (.int .i64 x1) := HS.out.now.1.cell 1; have k0 : w1.cell? ⟨w.heap.size + 1, 0, none⟩ = some (.int .i64 0) := HS.out.now.2.cell 0; have f0 := HS.out.now.2.frozen 0; have k1 : w1.cell? ⟨w.heap.size + 1, 1, none⟩ = some (.int .i64 0) := HS.out.now.2.cell 1; have f1 := HS.out.now.2.frozen 1; have k2 : w1.cell? ⟨w.heap.size + 1, 2, none⟩ = some (.int .i64 0) := HS.out.now.2.cell 2; have f2 := HS.out.now.2.frozen 2; have k3 : w1.cell? ⟨w.heap.size + 1, 3, none⟩ = some (.int .i64 0) := HS.out.now.2.cell 3; have f3 := HS.out.now.2.frozen 3; have c0a := cell_alloc1 c0; have c1a := cell_alloc1 c1; have k0a := cell_alloc1 k0; have f0a := froz_alloc1 k0 f0; have k1a := cell_alloc1 k1; have f1a := froz_alloc1 k1 f1; have k2a := cell_alloc1 k2; have f2a := froz_alloc1 k2 f2; have k3a := cell_alloc1 k3; have f3a := froz_alloc1 k3 f3; clear t1 _t) | (have _t := t2; go_at_call 39; refine (H2.out _ (HS.out.step (by repeat (first | exact Below.refl _ _ | apply below_alloc | apply pw_below_drewN | apply below_drew1))).bel).mono ?_; rintro e w2 ⟨rfl, hb⟩; have hp0 := cell_below ((blk_cell (blk_new w1 (.cells #[.int .i64 a, .int .i64 ca] 58)) 0).trans rfl) hb; have hp1 := cell_below ((blk_cell (blk_new w1 (.cells #[.int .i64 a, .int .i64 ca] 58)) 1).trans rfl) hb; have hp0a := cell_alloc1 hp0; have hp1a := cell_alloc1 hp1; have m_ := Aside0.mk (HS.out.call (by repeat (first | exact Below.refl _ _ | apply below_alloc | apply pw_below_drewN | apply below_drew1)) hb); clear HS hb; have HS := m_; clear m_; have n1 := blk_lt HS.out.now.1; have n2 := blk_lt HS.out.now.2; have c0 : w2.cell? ⟨w.heap.size, 0, none⟩ = some (.int .i64 x0) := HS.out.now.1.cell 0; have c1 : w2.cell? ⟨w.heap.size, 1, none⟩ = some (.int .i64 x1) := HS.out.now.1.cell 1; have k0 : w2.cell? ⟨w.heap.size + 1, 0, none⟩ = some (.int .i64 0) := HS.out.now.2.cell 0; have f0 := HS.out.now.2.frozen 0; have k1 : w2.cell? ⟨w.heap.size + 1, 1, none⟩ = some (.int .i64 0) := HS.out.now.2.cell 1; have f1 := HS.out.now.2.frozen 1; have k2 : w2.cell? ⟨w.heap.size + 1, 2, none⟩ = some (.int .i64 0) := HS.out.now.2.cell 2; have f2 := HS.out.now.2.frozen 2; have k3 : w2.cell? ⟨w.heap.size + 1, 3, none⟩ = some (.int .i64 0) := HS.out.now.2.cell 3; have f3 := HS.out.now.2.frozen 3; have c0a := cell_alloc1 c0; have c1a := cell_alloc1 c1; have k0a := cell_alloc1 k0; have f0a := froz_alloc1 k0 f0; have k1a := cell_alloc1 k1; have f1a := froz_alloc1 k1 f1; have k2a := cell_alloc1 k2; have f2a := froz_alloc1 k2 f2; have k3a := cell_alloc1 k3; have f3a := froz_alloc1 k3 f3; clear t2 _t))
  all_goals try (go_step3; go_wp2)
  first | rw [Exit.noGoto_ret] | skip
  refine bodyPost_ret (v := .tuple #[.agg #[.int .i64 0, .int .i64 0, .int .i64 0, .int .i64 0], .int .i64 2]) (by simp [results, Try.results50, go_sem, *]) rfl ⟨rfl, ?_⟩
  have hS := HS.out.bel
  repeat (first | exact hS | apply below_alloc | apply pw_below_drewN | apply below_drew1 | refine Below.setCell ?_ (by simp) _)
set_option maxRecDepth 100000 in
set_option maxHeartbeats 1000000 in
theorem MRange_ok (p : Option Addr) (x0 x1 a ca b cb : Int) (w : World) (h1 : ∀ W, Below w.heap.size w W → Calls Try.prog 39 #[.pointer p, .int .i64 x0] W fun e W' => e = .returned (.tuple #[.agg #[.int .i64 a, .int .i64 ca], .int .i64 0]) ∧ Below W.heap.size W W') (h2 : ∀ W, Below w.heap.size w W → Calls Try.prog 39 #[.pointer p, .int .i64 x1] W fun e W' => e = .returned (.tuple #[.agg #[.int .i64 b, .int .i64 cb], .int .i64 0]) ∧ Below W.heap.size W W') (hlt : x0 ≤ x1) : Calls Try.prog 50 #[.pointer p, .agg #[.int .i64 x0, .int .i64 x1]] w fun e w' => e = .returned (.tuple #[.agg #[.int .i64 a, .int .i64 ca, .int .i64 b, .int .i64 cb], .int .i64 0]) ∧ Below w.heap.size w w' := by
  have hb1 := below_alloc (Below.refl _ w) (.cells #[.int .i64 x0, .int .i64 x1] 35)
  have hb2 : Below (w.alloc (.cells #[.int .i64 x0, .int .i64 x1] 35)).heap.size (w.alloc (.cells #[.int .i64 x0, .int .i64 x1] 35)) ((w.alloc (.cells #[.int .i64 x0, .int .i64 x1] 35)).alloc (.cells #[.int .i64 0, .int .i64 0, .int .i64 0, .int .i64 0] 79)) := below_alloc (Below.refl _ _) _
  have hg : IsBlk ((w.alloc (.cells #[.int .i64 x0, .int .i64 x1] 35)).alloc (.cells #[.int .i64 0, .int .i64 0, .int .i64 0, .int .i64 0] 79)) (w.alloc (.cells #[.int .i64 x0, .int .i64 x1] 35)).heap.size (.cells #[.int .i64 0, .int .i64 0, .int .i64 0, .int .i64 0] 79) := blk_new _ _
  rw [World.size_alloc] at hg
  have HS : Aside0 (Sta w ((w.alloc (.cells #[.int .i64 x0, .int .i64 x1] 35)).alloc (.cells #[.int .i64 0, .int .i64 0, .int .i64 0, .int .i64 0] 79)) (fun W => IsBlk W w.heap.size (.cells #[.int .i64 x0, .int .i64 x1] 35) ∧ IsBlk W (w.heap.size + 1) (.cells #[.int .i64 0, .int .i64 0, .int .i64 0, .int .i64 0] 79))) := ⟨⟨below_step hb1 hb2, ⟨IsBlk.below (blk_new w _) hb2, hg⟩, keeps_and (keeps_blk _ _) (keeps_blk _ _)⟩⟩
  clear hb1 hb2 hg
  have n1 := blk_lt HS.out.now.1
  have n2 := blk_lt HS.out.now.2
  have c0 : ((w.alloc (.cells #[.int .i64 x0, .int .i64 x1] 35)).alloc (.cells #[.int .i64 0, .int .i64 0, .int .i64 0, .int .i64 0] 79)).cell? ⟨w.heap.size, 0, none⟩ = some (.int .i64 x0) := HS.out.now.1.cell 0
  have c1 : ((w.alloc (.cells #[.int .i64 x0, .int .i64 x1] 35)).alloc (.cells #[.int .i64 0, .int .i64 0, .int .i64 0, .int .i64 0] 79)).cell? ⟨w.heap.size, 1, none⟩ = some (.int .i64 x1) := HS.out.now.1.cell 1
  have k0 : ((w.alloc (.cells #[.int .i64 x0, .int .i64 x1] 35)).alloc (.cells #[.int .i64 0, .int .i64 0, .int .i64 0, .int .i64 0] 79)).cell? ⟨w.heap.size + 1, 0, none⟩ = some (.int .i64 0) := HS.out.now.2.cell 0
  have f0 := HS.out.now.2.frozen 0
  have k1 : ((w.alloc (.cells #[.int .i64 x0, .int .i64 x1] 35)).alloc (.cells #[.int .i64 0, .int .i64 0, .int .i64 0, .int .i64 0] 79)).cell? ⟨w.heap.size + 1, 1, none⟩ = some (.int .i64 0) := HS.out.now.2.cell 1
  have f1 := HS.out.now.2.frozen 1
  have k2 : ((w.alloc (.cells #[.int .i64 x0, .int .i64 x1] 35)).alloc (.cells #[.int .i64 0, .int .i64 0, .int .i64 0, .int .i64 0] 79)).cell? ⟨w.heap.size + 1, 2, none⟩ = some (.int .i64 0) := HS.out.now.2.cell 2
  have f2 := HS.out.now.2.frozen 2
  have k3 : ((w.alloc (.cells #[.int .i64 x0, .int .i64 x1] 35)).alloc (.cells #[.int .i64 0, .int .i64 0, .int .i64 0, .int .i64 0] 79)).cell? ⟨w.heap.size + 1, 3, none⟩ = some (.int .i64 0) := HS.out.now.2.cell 3
  have f3 := HS.out.now.2.frozen 3
  have H1 := Aside0.mk h1
  clear h1
  have H2 := Aside0.mk h2
  clear h2
  have t1 := True.intro
  have t2 := True.intro
  go_enter Try.func50, Try.ntmps50
  go_wp2_with (first | (have _t := t1; go_at_call 39; refine (H1.out _ (HS.out.step (by repeat (first | exact Below.refl _ _ | apply below_alloc | apply pw_below_drewN | apply below_drew1))).bel).mono ?_; rintro e w1 ⟨rfl, hb⟩; have m_ := Aside0.mk (HS.out.call (by repeat (first | exact Below.refl _ _ | apply below_alloc | apply pw_below_drewN | apply below_drew1)) hb); clear HS hb; have HS := m_; clear m_; have n1 := blk_lt HS.out.now.1; have n2 := blk_lt HS.out.now.2; have c0 : w1.cell? ⟨w.heap.size, 0, none⟩ = some (.int .i64 x0) := HS.out.now.1.cell 0; have c1 : w1.cell? ⟨w.heap.size, 1, none⟩ = some (.int .i64 x1) := HS.out.now.1.cell 1; have k0 : w1.cell? ⟨w.heap.size + 1, 0, none⟩ = some (.int .i64 0) := HS.out.now.2.cell 0; have f0 := HS.out.now.2.frozen 0; have k1 : w1.cell? ⟨w.heap.size + 1, 1, none⟩ = some (.int .i64 0) := HS.out.now.2.cell 1; have f1 := HS.out.now.2.frozen 1; have k2 : w1.cell? ⟨w.heap.size + 1, 2, none⟩ = some (.int .i64 0) := HS.out.now.2.cell 2; have f2 := HS.out.now.2.frozen 2; have k3 : w1.cell? ⟨w.heap.size + 1, 3, none⟩ = some (.int .i64 0) := HS.out.now.2.cell 3; have f3 := HS.out.now.2.frozen 3; have c0a := cell_alloc1 c0; have c1a := cell_alloc1 c1; have k0a := cell_alloc1 k0; have f0a := froz_alloc1 k0 f0; have k1a := cell_alloc1 k1; have f1a := froz_alloc1 k1 f1; have k2a := cell_alloc1 k2; have f2a := froz_alloc1 k2 f2; have k3a := cell_alloc1 k3; have f3a := froz_alloc1 k3 f3; clear t1 _t) | (have _t := t2; go_at_call 39; refine (H2.out _ (HS.out.step (by repeat (first | exact Below.refl _ _ | apply below_alloc | apply pw_below_drewN | apply below_drew1))).bel).mono ?_; rintro e w2 ⟨rfl, hb⟩; have hp0 := cell_below ((blk_cell (blk_new w1 (.cells #[.int .i64 a, .int .i64 ca] 58)) 0).trans rfl) hb; have hp1 := cell_below ((blk_cell (blk_new w1 (.cells #[.int .i64 a, .int .i64 ca] 58)) 1).trans rfl) hb; have hp0a := cell_alloc1 hp0; have hp1a := cell_alloc1 hp1; have m_ := Aside0.mk (HS.out.call (by repeat (first | exact Below.refl _ _ | apply below_alloc | apply pw_below_drewN | apply below_drew1)) hb); clear HS hb; have HS := m_; clear m_; have n1 := blk_lt HS.out.now.1; have n2 := blk_lt HS.out.now.2; have c0 : w2.cell? ⟨w.heap.size, 0, none⟩ = some (.int .i64 x0) := HS.out.now.1.cell 0; have c1 : w2.cell? ⟨w.heap.size, 1, none⟩ = some (.int .i64 x1) := HS.out.now.1.cell 1; have k0 : w2.cell? ⟨w.heap.size + 1, 0, none⟩ = some (.int .i64 0) := HS.out.now.2.cell 0; have f0 := HS.out.now.2.frozen 0; have k1 : w2.cell? ⟨w.heap.size + 1, 1, none⟩ = some (.int .i64 0) := HS.out.now.2.cell 1; have f1 := HS.out.now.2.frozen 1; have k2 : w2.cell? ⟨w.heap.size + 1, 2, none⟩ = some (.int .i64 0) := HS.out.now.2.cell 2; have f2 := HS.out.now.2.frozen 2; have k3 : w2.cell? ⟨w.heap.size + 1, 3, none⟩ = some (.int .i64 0) := HS.out.now.2.cell 3; have f3 := HS.out.now.2.frozen 3; have c0a := cell_alloc1 c0; have c1a := cell_alloc1 c1; have k0a := cell_alloc1 k0; have f0a := froz_alloc1 k0 f0; have k1a := cell_alloc1 k1; have f1a := froz_alloc1 k1 f1; have k2a := cell_alloc1 k2; have f2a := froz_alloc1 k2 f2; have k3a := cell_alloc1 k3; have f3a := froz_alloc1 k3 f3; clear t2 _t))
  all_goals try (go_step3; go_wp2)
  first | rw [Exit.noGoto_ret] | skip
  refine bodyPost_ret (v := .tuple #[.agg #[.int .i64 a, .int .i64 ca, .int .i64 b, .int .i64 cb], .int .i64 0]) (by simp [results, Try.results50, go_sem, *]) rfl ⟨rfl, ?_⟩
  have hS := HS.out.bel
  repeat (first | exact hS | apply below_alloc | apply pw_below_drewN | apply below_drew1 | refine Below.setCell ?_ (by simp) _)

end Go.Proofs.Ytogfaahdbecdnaa.B

/-
  PlaceKnown, walked.
-/
namespace Go.Proofs.Ytogfaahdbecdnaa.B
open Go.RowKit Go.Shelf Go.Proofs Go.Proofs.YtogfaahdbecdnaaW.PrintWords Go.Proofs.YtogfaahdbecdnaaW.PrintLast Go.Proofs.YtogfaahdbecdnaaW.PrintMore Go.Proofs.Ytogfaahdbecdnaa.FBase
set_option linter.unusedVariables false
set_option linter.unusedSimpArgs false

theorem known_at0 : poff [97, 195, 164, 240, 159, 152, 128, 10, 98] 0 1 = 1 := by rw [poff_of works4_lns]; first | (rw [if_pos (by decide)]; rfl) | (rw [if_neg (by decide), show rdLn [⟨0, 7, 8⟩, ⟨8, 9, 9⟩] 0 = ⟨0, 7, 8⟩ from rfl, chars_is works4_cs0]; rfl)
theorem known_at1 : poff [97, 195, 164, 240, 159, 152, 128, 10, 98] 1 0 = 8 := by rw [poff_of works4_lns]; first | (rw [if_pos (by decide)]; rfl) | (rw [if_neg (by decide), show rdLn [⟨0, 7, 8⟩, ⟨8, 9, 9⟩] 1 = ⟨8, 9, 9⟩ from rfl, chars_is works4_cs1]; rfl)
theorem known_at2 : poff [97, 195, 164, 240, 159, 152, 128, 10, 98] 1 9 = 9 := by rw [poff_of works4_lns]; first | (rw [if_pos (by decide)]; rfl) | (rw [if_neg (by decide), show rdLn [⟨0, 7, 8⟩, ⟨8, 9, 9⟩] 1 = ⟨8, 9, 9⟩ from rfl, chars_is works4_cs1]; rfl)
theorem known_at3 : poff [97, 195, 164, 240, 159, 152, 128, 10, 98] 2 0 = 9 := by rw [poff_of works4_lns]; first | (rw [if_pos (by decide)]; rfl) | (rw [if_neg (by decide), show rdLn [⟨0, 7, 8⟩, ⟨8, 9, 9⟩] 2 = ⟨0, 7, 8⟩ from rfl, chars_is works4_cs0]; rfl)
theorem known_at4 : poff [97, 195, 164, 240, 159, 152, 128, 10, 98] 4611686018427387904 4611686018427387904 = 9 := by rw [poff_of works4_lns]; first | (rw [if_pos (by decide)]; rfl) | (rw [if_neg (by decide), show rdLn [⟨0, 7, 8⟩, ⟨8, 9, 9⟩] 4611686018427387904 = ⟨0, 7, 8⟩ from rfl, chars_is works4_cs0]; rfl)
theorem known_of0 : fnd [97, 195, 164, 240, 159, 152, 128, 10, 98] 0 = (0 : Nat) ∧ pch [97, 195, 164, 240, 159, 152, 128, 10, 98] 0 = 0 := by
  have h : fnd [97, 195, 164, 240, 159, 152, 128, 10, 98] 0 = 0 := fnd_eq (by rw [works4_lns]; exact findB_ok (by decide))
  refine ⟨h, ?_⟩
  unfold pch
  rw [h, works4_lns, show rdLn [⟨0, 7, 8⟩, ⟨8, 9, 9⟩] ((0 : Nat) : Int) = ⟨0, 7, 8⟩ from rfl, chars_is works4_cs0]
  rfl
theorem known_of1 : fnd [97, 195, 164, 240, 159, 152, 128, 10, 98] 1 = (0 : Nat) ∧ pch [97, 195, 164, 240, 159, 152, 128, 10, 98] 1 = 1 := by
  have h : fnd [97, 195, 164, 240, 159, 152, 128, 10, 98] 1 = 0 := fnd_eq (by rw [works4_lns]; exact findB_ok (by decide))
  refine ⟨h, ?_⟩
  unfold pch
  rw [h, works4_lns, show rdLn [⟨0, 7, 8⟩, ⟨8, 9, 9⟩] ((0 : Nat) : Int) = ⟨0, 7, 8⟩ from rfl, chars_is works4_cs0]
  rfl
theorem known_of2 : fnd [97, 195, 164, 240, 159, 152, 128, 10, 98] 3 = (0 : Nat) ∧ pch [97, 195, 164, 240, 159, 152, 128, 10, 98] 3 = 2 := by
  have h : fnd [97, 195, 164, 240, 159, 152, 128, 10, 98] 3 = 0 := fnd_eq (by rw [works4_lns]; exact findB_ok (by decide))
  refine ⟨h, ?_⟩
  unfold pch
  rw [h, works4_lns, show rdLn [⟨0, 7, 8⟩, ⟨8, 9, 9⟩] ((0 : Nat) : Int) = ⟨0, 7, 8⟩ from rfl, chars_is works4_cs0]
  rfl
theorem known_of3 : fnd [97, 195, 164, 240, 159, 152, 128, 10, 98] 4 = (0 : Nat) ∧ pch [97, 195, 164, 240, 159, 152, 128, 10, 98] 4 = 2 := by
  have h : fnd [97, 195, 164, 240, 159, 152, 128, 10, 98] 4 = 0 := fnd_eq (by rw [works4_lns]; exact findB_ok (by decide))
  refine ⟨h, ?_⟩
  unfold pch
  rw [h, works4_lns, show rdLn [⟨0, 7, 8⟩, ⟨8, 9, 9⟩] ((0 : Nat) : Int) = ⟨0, 7, 8⟩ from rfl, chars_is works4_cs0]
  rfl
theorem known_of4 : fnd [97, 195, 164, 240, 159, 152, 128, 10, 98] 6 = (0 : Nat) ∧ pch [97, 195, 164, 240, 159, 152, 128, 10, 98] 6 = 2 := by
  have h : fnd [97, 195, 164, 240, 159, 152, 128, 10, 98] 6 = 0 := fnd_eq (by rw [works4_lns]; exact findB_ok (by decide))
  refine ⟨h, ?_⟩
  unfold pch
  rw [h, works4_lns, show rdLn [⟨0, 7, 8⟩, ⟨8, 9, 9⟩] ((0 : Nat) : Int) = ⟨0, 7, 8⟩ from rfl, chars_is works4_cs0]
  rfl
theorem known_of5 : fnd [97, 195, 164, 240, 159, 152, 128, 10, 98] 8 = (1 : Nat) ∧ pch [97, 195, 164, 240, 159, 152, 128, 10, 98] 8 = 0 := by
  have h : fnd [97, 195, 164, 240, 159, 152, 128, 10, 98] 8 = 1 := fnd_eq (by rw [works4_lns]; exact findB_ok (by decide))
  refine ⟨h, ?_⟩
  unfold pch
  rw [h, works4_lns, show rdLn [⟨0, 7, 8⟩, ⟨8, 9, 9⟩] ((1 : Nat) : Int) = ⟨8, 9, 9⟩ from rfl, chars_is works4_cs1]
  rfl
theorem known_lns2 : lns [97, 13, 10, 13, 98, 10] 0 0 = [⟨0, 1, 3⟩, ⟨3, 3, 4⟩, ⟨4, 5, 6⟩, ⟨6, 6, 6⟩] := by simp [lns]
theorem known_chk2 : runes_Check.f 30 [97, 13, 10, 13, 98, 10] = some (6, 0) := by decide +kernel
theorem known_chk3 : runes_Check.f 30 [255] = some (0, 10) := by decide +kernel
theorem known_chk4 : runes_Check.f 30 [195] = some (0, 3) := by decide +kernel
theorem known_B2 : Bytes [97, 13, 10, 13, 98, 10] := by intro x hx; simp at hx; omega
theorem known_V2 : V [97, 13, 10, 13, 98, 10] := (csF_ok 20 (r := [(1, 1), (1, 1), (1, 1), (1, 1), (1, 1), (1, 1)]) (by decide +kernel)).v
theorem known_cs0 : Cs (seg [97, 13, 10, 13, 98, 10] ⟨0, 1, 3⟩) [(1, 1)] := csF_ok 20 (by decide +kernel)
theorem known_cs1 : Cs (seg [97, 13, 10, 13, 98, 10] ⟨3, 3, 4⟩) [] := csF_ok 20 (by decide +kernel)
theorem known_cs2 : Cs (seg [97, 13, 10, 13, 98, 10] ⟨4, 5, 6⟩) [(1, 1)] := csF_ok 20 (by decide +kernel)
theorem known_cs3 : Cs (seg [97, 13, 10, 13, 98, 10] ⟨6, 6, 6⟩) [] := csF_ok 20 (by decide +kernel)
theorem known_bt0 : poff [97, 13, 10, 13, 98, 10] 0 5 = 1 := by rw [poff_of known_lns2]; first | (rw [if_pos (by decide)]; rfl) | (rw [if_neg (by decide), show rdLn [⟨0, 1, 3⟩, ⟨3, 3, 4⟩, ⟨4, 5, 6⟩, ⟨6, 6, 6⟩] 0 = ⟨0, 1, 3⟩ from rfl, chars_is known_cs0]; rfl)
theorem known_bt1 : poff [97, 13, 10, 13, 98, 10] 1 5 = 3 := by rw [poff_of known_lns2]; first | (rw [if_pos (by decide)]; rfl) | (rw [if_neg (by decide), show rdLn [⟨0, 1, 3⟩, ⟨3, 3, 4⟩, ⟨4, 5, 6⟩, ⟨6, 6, 6⟩] 1 = ⟨3, 3, 4⟩ from rfl, chars_is known_cs1]; rfl)
theorem known_bf0 : fnd [97, 13, 10, 13, 98, 10] 1 = (0 : Nat) ∧ pch [97, 13, 10, 13, 98, 10] 1 = 1 := by
  have h : fnd [97, 13, 10, 13, 98, 10] 1 = 0 := fnd_eq (by rw [known_lns2]; exact findB_ok (by decide))
  refine ⟨h, ?_⟩
  unfold pch
  rw [h, known_lns2, show rdLn [⟨0, 1, 3⟩, ⟨3, 3, 4⟩, ⟨4, 5, 6⟩, ⟨6, 6, 6⟩] ((0 : Nat) : Int) = ⟨0, 1, 3⟩ from rfl, chars_is known_cs0]
  rfl
theorem known_bf1 : fnd [97, 13, 10, 13, 98, 10] 2 = (0 : Nat) ∧ pch [97, 13, 10, 13, 98, 10] 2 = 1 := by
  have h : fnd [97, 13, 10, 13, 98, 10] 2 = 0 := fnd_eq (by rw [known_lns2]; exact findB_ok (by decide))
  refine ⟨h, ?_⟩
  unfold pch
  rw [h, known_lns2, show rdLn [⟨0, 1, 3⟩, ⟨3, 3, 4⟩, ⟨4, 5, 6⟩, ⟨6, 6, 6⟩] ((0 : Nat) : Int) = ⟨0, 1, 3⟩ from rfl, chars_is known_cs0]
  rfl
theorem known_bf2 : fnd [97, 13, 10, 13, 98, 10] 3 = (1 : Nat) ∧ pch [97, 13, 10, 13, 98, 10] 3 = 0 := by
  have h : fnd [97, 13, 10, 13, 98, 10] 3 = 1 := fnd_eq (by rw [known_lns2]; exact findB_ok (by decide))
  refine ⟨h, ?_⟩
  unfold pch
  rw [h, known_lns2, show rdLn [⟨0, 1, 3⟩, ⟨3, 3, 4⟩, ⟨4, 5, 6⟩, ⟨6, 6, 6⟩] ((1 : Nat) : Int) = ⟨3, 3, 4⟩ from rfl, chars_is known_cs1]
  rfl
theorem known_bf3 : fnd [97, 13, 10, 13, 98, 10] 4 = (2 : Nat) ∧ pch [97, 13, 10, 13, 98, 10] 4 = 0 := by
  have h : fnd [97, 13, 10, 13, 98, 10] 4 = 2 := fnd_eq (by rw [known_lns2]; exact findB_ok (by decide))
  refine ⟨h, ?_⟩
  unfold pch
  rw [h, known_lns2, show rdLn [⟨0, 1, 3⟩, ⟨3, 3, 4⟩, ⟨4, 5, 6⟩, ⟨6, 6, 6⟩] ((2 : Nat) : Int) = ⟨4, 5, 6⟩ from rfl, chars_is known_cs2]
  rfl
theorem known_bf4 : fnd [97, 13, 10, 13, 98, 10] 5 = (2 : Nat) ∧ pch [97, 13, 10, 13, 98, 10] 5 = 1 := by
  have h : fnd [97, 13, 10, 13, 98, 10] 5 = 2 := fnd_eq (by rw [known_lns2]; exact findB_ok (by decide))
  refine ⟨h, ?_⟩
  unfold pch
  rw [h, known_lns2, show rdLn [⟨0, 1, 3⟩, ⟨3, 3, 4⟩, ⟨4, 5, 6⟩, ⟨6, 6, 6⟩] ((2 : Nat) : Int) = ⟨4, 5, 6⟩ from rfl, chars_is known_cs2]
  rfl
theorem known_bf5 : fnd [97, 13, 10, 13, 98, 10] 6 = (3 : Nat) ∧ pch [97, 13, 10, 13, 98, 10] 6 = 0 := by
  have h : fnd [97, 13, 10, 13, 98, 10] 6 = 3 := fnd_eq (by rw [known_lns2]; exact findB_ok (by decide))
  refine ⟨h, ?_⟩
  unfold pch
  rw [h, known_lns2, show rdLn [⟨0, 1, 3⟩, ⟨3, 3, 4⟩, ⟨4, 5, 6⟩, ⟨6, 6, 6⟩] ((3 : Nat) : Int) = ⟨6, 6, 6⟩ from rfl, chars_is known_cs3]
  rfl

set_option maxRecDepth 100000 in
set_option maxHeartbeats 8000000 in
theorem PlaceKnown_ok (w : World) : Calls Try.prog 19 #[] w fun e w' => e = .returned (.bool true) ∧ Below w.heap.size w w' := by
  have HS := Aside0.mk (Sta.start w)
  have ta0 := True.intro
  have ta1 := True.intro
  have ta2 := True.intro
  have ta3 := True.intro
  have ta4 := True.intro
  have to0 := True.intro
  have to1 := True.intro
  have to2 := True.intro
  have to3 := True.intro
  have to4 := True.intro
  have to5 := True.intro
  have tb0 := True.intro
  have tb1 := True.intro
  have tc0 := True.intro
  have tc1 := True.intro
  have tc2 := True.intro
  have tc3 := True.intro
  have tc4 := True.intro
  have tc5 := True.intro
  have u1 := True.intro
  have u2 := True.intro
  have u3 := True.intro
  have u4 := True.intro
  have u5 := True.intro
  have u6 := True.intro
  have u7 := True.intro
  have u8 := True.intro
  have v1 := True.intro
  have v2 := True.intro
  have v3 := True.intro
  go_enter Try.func19, Try.ntmps19
  go_upto_region 5 with (first | (go_at_call 52; refine (chapter_ok _).mono ?_; rintro e w1 ⟨A, rfl, hn, hC, hb⟩; have m_ := Aside0.mk ((HS.out.call (by repeat (first | exact Below.refl _ _ | apply below_alloc | apply pw_below_drewN | apply below_drew1)) hb).add hC (keeps_C _ _ _ _)); clear HS hb hC; have HS := m_; clear m_) | (go_at_call 34; refine (MNew_ok 30 A 9 [97, 195, 164, 240, 159, 152, 128, 10, 98] 9 _ (HS.out.step (by repeat (first | exact Below.refl _ _ | apply below_alloc | apply pw_below_drewN | apply below_drew1))).now.1 (by decide) (fun e => absurd e hn) works4_chk (by decide)).mono ?_; rintro e w2 ⟨m, rfl, hM, hb⟩; have m_ := Aside0.mk ((HS.out.call (by repeat (first | exact Below.refl _ _ | apply below_alloc | apply pw_below_drewN | apply below_drew1)) hb).add hM (keeps_map _ _)); clear HS hb hM; have HS := m_; clear m_) | (have _t := ta0; go_at_call 53; refine (at_ok m [97, 195, 164, 240, 159, 152, 128, 10, 98] 0 1 1 _ (HS.out.step (by repeat (first | exact Below.refl _ _ | apply below_alloc | apply pw_below_drewN | apply below_drew1))).now.1 (by decide) works4_B works4_V (by decide) (by decide) (by decide) known_at0).mono ?_; rintro e w3 ⟨rfl, hb⟩; have m_ := Aside0.mk (HS.out.call (by repeat (first | exact Below.refl _ _ | apply below_alloc | apply pw_below_drewN | apply below_drew1)) hb); clear HS hb ; have HS := m_; clear m_; clear ta0 _t) | (have _t := ta1; go_at_call 53; refine (at_ok m [97, 195, 164, 240, 159, 152, 128, 10, 98] 1 0 8 _ (HS.out.step (by repeat (first | exact Below.refl _ _ | apply below_alloc | apply pw_below_drewN | apply below_drew1))).now.1 (by decide) works4_B works4_V (by decide) (by decide) (by decide) known_at1).mono ?_; rintro e w3 ⟨rfl, hb⟩; have m_ := Aside0.mk (HS.out.call (by repeat (first | exact Below.refl _ _ | apply below_alloc | apply pw_below_drewN | apply below_drew1)) hb); clear HS hb ; have HS := m_; clear m_; clear ta1 _t) | (have _t := ta2; go_at_call 53; refine (at_ok m [97, 195, 164, 240, 159, 152, 128, 10, 98] 1 9 9 _ (HS.out.step (by repeat (first | exact Below.refl _ _ | apply below_alloc | apply pw_below_drewN | apply below_drew1))).now.1 (by decide) works4_B works4_V (by decide) (by decide) (by decide) known_at2).mono ?_; rintro e w3 ⟨rfl, hb⟩; have m_ := Aside0.mk (HS.out.call (by repeat (first | exact Below.refl _ _ | apply below_alloc | apply pw_below_drewN | apply below_drew1)) hb); clear HS hb ; have HS := m_; clear m_; clear ta2 _t) | (have _t := ta3; go_at_call 53; refine (at_ok m [97, 195, 164, 240, 159, 152, 128, 10, 98] 2 0 9 _ (HS.out.step (by repeat (first | exact Below.refl _ _ | apply below_alloc | apply pw_below_drewN | apply below_drew1))).now.1 (by decide) works4_B works4_V (by decide) (by decide) (by decide) known_at3).mono ?_; rintro e w3 ⟨rfl, hb⟩; have m_ := Aside0.mk (HS.out.call (by repeat (first | exact Below.refl _ _ | apply below_alloc | apply pw_below_drewN | apply below_drew1)) hb); clear HS hb ; have HS := m_; clear m_; clear ta3 _t) | (have _t := ta4; go_at_call 53; refine (at_ok m [97, 195, 164, 240, 159, 152, 128, 10, 98] 4611686018427387904 4611686018427387904 9 _ (HS.out.step (by repeat (first | exact Below.refl _ _ | apply below_alloc | apply pw_below_drewN | apply below_drew1))).now.1 (by decide) works4_B works4_V (by decide) (by decide) (by decide) known_at4).mono ?_; rintro e w3 ⟨rfl, hb⟩; have m_ := Aside0.mk (HS.out.call (by repeat (first | exact Below.refl _ _ | apply below_alloc | apply pw_below_drewN | apply below_drew1)) hb); clear HS hb ; have HS := m_; clear m_; clear ta4 _t) | (have _t := to0; go_at_call 54; refine (of_ok m [97, 195, 164, 240, 159, 152, 128, 10, 98] 0 0 0 _ (HS.out.step (by repeat (first | exact Below.refl _ _ | apply below_alloc | apply pw_below_drewN | apply below_drew1))).now.1 (by decide) works4_B works4_V (by decide) (by decide) known_of0).mono ?_; rintro e w3 ⟨rfl, hb⟩; have m_ := Aside0.mk (HS.out.call (by repeat (first | exact Below.refl _ _ | apply below_alloc | apply pw_below_drewN | apply below_drew1)) hb); clear HS hb ; have HS := m_; clear m_; clear to0 _t) | (have _t := to1; go_at_call 54; refine (of_ok m [97, 195, 164, 240, 159, 152, 128, 10, 98] 1 0 1 _ (HS.out.step (by repeat (first | exact Below.refl _ _ | apply below_alloc | apply pw_below_drewN | apply below_drew1))).now.1 (by decide) works4_B works4_V (by decide) (by decide) known_of1).mono ?_; rintro e w3 ⟨rfl, hb⟩; have m_ := Aside0.mk (HS.out.call (by repeat (first | exact Below.refl _ _ | apply below_alloc | apply pw_below_drewN | apply below_drew1)) hb); clear HS hb ; have HS := m_; clear m_; clear to1 _t) | (have _t := to2; go_at_call 54; refine (of_ok m [97, 195, 164, 240, 159, 152, 128, 10, 98] 3 0 2 _ (HS.out.step (by repeat (first | exact Below.refl _ _ | apply below_alloc | apply pw_below_drewN | apply below_drew1))).now.1 (by decide) works4_B works4_V (by decide) (by decide) known_of2).mono ?_; rintro e w3 ⟨rfl, hb⟩; have m_ := Aside0.mk (HS.out.call (by repeat (first | exact Below.refl _ _ | apply below_alloc | apply pw_below_drewN | apply below_drew1)) hb); clear HS hb ; have HS := m_; clear m_; clear to2 _t) | (have _t := to3; go_at_call 54; refine (of_ok m [97, 195, 164, 240, 159, 152, 128, 10, 98] 4 0 2 _ (HS.out.step (by repeat (first | exact Below.refl _ _ | apply below_alloc | apply pw_below_drewN | apply below_drew1))).now.1 (by decide) works4_B works4_V (by decide) (by decide) known_of3).mono ?_; rintro e w3 ⟨rfl, hb⟩; have m_ := Aside0.mk (HS.out.call (by repeat (first | exact Below.refl _ _ | apply below_alloc | apply pw_below_drewN | apply below_drew1)) hb); clear HS hb ; have HS := m_; clear m_; clear to3 _t) | (have _t := to4; go_at_call 54; refine (of_ok m [97, 195, 164, 240, 159, 152, 128, 10, 98] 6 0 2 _ (HS.out.step (by repeat (first | exact Below.refl _ _ | apply below_alloc | apply pw_below_drewN | apply below_drew1))).now.1 (by decide) works4_B works4_V (by decide) (by decide) known_of4).mono ?_; rintro e w3 ⟨rfl, hb⟩; have m_ := Aside0.mk (HS.out.call (by repeat (first | exact Below.refl _ _ | apply below_alloc | apply pw_below_drewN | apply below_drew1)) hb); clear HS hb ; have HS := m_; clear m_; clear to4 _t) | (have _t := to5; go_at_call 54; refine (of_ok m [97, 195, 164, 240, 159, 152, 128, 10, 98] 8 1 0 _ (HS.out.step (by repeat (first | exact Below.refl _ _ | apply below_alloc | apply pw_below_drewN | apply below_drew1))).now.1 (by decide) works4_B works4_V (by decide) (by decide) known_of5).mono ?_; rintro e w3 ⟨rfl, hb⟩; have m_ := Aside0.mk (HS.out.call (by repeat (first | exact Below.refl _ _ | apply below_alloc | apply pw_below_drewN | apply below_drew1)) hb); clear HS hb ; have HS := m_; clear m_; clear to5 _t))
  go_upto_region 6 with (first | (have _t := u1; go_at_call 45; refine (pos_ok (-1) 0 _).mono ?_; rintro e w3 ⟨rfl, hb⟩; have m_ := Aside0.mk (HS.out.call (by repeat (first | exact Below.refl _ _ | apply below_alloc | apply pw_below_drewN | apply below_drew1)) hb); clear HS hb ; have HS := m_; clear m_; clear u1 _t) | (go_at_call 37; refine (MOffset_neg m [97, 195, 164, 240, 159, 152, 128, 10, 98] (-1) 0 _ (HS.out.step (by repeat (first | exact Below.refl _ _ | apply below_alloc | apply pw_below_drewN | apply below_drew1))).now.1 (by decide)).mono ?_; rintro e w4 ⟨rfl, hb⟩; have m_ := Aside0.mk (HS.out.call (by repeat (first | exact Below.refl _ _ | apply below_alloc | apply pw_below_drewN | apply below_drew1)) hb); clear HS hb ; have HS := m_; clear m_))
  go_upto_region 7 with (first | (have _t := u2; go_at_call 45; refine (pos_ok 0 (-1) _).mono ?_; rintro e w3 ⟨rfl, hb⟩; have m_ := Aside0.mk (HS.out.call (by repeat (first | exact Below.refl _ _ | apply below_alloc | apply pw_below_drewN | apply below_drew1)) hb); clear HS hb ; have HS := m_; clear m_; clear u2 _t) | (go_at_call 37; refine (MOffset_neg m [97, 195, 164, 240, 159, 152, 128, 10, 98] 0 (-1) _ (HS.out.step (by repeat (first | exact Below.refl _ _ | apply below_alloc | apply pw_below_drewN | apply below_drew1))).now.1 (by decide)).mono ?_; rintro e w4 ⟨rfl, hb⟩; have m_ := Aside0.mk (HS.out.call (by repeat (first | exact Below.refl _ _ | apply below_alloc | apply pw_below_drewN | apply below_drew1)) hb); clear HS hb ; have HS := m_; clear m_))
  go_upto_region 8 with (first | (have _t := u3; go_at_call 45; refine (pos_ok 9 (-1) _).mono ?_; rintro e w3 ⟨rfl, hb⟩; have m_ := Aside0.mk (HS.out.call (by repeat (first | exact Below.refl _ _ | apply below_alloc | apply pw_below_drewN | apply below_drew1)) hb); clear HS hb ; have HS := m_; clear m_; clear u3 _t) | (go_at_call 37; refine (MOffset_neg m [97, 195, 164, 240, 159, 152, 128, 10, 98] 9 (-1) _ (HS.out.step (by repeat (first | exact Below.refl _ _ | apply below_alloc | apply pw_below_drewN | apply below_drew1))).now.1 (by decide)).mono ?_; rintro e w4 ⟨rfl, hb⟩; have m_ := Aside0.mk (HS.out.call (by repeat (first | exact Below.refl _ _ | apply below_alloc | apply pw_below_drewN | apply below_drew1)) hb); clear HS hb ; have HS := m_; clear m_))
  go_upto_region 9 with (go_at_call 39; refine (MPos_out m [97, 195, 164, 240, 159, 152, 128, 10, 98] 10 _ (HS.out.step (by repeat (first | exact Below.refl _ _ | apply below_alloc | apply pw_below_drewN | apply below_drew1))).now.1 (by decide) (by decide)).mono ?_; rintro e w4 ⟨rfl, hb⟩; have m_ := Aside0.mk (HS.out.call (by repeat (first | exact Below.refl _ _ | apply below_alloc | apply pw_below_drewN | apply below_drew1)) hb); clear HS hb ; have HS := m_; clear m_)
  go_upto_region 10 with (go_at_call 39; refine (MPos_out m [97, 195, 164, 240, 159, 152, 128, 10, 98] (-1) _ (HS.out.step (by repeat (first | exact Below.refl _ _ | apply below_alloc | apply pw_below_drewN | apply below_drew1))).now.1 (by decide) (by decide)).mono ?_; rintro e w4 ⟨rfl, hb⟩; have m_ := Aside0.mk (HS.out.call (by repeat (first | exact Below.refl _ _ | apply below_alloc | apply pw_below_drewN | apply below_drew1)) hb); clear HS hb ; have HS := m_; clear m_)
  go_upto_region 11 with (first | (have _t := u4; go_at_call 45; refine (pos_ok 0 1 _).mono ?_; rintro e w3 ⟨rfl, hb⟩; have m_ := Aside0.mk (HS.out.call (by repeat (first | exact Below.refl _ _ | apply below_alloc | apply pw_below_drewN | apply below_drew1)) hb); clear HS hb ; have HS := m_; clear m_; clear u4 _t) | (have _t := u5; go_at_call 45; refine (pos_ok 1 0 _).mono ?_; rintro e w3 ⟨rfl, hb⟩; have m_ := Aside0.mk (HS.out.call (by repeat (first | exact Below.refl _ _ | apply below_alloc | apply pw_below_drewN | apply below_drew1)) hb); clear HS hb ; have HS := m_; clear m_; clear u5 _t) | (go_at_call 48; refine (MSpan_ok (some ⟨m, 0, none⟩) 0 1 1 0 1 8 _ (fun W hW => by have h := MOffset_is m [97, 195, 164, 240, 159, 152, 128, 10, 98] 0 1 W (IsMap.below (HS.out.step (by repeat (first | exact Below.refl _ _ | apply below_alloc | apply pw_below_drewN | apply below_drew1))).now.1 hW) (by decide) works4_B works4_V (by decide) (by decide) (by decide); rw [known_at0] at h; exact h) (fun W hW => by have h := MOffset_is m [97, 195, 164, 240, 159, 152, 128, 10, 98] 1 0 W (IsMap.below (HS.out.step (by repeat (first | exact Below.refl _ _ | apply below_alloc | apply pw_below_drewN | apply below_drew1))).now.1 hW) (by decide) works4_B works4_V (by decide) (by decide) (by decide); rw [known_at1] at h; exact h) (by decide)).mono ?_; rintro e w4 ⟨rfl, hb⟩; have m_ := Aside0.mk (HS.out.call (by repeat (first | exact Below.refl _ _ | apply below_alloc | apply pw_below_drewN | apply below_drew1)) hb); clear HS hb ; have HS := m_; clear m_))
  have m_ := Aside0.mk ((HS.out.step (below_alloc (Below.refl _ w4) (.cells #[.int .i64 1, .int .i64 8] 35))).add (blk_new w4 (.cells #[.int .i64 1, .int .i64 8] 35)) (keeps_blk _ _))
  clear HS
  have HS := m_
  clear m_
  generalize w4.heap.size = g14 at *
  generalize (w4.alloc (.cells #[.int .i64 1, .int .i64 8] 35)) = W4 at *
  go_upto_region 12 with (first | (have _t := u6; go_at_call 45; refine (pos_ok 1 0 _).mono ?_; rintro e w3 ⟨rfl, hb⟩; have m_ := Aside0.mk (HS.out.call (by repeat (first | exact Below.refl _ _ | apply below_alloc | apply pw_below_drewN | apply below_drew1)) hb); clear HS hb ; have HS := m_; clear m_; clear u6 _t) | (have _t := u7; go_at_call 45; refine (pos_ok 0 1 _).mono ?_; rintro e w3 ⟨rfl, hb⟩; have m_ := Aside0.mk (HS.out.call (by repeat (first | exact Below.refl _ _ | apply below_alloc | apply pw_below_drewN | apply below_drew1)) hb); clear HS hb ; have HS := m_; clear m_; clear u7 _t) | (go_at_call 48; refine (MSpan_rev (some ⟨m, 0, none⟩) 1 0 0 1 8 1 _ (fun W hW => by have h := MOffset_is m [97, 195, 164, 240, 159, 152, 128, 10, 98] 1 0 W (IsMap.below (HS.out.step (by repeat (first | exact Below.refl _ _ | apply below_alloc | apply pw_below_drewN | apply below_drew1))).now.2.1 hW) (by decide) works4_B works4_V (by decide) (by decide) (by decide); rw [known_at1] at h; exact h) (fun W hW => by have h := MOffset_is m [97, 195, 164, 240, 159, 152, 128, 10, 98] 0 1 W (IsMap.below (HS.out.step (by repeat (first | exact Below.refl _ _ | apply below_alloc | apply pw_below_drewN | apply below_drew1))).now.2.1 hW) (by decide) works4_B works4_V (by decide) (by decide) (by decide); rw [known_at0] at h; exact h) (by decide)).mono ?_; rintro e w5 ⟨rfl, hb⟩; have m_ := Aside0.mk (HS.out.call (by repeat (first | exact Below.refl _ _ | apply below_alloc | apply pw_below_drewN | apply below_drew1)) hb); clear HS hb ; have HS := m_; clear m_))
  go_upto_region 13 with (first | (have _t := u8; go_at_call 45; refine (pos_ok 1 0 _).mono ?_; rintro e w3 ⟨rfl, hb⟩; have m_ := Aside0.mk (HS.out.call (by repeat (first | exact Below.refl _ _ | apply below_alloc | apply pw_below_drewN | apply below_drew1)) hb); clear HS hb ; have HS := m_; clear m_; clear u8 _t) | (have _t := v1; go_at_call 45; refine (pos_ok 0 (-1) _).mono ?_; rintro e w3 ⟨rfl, hb⟩; have m_ := Aside0.mk (HS.out.call (by repeat (first | exact Below.refl _ _ | apply below_alloc | apply pw_below_drewN | apply below_drew1)) hb); clear HS hb ; have HS := m_; clear m_; clear v1 _t) | (go_at_call 48; refine (MSpan_e2 (some ⟨m, 0, none⟩) 1 0 0 (-1) 8 0 9 _ (fun W hW => by have h := MOffset_is m [97, 195, 164, 240, 159, 152, 128, 10, 98] 1 0 W (IsMap.below (HS.out.step (by repeat (first | exact Below.refl _ _ | apply below_alloc | apply pw_below_drewN | apply below_drew1))).now.2.1 hW) (by decide) works4_B works4_V (by decide) (by decide) (by decide); rw [known_at1] at h; exact h) (fun W hW => MOffset_neg m [97, 195, 164, 240, 159, 152, 128, 10, 98] 0 (-1) W (IsMap.below (HS.out.step (by repeat (first | exact Below.refl _ _ | apply below_alloc | apply pw_below_drewN | apply below_drew1))).now.2.1 hW) (by decide)) (by decide)).mono ?_; rintro e w6 ⟨rfl, hb⟩; have m_ := Aside0.mk (HS.out.call (by repeat (first | exact Below.refl _ _ | apply below_alloc | apply pw_below_drewN | apply below_drew1)) hb); clear HS hb ; have HS := m_; clear m_))
  go_upto_region 14 with (go_at_call 50; refine (MRange_ok (some ⟨m, 0, none⟩) 1 8 0 1 1 0 _ (fun W hW => by have h := MPos_is m [97, 195, 164, 240, 159, 152, 128, 10, 98] 1 W (IsMap.below (HS.out.step (by repeat (first | exact Below.refl _ _ | apply below_alloc | apply pw_below_drewN | apply below_drew1))).now.2.1 hW) (by decide) works4_B works4_V (by decide) (by decide); rw [known_of1.1, known_of1.2] at h; exact h) (fun W hW => by have h := MPos_is m [97, 195, 164, 240, 159, 152, 128, 10, 98] 8 W (IsMap.below (HS.out.step (by repeat (first | exact Below.refl _ _ | apply below_alloc | apply pw_below_drewN | apply below_drew1))).now.2.1 hW) (by decide) works4_B works4_V (by decide) (by decide); rw [known_of5.1, known_of5.2] at h; exact h) (by decide)).mono ?_; rintro e w7 ⟨rfl, hb⟩; have m_ := Aside0.mk (HS.out.call (by repeat (first | exact Below.refl _ _ | apply below_alloc | apply pw_below_drewN | apply below_drew1)) hb); clear HS hb ; have HS := m_; clear m_)
  have m_ := Aside0.mk ((HS.out.step (below_alloc (Below.refl _ w7) (.cells #[.int .i64 0, .int .i64 1, .int .i64 1, .int .i64 0] 79))).add (blk_new w7 (.cells #[.int .i64 0, .int .i64 1, .int .i64 1, .int .i64 0] 79)) (keeps_blk _ _))
  clear HS
  have HS := m_
  clear m_
  generalize w7.heap.size = g20 at *
  generalize (w7.alloc (.cells #[.int .i64 0, .int .i64 1, .int .i64 1, .int .i64 0] 79)) = W7 at *
  go_upto_region 15 with (go_at_call 50; refine (MRange_rev (some ⟨m, 0, none⟩) 8 1 1 0 0 1 _ (fun W hW => by have h := MPos_is m [97, 195, 164, 240, 159, 152, 128, 10, 98] 8 W (IsMap.below (HS.out.step (by repeat (first | exact Below.refl _ _ | apply below_alloc | apply pw_below_drewN | apply below_drew1))).now.2.2.1 hW) (by decide) works4_B works4_V (by decide) (by decide); rw [known_of5.1, known_of5.2] at h; exact h) (fun W hW => by have h := MPos_is m [97, 195, 164, 240, 159, 152, 128, 10, 98] 1 W (IsMap.below (HS.out.step (by repeat (first | exact Below.refl _ _ | apply below_alloc | apply pw_below_drewN | apply below_drew1))).now.2.2.1 hW) (by decide) works4_B works4_V (by decide) (by decide); rw [known_of1.1, known_of1.2] at h; exact h) (by decide)).mono ?_; rintro e w8 ⟨rfl, hb⟩; have m_ := Aside0.mk (HS.out.call (by repeat (first | exact Below.refl _ _ | apply below_alloc | apply pw_below_drewN | apply below_drew1)) hb); clear HS hb ; have HS := m_; clear m_)
  go_upto_region 16 with (go_at_call 50; refine (MRange_e2 (some ⟨m, 0, none⟩) 1 10 0 1 0 0 9 _ (fun W hW => by have h := MPos_is m [97, 195, 164, 240, 159, 152, 128, 10, 98] 1 W (IsMap.below (HS.out.step (by repeat (first | exact Below.refl _ _ | apply below_alloc | apply pw_below_drewN | apply below_drew1))).now.2.2.1 hW) (by decide) works4_B works4_V (by decide) (by decide); rw [known_of1.1, known_of1.2] at h; exact h) (fun W hW => MPos_out m [97, 195, 164, 240, 159, 152, 128, 10, 98] 10 W (IsMap.below (HS.out.step (by repeat (first | exact Below.refl _ _ | apply below_alloc | apply pw_below_drewN | apply below_drew1))).now.2.2.1 hW) (by decide) (by decide)) (by decide)).mono ?_; rintro e w9 ⟨rfl, hb⟩; have m_ := Aside0.mk (HS.out.call (by repeat (first | exact Below.refl _ _ | apply below_alloc | apply pw_below_drewN | apply below_drew1)) hb); clear HS hb ; have HS := m_; clear m_)
  go_cut [26] from 44 (fun s26 W => s26 = .bool true ∧ Aside0 (Sta w W (fun _ => True)))
  case first =>
    have m_ := Aside0.mk (HS.out.step (below_alloc (Below.refl _ w9) (.cells #[.int .i64 0, .int .i64 0, .int .i64 0, .int .i64 0] 79)))
    clear HS
    have HS := m_
    clear m_
    generalize (w9.alloc (.cells #[.int .i64 0, .int .i64 0, .int .i64 0, .int .i64 0] 79)) = W9 at *
    have c0 : W9.cell? ⟨g14, 0, none⟩ = some (.int .i64 1) := HS.out.now.2.1.cell 0
    have c1 : W9.cell? ⟨g14, 1, none⟩ = some (.int .i64 8) := HS.out.now.2.1.cell 1
    have d0 : W9.cell? ⟨g20, 0, none⟩ = some (.int .i64 0) := HS.out.now.1.cell 0
    have d1 : W9.cell? ⟨g20, 1, none⟩ = some (.int .i64 1) := HS.out.now.1.cell 1
    have d2 : W9.cell? ⟨g20, 2, none⟩ = some (.int .i64 1) := HS.out.now.1.cell 2
    have d3 : W9.cell? ⟨g20, 3, none⟩ = some (.int .i64 0) := HS.out.now.1.cell 3
    go_region_held3 (fun wx => wx.cell? ⟨g14, 0, none⟩ = some (.int .i64 1) ∧ wx.cell? ⟨g14, 1, none⟩ = some (.int .i64 8) ∧ wx.cell? ⟨g20, 0, none⟩ = some (.int .i64 0) ∧ wx.cell? ⟨g20, 1, none⟩ = some (.int .i64 1) ∧ wx.cell? ⟨g20, 2, none⟩ = some (.int .i64 1) ∧ wx.cell? ⟨g20, 3, none⟩ = some (.int .i64 0)) (go_keep) (first | (have _t := v2; go_at_call 45; refine (pos_ok 0 1 _).mono ?_; rintro e wa ⟨rfl, hb⟩; have m_ := Aside0.mk (HS.out.call (by repeat (first | exact Below.refl _ _ | apply below_alloc | apply pw_below_drewN | apply below_drew1)) hb); clear HS hb ; have HS := m_; clear m_; have c0 : wa.cell? ⟨g14, 0, none⟩ = some (.int .i64 1) := HS.out.now.2.1.cell 0; have c1 : wa.cell? ⟨g14, 1, none⟩ = some (.int .i64 8) := HS.out.now.2.1.cell 1; have d0 : wa.cell? ⟨g20, 0, none⟩ = some (.int .i64 0) := HS.out.now.1.cell 0; have d1 : wa.cell? ⟨g20, 1, none⟩ = some (.int .i64 1) := HS.out.now.1.cell 1; have d2 : wa.cell? ⟨g20, 2, none⟩ = some (.int .i64 1) := HS.out.now.1.cell 2; have d3 : wa.cell? ⟨g20, 3, none⟩ = some (.int .i64 0) := HS.out.now.1.cell 3; clear v2 _t) | (have _t := v3; go_at_call 45; refine (pos_ok 1 0 _).mono ?_; rintro e wb ⟨rfl, hb⟩; have m_ := Aside0.mk (HS.out.call (by repeat (first | exact Below.refl _ _ | apply below_alloc | apply pw_below_drewN | apply below_drew1)) hb); clear HS hb ; have HS := m_; clear m_; have c0 : wb.cell? ⟨g14, 0, none⟩ = some (.int .i64 1) := HS.out.now.2.1.cell 0; have c1 : wb.cell? ⟨g14, 1, none⟩ = some (.int .i64 8) := HS.out.now.2.1.cell 1; have d0 : wb.cell? ⟨g20, 0, none⟩ = some (.int .i64 0) := HS.out.now.1.cell 0; have d1 : wb.cell? ⟨g20, 1, none⟩ = some (.int .i64 1) := HS.out.now.1.cell 1; have d2 : wb.cell? ⟨g20, 2, none⟩ = some (.int .i64 1) := HS.out.now.1.cell 2; have d3 : wb.cell? ⟨g20, 3, none⟩ = some (.int .i64 0) := HS.out.now.1.cell 3; clear v3 _t))
    go_wp2
    go_meet
    exact ⟨rfl, ⟨(HS.out.step (by repeat (first | exact Below.refl _ _ | apply below_alloc | apply pw_below_drewN | apply below_drew1))).only trivial (fun _ _ h _ => h)⟩⟩
  case rest =>
    clear HS
    obtain ⟨rfl, HS⟩ := hcut
    go_upto_region 18 with (go_at_call 34; refine (MNew_ok 30 _ 6 [97, 13, 10, 13, 98, 10] 6 _ (by exact lit_at _ _ _ _ _ (by simp) rfl (by decide)) (by decide) (fun e => by cases e) known_chk2 (by decide)).mono ?_; rintro e w2 ⟨m2, rfl, hM, hb⟩; have m_ := Aside0.mk ((HS.out.call (by repeat (first | exact Below.refl _ _ | apply below_alloc | apply pw_below_drewN | apply below_drew1)) hb).add hM (keeps_map _ _)); clear HS hb hM; have HS := m_; clear m_)
    go_upto_region 19 with (first | (have _t := tb0; go_at_call 53; refine (at_ok m2 [97, 13, 10, 13, 98, 10] 0 5 1 _ (HS.out.step (by repeat (first | exact Below.refl _ _ | apply below_alloc | apply pw_below_drewN | apply below_drew1))).now.1 (by decide) known_B2 known_V2 (by decide) (by decide) (by decide) known_bt0).mono ?_; rintro e w3 ⟨rfl, hb⟩; have m_ := Aside0.mk (HS.out.call (by repeat (first | exact Below.refl _ _ | apply below_alloc | apply pw_below_drewN | apply below_drew1)) hb); clear HS hb ; have HS := m_; clear m_; clear tb0 _t) | (have _t := tb1; go_at_call 53; refine (at_ok m2 [97, 13, 10, 13, 98, 10] 1 5 3 _ (HS.out.step (by repeat (first | exact Below.refl _ _ | apply below_alloc | apply pw_below_drewN | apply below_drew1))).now.1 (by decide) known_B2 known_V2 (by decide) (by decide) (by decide) known_bt1).mono ?_; rintro e w3 ⟨rfl, hb⟩; have m_ := Aside0.mk (HS.out.call (by repeat (first | exact Below.refl _ _ | apply below_alloc | apply pw_below_drewN | apply below_drew1)) hb); clear HS hb ; have HS := m_; clear m_; clear tb1 _t) | (have _t := tc0; go_at_call 54; refine (of_ok m2 [97, 13, 10, 13, 98, 10] 1 0 1 _ (HS.out.step (by repeat (first | exact Below.refl _ _ | apply below_alloc | apply pw_below_drewN | apply below_drew1))).now.1 (by decide) known_B2 known_V2 (by decide) (by decide) known_bf0).mono ?_; rintro e w3 ⟨rfl, hb⟩; have m_ := Aside0.mk (HS.out.call (by repeat (first | exact Below.refl _ _ | apply below_alloc | apply pw_below_drewN | apply below_drew1)) hb); clear HS hb ; have HS := m_; clear m_; clear tc0 _t) | (have _t := tc1; go_at_call 54; refine (of_ok m2 [97, 13, 10, 13, 98, 10] 2 0 1 _ (HS.out.step (by repeat (first | exact Below.refl _ _ | apply below_alloc | apply pw_below_drewN | apply below_drew1))).now.1 (by decide) known_B2 known_V2 (by decide) (by decide) known_bf1).mono ?_; rintro e w3 ⟨rfl, hb⟩; have m_ := Aside0.mk (HS.out.call (by repeat (first | exact Below.refl _ _ | apply below_alloc | apply pw_below_drewN | apply below_drew1)) hb); clear HS hb ; have HS := m_; clear m_; clear tc1 _t) | (have _t := tc2; go_at_call 54; refine (of_ok m2 [97, 13, 10, 13, 98, 10] 3 1 0 _ (HS.out.step (by repeat (first | exact Below.refl _ _ | apply below_alloc | apply pw_below_drewN | apply below_drew1))).now.1 (by decide) known_B2 known_V2 (by decide) (by decide) known_bf2).mono ?_; rintro e w3 ⟨rfl, hb⟩; have m_ := Aside0.mk (HS.out.call (by repeat (first | exact Below.refl _ _ | apply below_alloc | apply pw_below_drewN | apply below_drew1)) hb); clear HS hb ; have HS := m_; clear m_; clear tc2 _t) | (have _t := tc3; go_at_call 54; refine (of_ok m2 [97, 13, 10, 13, 98, 10] 4 2 0 _ (HS.out.step (by repeat (first | exact Below.refl _ _ | apply below_alloc | apply pw_below_drewN | apply below_drew1))).now.1 (by decide) known_B2 known_V2 (by decide) (by decide) known_bf3).mono ?_; rintro e w3 ⟨rfl, hb⟩; have m_ := Aside0.mk (HS.out.call (by repeat (first | exact Below.refl _ _ | apply below_alloc | apply pw_below_drewN | apply below_drew1)) hb); clear HS hb ; have HS := m_; clear m_; clear tc3 _t) | (have _t := tc4; go_at_call 54; refine (of_ok m2 [97, 13, 10, 13, 98, 10] 5 2 1 _ (HS.out.step (by repeat (first | exact Below.refl _ _ | apply below_alloc | apply pw_below_drewN | apply below_drew1))).now.1 (by decide) known_B2 known_V2 (by decide) (by decide) known_bf4).mono ?_; rintro e w3 ⟨rfl, hb⟩; have m_ := Aside0.mk (HS.out.call (by repeat (first | exact Below.refl _ _ | apply below_alloc | apply pw_below_drewN | apply below_drew1)) hb); clear HS hb ; have HS := m_; clear m_; clear tc4 _t) | (have _t := tc5; go_at_call 54; refine (of_ok m2 [97, 13, 10, 13, 98, 10] 6 3 0 _ (HS.out.step (by repeat (first | exact Below.refl _ _ | apply below_alloc | apply pw_below_drewN | apply below_drew1))).now.1 (by decide) known_B2 known_V2 (by decide) (by decide) known_bf5).mono ?_; rintro e w3 ⟨rfl, hb⟩; have m_ := Aside0.mk (HS.out.call (by repeat (first | exact Below.refl _ _ | apply below_alloc | apply pw_below_drewN | apply below_drew1)) hb); clear HS hb ; have HS := m_; clear m_; clear tc5 _t) | (go_at_call 41; refine (MEnd_is m2 [97, 13, 10, 13, 98, 10] _ (HS.out.step (by repeat (first | exact Below.refl _ _ | apply below_alloc | apply pw_below_drewN | apply below_drew1))).now.1 (by decide) known_B2 known_V2).mono ?_; rintro e w4 ⟨rfl, hb⟩; rw [show (([97, 13, 10, 13, 98, 10] : List Int).length : Int) = 6 from rfl, known_bf5.1, known_bf5.2]; have m_ := Aside0.mk (HS.out.call (by repeat (first | exact Below.refl _ _ | apply below_alloc | apply pw_below_drewN | apply below_drew1)) hb); clear HS hb ; have HS := m_; clear m_) | (go_at_call 45; refine (pos_ok 3 0 _).mono ?_; rintro e w3 ⟨rfl, hb⟩; have m_ := Aside0.mk (HS.out.call (by repeat (first | exact Below.refl _ _ | apply below_alloc | apply pw_below_drewN | apply below_drew1)) hb); clear HS hb ; have HS := m_; clear m_))
    go_upto_region 20 with (go_at_call 34; refine (MNew_err 30 _ 1 [255] 0 10 _ (by exact lit_at _ _ _ _ _ (by simp) rfl (by decide)) (by decide) known_chk3 (by decide)).mono ?_; rintro e w2 ⟨rfl, hb⟩; have m_ := Aside0.mk (HS.out.call (by repeat (first | exact Below.refl _ _ | apply below_alloc | apply pw_below_drewN | apply below_drew1)) hb); clear HS hb ; have HS := m_; clear m_)
    go_upto_region 21 with (go_at_call 34; refine (MNew_err 30 _ 1 [195] 0 3 _ (by exact lit_at _ _ _ _ _ (by simp) rfl (by decide)) (by decide) known_chk4 (by decide)).mono ?_; rintro e w2 ⟨rfl, hb⟩; have m_ := Aside0.mk (HS.out.call (by repeat (first | exact Below.refl _ _ | apply below_alloc | apply pw_below_drewN | apply below_drew1)) hb); clear HS hb ; have HS := m_; clear m_)
    go_wp2
    have m_ := Aside0.mk (HS.out.only (G := fun W => NoMap W none) (.inl rfl) (keeps_noMap _))
    clear HS
    have HS := m_
    clear m_
    go_loopw [34, 35] (fun s34 s35 W => ∃ (p : Option Addr) (i : Int), s34 = .pointer p ∧ s35 = .int .i64 i ∧ 0 ≤ i ∧ i ≤ 2 ∧ Aside0 (Sta w W (fun W => NoMap W p))) (fun _ s35 _ => (2 - intOf s35).toNat)
    case atStart => exact ⟨none, 0, rfl, rfl, by omega, by omega, HS⟩
    case round =>
      clear HS
      obtain ⟨p, i, rfl, rfl, hi0, hi1, HS⟩ := hrel
      by_cases hlt : i < 2
      · have tp := True.intro
        go_wp2_with (first | (have _t := tp; go_at_call 45; refine (pos_ok (-1) 0 _).mono ?_; rintro e w3 ⟨rfl, hb⟩; have m_ := Aside0.mk (HS.out.call (by repeat (first | exact Below.refl _ _ | apply below_alloc | apply pw_below_drewN | apply below_drew1)) hb); clear HS hb ; have HS := m_; clear m_; clear tp _t) | (go_at_call 37; refine (MOffset_no p (-1) 0 _ (HS.out.step (by repeat (first | exact Below.refl _ _ | apply below_alloc | apply pw_below_drewN | apply below_drew1))).now).mono ?_; rintro e w3 ⟨rfl, hb⟩; have m_ := Aside0.mk (HS.out.call (by repeat (first | exact Below.refl _ _ | apply below_alloc | apply pw_below_drewN | apply below_drew1)) hb); clear HS hb ; have HS := m_; clear m_) | (go_at_call 39; refine (MPos_no p (-1) _ (HS.out.step (by repeat (first | exact Below.refl _ _ | apply below_alloc | apply pw_below_drewN | apply below_drew1))).now).mono ?_; rintro e w4 ⟨rfl, hb⟩; have m_ := Aside0.mk (HS.out.call (by repeat (first | exact Below.refl _ _ | apply below_alloc | apply pw_below_drewN | apply below_drew1)) hb); clear HS hb ; have HS := m_; clear m_) | (go_at_call 48; refine (MSpan_e1 p 0 0 0 0 0 1 _ (fun W hW => MOffset_no p 0 0 W (NoMap.below (HS.out.step (by repeat (first | exact Below.refl _ _ | apply below_alloc | apply pw_below_drewN | apply below_drew1))).now hW)) (by decide)).mono ?_; rintro e w5 ⟨rfl, hb⟩; have m_ := Aside0.mk (HS.out.call (by repeat (first | exact Below.refl _ _ | apply below_alloc | apply pw_below_drewN | apply below_drew1)) hb); clear HS hb ; have HS := m_; clear m_) | (go_at_call 50; refine (MRange_e1 p 0 0 0 0 1 _ (fun W hW => MPos_no p 0 W (NoMap.below (HS.out.step (by repeat (first | exact Below.refl _ _ | apply below_alloc | apply pw_below_drewN | apply below_drew1))).now hW)) (by decide)).mono ?_; rintro e w6 ⟨rfl, hb⟩; have m_ := Aside0.mk (HS.out.call (by repeat (first | exact Below.refl _ _ | apply below_alloc | apply pw_below_drewN | apply below_drew1)) hb); clear HS hb ; have HS := m_; clear m_) | (go_at_call 41; refine (MEnd_no p _ (HS.out.step (by repeat (first | exact Below.refl _ _ | apply below_alloc | apply pw_below_drewN | apply below_drew1))).now).mono ?_; rintro e w7 ⟨rfl, hb⟩; have m_ := Aside0.mk (HS.out.call (by repeat (first | exact Below.refl _ _ | apply below_alloc | apply pw_below_drewN | apply below_drew1)) hb); clear HS hb ; have HS := m_; clear m_) | (go_at_call 45; refine (pos_ok 0 0 _).mono ?_; rintro e w3 ⟨rfl, hb⟩; have m_ := Aside0.mk (HS.out.call (by repeat (first | exact Below.refl _ _ | apply below_alloc | apply pw_below_drewN | apply below_drew1)) hb); clear HS hb ; have HS := m_; clear m_))
        go_roundw
        case measure => simp [intOf]; omega
        case rel => exact ⟨_, i + 1, rfl, by simp, by omega, by omega, ⟨(HS.out.step (by repeat (first | exact Below.refl _ _ | apply below_alloc | apply pw_below_drewN | apply below_drew1))).only (.inr ⟨_, rfl, blk_new _ _⟩) (keeps_noMap _)⟩⟩
      · go_wp2_with (go_at_call 36; refine (pworks_ok _).mono ?_; rintro e w9 ⟨rfl, hb⟩; have m_ := Aside0.mk (HS.out.call (by repeat (first | exact Below.refl _ _ | apply below_alloc | apply pw_below_drewN | apply below_drew1)) hb); clear HS hb ; have HS := m_; clear m_)
        go_ret
        exact ⟨rfl, HS.out.bel⟩
theorem PlaceKnown_said (W : World) : Calls Try.prog 19 #[] W fun e w' => e = .returned (.bool true) ∧ Below W.heap.size W w' := PlaceKnown_ok W
end Go.Proofs.Ytogfaahdbecdnaa.B

namespace Go.Proofs.Ytogfaahdbecdnaa.placeKnown
open Go.ChangeShapes Go.WideShapes Go.ChangeAt Go.RowKit Go.Proofs.Ytogfaahdbecdnaa.B
set_option linter.unusedVariables false
theorem own : ownKnob Try.prog.godebug = none := by kernel_rfl
theorem laidOut : laidOutB Try.prog = true := by kernel_rfl
set_option maxRecDepth 100000 in
theorem lifted (os : Os) (started : os.Started) (H : Type) (enc : TypeId × Value → H) :
    ReturnsInHanded {} Try.checked os 19 .any (Rows.placeKnownSpec.pre6 enc Try.prog Try.f19 Rows.placeKnownRow.domain false) (Rows.placeKnownSpec.post enc Try.prog Try.f19 false true false false) := by
  refine returnsInHanded_of_change_sized (C := Try.checked) own started (by kernel_rfl) Try.func19
    (ChangeSpec.witness6 (enc := enc) (C := Try.checked) false ⟨#[], #[], []⟩ 8 (by kernel_rfl) (by kernel_rfl) (by kernel_rfl) (by kernel_rfl)) ?_
  intro W base args ds gs before hval0 hW hcnd hsz0 _
  have hval : ∀ (j : Nat) t v, Try.f19.params[j]? = some t → args[j]? = some v → Value.okWide Try.prog W .any base t v := hval0
  have hW' := hW
  obtain ⟨p, q, hA0, hV, rfl, hfz, hnd⟩ := hW
  have hA : DataW.TrodAll enc Try.prog W 0 (fun _ => true) true Try.f19.params.toList args.toList ds p := hA0
  rw [Try.params19] at hA hval
  obtain ⟨rfl, rfl, rfl⟩ := trodAll_none hA
  obtain ⟨rfl, rfl⟩ := trodVars_none hV
  clear hA0 hval0 hsz0
  refine (PlaceKnown_said  W ).mono fun e W' ⟨he, bel⟩ => ?_
  subst he
  exact ⟨_, rfl, _, _, _, [], _, [], hW', trodAll_mk1 (shut_bool Try.underlying4 _), trodAll_mk0, rfl, bel.frame _, fun h => by cases h⟩
theorem over : Rows.placeKnownRow.holds Try.pinned (OpenSpec.ofChange Rows.placeKnownSpec) :=
  OpenClaim.holds_of_wide 19 Try.f19 rfl rfl rfl rfl rfl rfl rfl ⟨rfl, rfl, rfl, rfl, rfl⟩ rfl rfl rfl rfl rfl (by kernel_rfl) Try.func19 (by kernel_rfl)
    (of_decide_eq_true (by kernel_rfl)) (by unfold Func.isWrapper; first | (rw [if_pos (by decide +kernel)]; kernel_rfl) | (rw [if_neg (by decide +kernel)]; exact ⟨rfl, rfl⟩))
    (fun os started H enc _ => lifted os started H enc)
theorem proved : Rows.PlaceKnownSaid := over
#print axioms proved
end Go.Proofs.Ytogfaahdbecdnaa.placeKnown
namespace Go.Proofs.Ytogfaahdbecdnaa
/-- The row, under a short name, for the claim. -/
theorem placeKnown_holds : Rows.PlaceKnownSaid := placeKnown.proved
end Go.Proofs.Ytogfaahdbecdnaa
