/-
  The row of PlaceRise, in its second form: for every input of bulk at most 1048576 the call answers true, and the input reads as it did.
-/
import Derived.Lib.SmallJoins
import Derived.WideKeyArgs
import Derived.OpenShut
import Derived.WalkKit
import Derived.ProofKit
import Derived.ShutString
import Derived.ChangeOld
import Derived.Below
import Derived.SizedLaws
import Derived.JoinedCond
import Derived.Test.YtogfaahdbecdnaaZH6
set_option linter.unusedSimpArgs false
set_option linter.unusedVariables false
/-
  place: Span, Range, of the program and of the document, over what Offset and Pos answer.
-/
namespace Go.Proofs.Ytogfaahdbecdnaa.B
open Go.RowKit Go.Shelf Go.Proofs Go.Proofs.YtogfaahdbecdnaaW.PrintWords Go.Proofs.YtogfaahdbecdnaaW.PrintLast Go.Proofs.YtogfaahdbecdnaaW.PrintMore Go.Proofs.Ytogfaahdbecdnaa.FBase
set_option linter.unusedVariables false
set_option linter.unusedSimpArgs false

set_option maxRecDepth 100000 in
set_option maxHeartbeats 1000000 in
theorem MSpan_e1 (p : Option Addr) (x0 x1 x2 x3 va ea : Int) (w : World) (h1 : ∀ W, Below w.heap.size w W → Calls Try.prog 37 #[.pointer p, .agg #[.int .i64 x0, .int .i64 x1]] W fun e W' => e = .returned (.tuple #[.int .i64 va, .int .i64 ea]) ∧ Below W.heap.size W W') (hz : ea ≠ 0) : Calls Try.prog 48 #[.pointer p, .agg #[.int .i64 x0, .int .i64 x1, .int .i64 x2, .int .i64 x3]] w fun e w' => e = .returned (.tuple #[.agg #[.int .i64 0, .int .i64 0], .int .i64 ea]) ∧ Below w.heap.size w w' := by
  have hb1 := below_alloc (Below.refl _ w) (.cells #[.int .i64 x0, .int .i64 x1, .int .i64 x2, .int .i64 x3] 79)
  have hb2 : Below (w.alloc (.cells #[.int .i64 x0, .int .i64 x1, .int .i64 x2, .int .i64 x3] 79)).heap.size (w.alloc (.cells #[.int .i64 x0, .int .i64 x1, .int .i64 x2, .int .i64 x3] 79)) ((w.alloc (.cells #[.int .i64 x0, .int .i64 x1, .int .i64 x2, .int .i64 x3] 79)).alloc (.cells #[.int .i64 0, .int .i64 0] 35)) := below_alloc (Below.refl _ _) _
  have hg : IsBlk ((w.alloc (.cells #[.int .i64 x0, .int .i64 x1, .int .i64 x2, .int .i64 x3] 79)).alloc (.cells #[.int .i64 0, .int .i64 0] 35)) (w.alloc (.cells #[.int .i64 x0, .int .i64 x1, .int .i64 x2, .int .i64 x3] 79)).heap.size (.cells #[.int .i64 0, .int .i64 0] 35) := blk_new _ _
  rw [World.size_alloc] at hg
  have HS : Aside0 (Sta w ((w.alloc (.cells #[.int .i64 x0, .int .i64 x1, .int .i64 x2, .int .i64 x3] 79)).alloc (.cells #[.int .i64 0, .int .i64 0] 35)) (fun W => IsBlk W w.heap.size (.cells #[.int .i64 x0, .int .i64 x1, .int .i64 x2, .int .i64 x3] 79) ∧ IsBlk W (w.heap.size + 1) (.cells #[.int .i64 0, .int .i64 0] 35))) := ⟨⟨below_step hb1 hb2, ⟨IsBlk.below (blk_new w _) hb2, hg⟩, keeps_and (keeps_blk _ _) (keeps_blk _ _)⟩⟩
  clear hb1 hb2 hg
  have n1 := blk_lt HS.out.now.1
  have n2 := blk_lt HS.out.now.2
  have c0 : ((w.alloc (.cells #[.int .i64 x0, .int .i64 x1, .int .i64 x2, .int .i64 x3] 79)).alloc (.cells #[.int .i64 0, .int .i64 0] 35)).cell? ⟨w.heap.size, 0, none⟩ = some (.int .i64 x0) := HS.out.now.1.cell 0
  have c1 : ((w.alloc (.cells #[.int .i64 x0, .int .i64 x1, .int .i64 x2, .int .i64 x3] 79)).alloc (.cells #[.int .i64 0, .int .i64 0] 35)).cell? ⟨w.heap.size, 1, none⟩ = some (.int .i64 x1) := HS.out.now.1.cell 1
  have c2 : ((w.alloc (.cells #[.int .i64 x0, .int .i64 x1, .int .i64 x2, .int .i64 x3] 79)).alloc (.cells #[.int .i64 0, .int .i64 0] 35)).cell? ⟨w.heap.size, 2, none⟩ = some (.int .i64 x2) := HS.out.now.1.cell 2
  have c3 : ((w.alloc (.cells #[.int .i64 x0, .int .i64 x1, .int .i64 x2, .int .i64 x3] 79)).alloc (.cells #[.int .i64 0, .int .i64 0] 35)).cell? ⟨w.heap.size, 3, none⟩ = some (.int .i64 x3) := HS.out.now.1.cell 3
  have k0 : ((w.alloc (.cells #[.int .i64 x0, .int .i64 x1, .int .i64 x2, .int .i64 x3] 79)).alloc (.cells #[.int .i64 0, .int .i64 0] 35)).cell? ⟨w.heap.size + 1, 0, none⟩ = some (.int .i64 0) := HS.out.now.2.cell 0
  have f0 := HS.out.now.2.frozen 0
  have k1 : ((w.alloc (.cells #[.int .i64 x0, .int .i64 x1, .int .i64 x2, .int .i64 x3] 79)).alloc (.cells #[.int .i64 0, .int .i64 0] 35)).cell? ⟨w.heap.size + 1, 1, none⟩ = some (.int .i64 0) := HS.out.now.2.cell 1
  have f1 := HS.out.now.2.frozen 1
  have H1 := Aside0.mk h1
  clear h1
  have hz1 : (ea != 0) = true := bne_iff_ne.mpr hz
  clear hz
  have t1 := True.intro
  have t2 := True.intro
  go_enter Try.func48, Try.ntmps48
  go_wp2_with (have _t := t1; go_at_call 37; refine (H1.out _ (HS.out.step (by repeat (first | exact Below.refl _ _ | apply below_alloc | apply pw_below_drewN | apply below_drew1))).bel).mono ?_; rintro e w1 ⟨rfl, hb⟩; have m_ := Aside0.mk (HS.out.call (by repeat (first | exact Below.refl _ _ | apply below_alloc | apply pw_below_drewN | apply below_drew1)) hb); clear HS hb; have HS := m_; clear m_; have n1 := blk_lt HS.out.now.1; have n2 := blk_lt HS.out.now.2; have c0 : w1.cell? ⟨w.heap.size, 0, none⟩ = some (.int .i64 x0) := HS.out.now.1.cell 0; have c1 : w1.cell? ⟨w.heap.size, 1, none⟩ = some (.int .i64 x1) := HS.out.now.1.cell 1; have c2 : w1.cell? ⟨w.heap.size, 2, none⟩ = some (.int .i64 x2) := HS.out.now.1.cell 2; have c3 : w1.cell? ⟨w.heap.size, 3, none⟩ = some (.int .i64 x3) := HS.out.now.1.cell 3; have k0 : w1.cell? ⟨w.heap.size + 1, 0, none⟩ = some (.int .i64 0) := HS.out.now.2.cell 0; have f0 := HS.out.now.2.frozen 0; have k1 : w1.cell? ⟨w.heap.size + 1, 1, none⟩ = some (.int .i64 0) := HS.out.now.2.cell 1; have f1 := HS.out.now.2.frozen 1; clear t1 _t)
  all_goals try (go_step3; go_wp2)
  first | rw [Exit.noGoto_ret] | skip
  refine bodyPost_ret (v := .tuple #[.agg #[.int .i64 0, .int .i64 0], .int .i64 ea]) (by simp [results, Try.results48, go_sem, *]) rfl ⟨rfl, ?_⟩
  have hS := HS.out.bel
  repeat (first | exact hS | apply below_alloc | apply pw_below_drewN | apply below_drew1 | refine Below.setCell ?_ (by simp) _)
set_option maxRecDepth 100000 in
set_option maxHeartbeats 1000000 in
theorem MSpan_e2 (p : Option Addr) (x0 x1 x2 x3 va vb eb : Int) (w : World) (h1 : ∀ W, Below w.heap.size w W → Calls Try.prog 37 #[.pointer p, .agg #[.int .i64 x0, .int .i64 x1]] W fun e W' => e = .returned (.tuple #[.int .i64 va, .int .i64 0]) ∧ Below W.heap.size W W') (h2 : ∀ W, Below w.heap.size w W → Calls Try.prog 37 #[.pointer p, .agg #[.int .i64 x2, .int .i64 x3]] W fun e W' => e = .returned (.tuple #[.int .i64 vb, .int .i64 eb]) ∧ Below W.heap.size W W') (hz : eb ≠ 0) : Calls Try.prog 48 #[.pointer p, .agg #[.int .i64 x0, .int .i64 x1, .int .i64 x2, .int .i64 x3]] w fun e w' => e = .returned (.tuple #[.agg #[.int .i64 0, .int .i64 0], .int .i64 eb]) ∧ Below w.heap.size w w' := by
  have hb1 := below_alloc (Below.refl _ w) (.cells #[.int .i64 x0, .int .i64 x1, .int .i64 x2, .int .i64 x3] 79)
  have hb2 : Below (w.alloc (.cells #[.int .i64 x0, .int .i64 x1, .int .i64 x2, .int .i64 x3] 79)).heap.size (w.alloc (.cells #[.int .i64 x0, .int .i64 x1, .int .i64 x2, .int .i64 x3] 79)) ((w.alloc (.cells #[.int .i64 x0, .int .i64 x1, .int .i64 x2, .int .i64 x3] 79)).alloc (.cells #[.int .i64 0, .int .i64 0] 35)) := below_alloc (Below.refl _ _) _
  have hg : IsBlk ((w.alloc (.cells #[.int .i64 x0, .int .i64 x1, .int .i64 x2, .int .i64 x3] 79)).alloc (.cells #[.int .i64 0, .int .i64 0] 35)) (w.alloc (.cells #[.int .i64 x0, .int .i64 x1, .int .i64 x2, .int .i64 x3] 79)).heap.size (.cells #[.int .i64 0, .int .i64 0] 35) := blk_new _ _
  rw [World.size_alloc] at hg
  have HS : Aside0 (Sta w ((w.alloc (.cells #[.int .i64 x0, .int .i64 x1, .int .i64 x2, .int .i64 x3] 79)).alloc (.cells #[.int .i64 0, .int .i64 0] 35)) (fun W => IsBlk W w.heap.size (.cells #[.int .i64 x0, .int .i64 x1, .int .i64 x2, .int .i64 x3] 79) ∧ IsBlk W (w.heap.size + 1) (.cells #[.int .i64 0, .int .i64 0] 35))) := ⟨⟨below_step hb1 hb2, ⟨IsBlk.below (blk_new w _) hb2, hg⟩, keeps_and (keeps_blk _ _) (keeps_blk _ _)⟩⟩
  clear hb1 hb2 hg
  have n1 := blk_lt HS.out.now.1
  have n2 := blk_lt HS.out.now.2
  have c0 : ((w.alloc (.cells #[.int .i64 x0, .int .i64 x1, .int .i64 x2, .int .i64 x3] 79)).alloc (.cells #[.int .i64 0, .int .i64 0] 35)).cell? ⟨w.heap.size, 0, none⟩ = some (.int .i64 x0) := HS.out.now.1.cell 0
  have c1 : ((w.alloc (.cells #[.int .i64 x0, .int .i64 x1, .int .i64 x2, .int .i64 x3] 79)).alloc (.cells #[.int .i64 0, .int .i64 0] 35)).cell? ⟨w.heap.size, 1, none⟩ = some (.int .i64 x1) := HS.out.now.1.cell 1
  have c2 : ((w.alloc (.cells #[.int .i64 x0, .int .i64 x1, .int .i64 x2, .int .i64 x3] 79)).alloc (.cells #[.int .i64 0, .int .i64 0] 35)).cell? ⟨w.heap.size, 2, none⟩ = some (.int .i64 x2) := HS.out.now.1.cell 2
  have c3 : ((w.alloc (.cells #[.int .i64 x0, .int .i64 x1, .int .i64 x2, .int .i64 x3] 79)).alloc (.cells #[.int .i64 0, .int .i64 0] 35)).cell? ⟨w.heap.size, 3, none⟩ = some (.int .i64 x3) := HS.out.now.1.cell 3
  have k0 : ((w.alloc (.cells #[.int .i64 x0, .int .i64 x1, .int .i64 x2, .int .i64 x3] 79)).alloc (.cells #[.int .i64 0, .int .i64 0] 35)).cell? ⟨w.heap.size + 1, 0, none⟩ = some (.int .i64 0) := HS.out.now.2.cell 0
  have f0 := HS.out.now.2.frozen 0
  have k1 : ((w.alloc (.cells #[.int .i64 x0, .int .i64 x1, .int .i64 x2, .int .i64 x3] 79)).alloc (.cells #[.int .i64 0, .int .i64 0] 35)).cell? ⟨w.heap.size + 1, 1, none⟩ = some (.int .i64 0) := HS.out.now.2.cell 1
  have f1 := HS.out.now.2.frozen 1
  have H1 := Aside0.mk h1
  clear h1
  have H2 := Aside0.mk h2
  clear h2
  have hz1 : (eb != 0) = true := bne_iff_ne.mpr hz
  clear hz
  have t1 := True.intro
  have t2 := True.intro
  go_enter Try.func48, Try.ntmps48
  go_wp2_with (first | (have _t := t1; go_at_call 37; refine (H1.out _ (HS.out.step (by repeat (first | exact Below.refl _ _ | apply below_alloc | apply pw_below_drewN | apply below_drew1))).bel).mono ?_; rintro e w1 ⟨rfl, hb⟩; have m_ := Aside0.mk (HS.out.call (by repeat (first | exact Below.refl _ _ | apply below_alloc | apply pw_below_drewN | apply below_drew1)) hb); clear HS hb; have HS := m_; clear m_; have n1 := blk_lt HS.out.now.1; have n2 := blk_lt HS.out.now.2; have c0 : w1.cell? ⟨w.heap.size, 0, none⟩ = some (.int .i64 x0) := HS.out.now.1.cell 0; have c1 : w1.cell? ⟨w.heap.size, 1, none⟩ = some (.int .i64 x1) := HS.out.now.1.cell 1; have c2 : w1.cell? ⟨w.heap.size, 2, none⟩ = some (.int .i64 x2) := HS.out.now.1.cell 2; have c3 : w1.cell? ⟨w.heap.size, 3, none⟩ = some (.int .i64 x3) := HS.out.now.1.cell 3; have k0 : w1.cell? ⟨w.heap.size + 1, 0, none⟩ = some (.int .i64 0) := HS.out.now.2.cell 0; have f0 := HS.out.now.2.frozen 0; have k1 : w1.cell? ⟨w.heap.size + 1, 1, none⟩ = some (.int .i64 0) := HS.out.now.2.cell 1; have f1 := HS.out.now.2.frozen 1; clear t1 _t) | (have _t := t2; go_at_call 37; refine (H2.out _ (HS.out.step (by repeat (first | exact Below.refl _ _ | apply below_alloc | apply pw_below_drewN | apply below_drew1))).bel).mono ?_; rintro e w2 ⟨rfl, hb⟩; have m_ := Aside0.mk (HS.out.call (by repeat (first | exact Below.refl _ _ | apply below_alloc | apply pw_below_drewN | apply below_drew1)) hb); clear HS hb; have HS := m_; clear m_; have n1 := blk_lt HS.out.now.1; have n2 := blk_lt HS.out.now.2; have c0 : w2.cell? ⟨w.heap.size, 0, none⟩ = some (.int .i64 x0) := HS.out.now.1.cell 0; have c1 : w2.cell? ⟨w.heap.size, 1, none⟩ = some (.int .i64 x1) := HS.out.now.1.cell 1; have c2 : w2.cell? ⟨w.heap.size, 2, none⟩ = some (.int .i64 x2) := HS.out.now.1.cell 2; have c3 : w2.cell? ⟨w.heap.size, 3, none⟩ = some (.int .i64 x3) := HS.out.now.1.cell 3; have k0 : w2.cell? ⟨w.heap.size + 1, 0, none⟩ = some (.int .i64 0) := HS.out.now.2.cell 0; have f0 := HS.out.now.2.frozen 0; have k1 : w2.cell? ⟨w.heap.size + 1, 1, none⟩ = some (.int .i64 0) := HS.out.now.2.cell 1; have f1 := HS.out.now.2.frozen 1; clear t2 _t))
  all_goals try (go_step3; go_wp2)
  first | rw [Exit.noGoto_ret] | skip
  refine bodyPost_ret (v := .tuple #[.agg #[.int .i64 0, .int .i64 0], .int .i64 eb]) (by simp [results, Try.results48, go_sem, *]) rfl ⟨rfl, ?_⟩
  have hS := HS.out.bel
  repeat (first | exact hS | apply below_alloc | apply pw_below_drewN | apply below_drew1 | refine Below.setCell ?_ (by simp) _)
set_option maxRecDepth 100000 in
set_option maxHeartbeats 1000000 in
theorem MSpan_rev (p : Option Addr) (x0 x1 x2 x3 va vb : Int) (w : World) (h1 : ∀ W, Below w.heap.size w W → Calls Try.prog 37 #[.pointer p, .agg #[.int .i64 x0, .int .i64 x1]] W fun e W' => e = .returned (.tuple #[.int .i64 va, .int .i64 0]) ∧ Below W.heap.size W W') (h2 : ∀ W, Below w.heap.size w W → Calls Try.prog 37 #[.pointer p, .agg #[.int .i64 x2, .int .i64 x3]] W fun e W' => e = .returned (.tuple #[.int .i64 vb, .int .i64 0]) ∧ Below W.heap.size W W') (hlt : vb < va) : Calls Try.prog 48 #[.pointer p, .agg #[.int .i64 x0, .int .i64 x1, .int .i64 x2, .int .i64 x3]] w fun e w' => e = .returned (.tuple #[.agg #[.int .i64 0, .int .i64 0], .int .i64 2]) ∧ Below w.heap.size w w' := by
  have hb1 := below_alloc (Below.refl _ w) (.cells #[.int .i64 x0, .int .i64 x1, .int .i64 x2, .int .i64 x3] 79)
  have hb2 : Below (w.alloc (.cells #[.int .i64 x0, .int .i64 x1, .int .i64 x2, .int .i64 x3] 79)).heap.size (w.alloc (.cells #[.int .i64 x0, .int .i64 x1, .int .i64 x2, .int .i64 x3] 79)) ((w.alloc (.cells #[.int .i64 x0, .int .i64 x1, .int .i64 x2, .int .i64 x3] 79)).alloc (.cells #[.int .i64 0, .int .i64 0] 35)) := below_alloc (Below.refl _ _) _
  have hg : IsBlk ((w.alloc (.cells #[.int .i64 x0, .int .i64 x1, .int .i64 x2, .int .i64 x3] 79)).alloc (.cells #[.int .i64 0, .int .i64 0] 35)) (w.alloc (.cells #[.int .i64 x0, .int .i64 x1, .int .i64 x2, .int .i64 x3] 79)).heap.size (.cells #[.int .i64 0, .int .i64 0] 35) := blk_new _ _
  rw [World.size_alloc] at hg
  have HS : Aside0 (Sta w ((w.alloc (.cells #[.int .i64 x0, .int .i64 x1, .int .i64 x2, .int .i64 x3] 79)).alloc (.cells #[.int .i64 0, .int .i64 0] 35)) (fun W => IsBlk W w.heap.size (.cells #[.int .i64 x0, .int .i64 x1, .int .i64 x2, .int .i64 x3] 79) ∧ IsBlk W (w.heap.size + 1) (.cells #[.int .i64 0, .int .i64 0] 35))) := ⟨⟨below_step hb1 hb2, ⟨IsBlk.below (blk_new w _) hb2, hg⟩, keeps_and (keeps_blk _ _) (keeps_blk _ _)⟩⟩
  clear hb1 hb2 hg
  have n1 := blk_lt HS.out.now.1
  have n2 := blk_lt HS.out.now.2
  have c0 : ((w.alloc (.cells #[.int .i64 x0, .int .i64 x1, .int .i64 x2, .int .i64 x3] 79)).alloc (.cells #[.int .i64 0, .int .i64 0] 35)).cell? ⟨w.heap.size, 0, none⟩ = some (.int .i64 x0) := HS.out.now.1.cell 0
  have c1 : ((w.alloc (.cells #[.int .i64 x0, .int .i64 x1, .int .i64 x2, .int .i64 x3] 79)).alloc (.cells #[.int .i64 0, .int .i64 0] 35)).cell? ⟨w.heap.size, 1, none⟩ = some (.int .i64 x1) := HS.out.now.1.cell 1
  have c2 : ((w.alloc (.cells #[.int .i64 x0, .int .i64 x1, .int .i64 x2, .int .i64 x3] 79)).alloc (.cells #[.int .i64 0, .int .i64 0] 35)).cell? ⟨w.heap.size, 2, none⟩ = some (.int .i64 x2) := HS.out.now.1.cell 2
  have c3 : ((w.alloc (.cells #[.int .i64 x0, .int .i64 x1, .int .i64 x2, .int .i64 x3] 79)).alloc (.cells #[.int .i64 0, .int .i64 0] 35)).cell? ⟨w.heap.size, 3, none⟩ = some (.int .i64 x3) := HS.out.now.1.cell 3
  have k0 : ((w.alloc (.cells #[.int .i64 x0, .int .i64 x1, .int .i64 x2, .int .i64 x3] 79)).alloc (.cells #[.int .i64 0, .int .i64 0] 35)).cell? ⟨w.heap.size + 1, 0, none⟩ = some (.int .i64 0) := HS.out.now.2.cell 0
  have f0 := HS.out.now.2.frozen 0
  have k1 : ((w.alloc (.cells #[.int .i64 x0, .int .i64 x1, .int .i64 x2, .int .i64 x3] 79)).alloc (.cells #[.int .i64 0, .int .i64 0] 35)).cell? ⟨w.heap.size + 1, 1, none⟩ = some (.int .i64 0) := HS.out.now.2.cell 1
  have f1 := HS.out.now.2.frozen 1
  have H1 := Aside0.mk h1
  clear h1
  have H2 := Aside0.mk h2
  clear h2
  have t1 := True.intro
  have t2 := True.intro
  go_enter Try.func48, Try.ntmps48
  go_wp2_with (first | (have _t := t1; go_at_call 37; refine (H1.out _ (HS.out.step (by repeat (first | exact Below.refl _ _ | apply below_alloc | apply pw_below_drewN | apply below_drew1))).bel).mono ?_; rintro e w1 ⟨rfl, hb⟩; have m_ := Aside0.mk (HS.out.call (by repeat (first | exact Below.refl _ _ | apply below_alloc | apply pw_below_drewN | apply below_drew1)) hb); clear HS hb; have HS := m_; clear m_; have n1 := blk_lt HS.out.now.1; have n2 := blk_lt HS.out.now.2; have c0 : w1.cell? ⟨w.heap.size, 0, none⟩ = some (.int .i64 x0) := HS.out.now.1.cell 0; have c1 : w1.cell? ⟨w.heap.size, 1, none⟩ = some (.int .i64 x1) := HS.out.now.1.cell 1; have c2 : w1.cell? ⟨w.heap.size, 2, none⟩ = some (.int .i64 x2) := HS.out.now.1.cell 2; have c3 : w1.cell? ⟨w.heap.size, 3, none⟩ = some (.int .i64 x3) := HS.out.now.1.cell 3; have k0 : w1.cell? ⟨w.heap.size + 1, 0, none⟩ = some (.int .i64 0) := HS.out.now.2.cell 0; have f0 := HS.out.now.2.frozen 0; have k1 : w1.cell? ⟨w.heap.size + 1, 1, none⟩ = some (.int .i64 0) := HS.out.now.2.cell 1; have f1 := HS.out.now.2.frozen 1; clear t1 _t) | (have _t := t2; go_at_call 37; refine (H2.out _ (HS.out.step (by repeat (first | exact Below.refl _ _ | apply below_alloc | apply pw_below_drewN | apply below_drew1))).bel).mono ?_; rintro e w2 ⟨rfl, hb⟩; have m_ := Aside0.mk (HS.out.call (by repeat (first | exact Below.refl _ _ | apply below_alloc | apply pw_below_drewN | apply below_drew1)) hb); clear HS hb; have HS := m_; clear m_; have n1 := blk_lt HS.out.now.1; have n2 := blk_lt HS.out.now.2; have c0 : w2.cell? ⟨w.heap.size, 0, none⟩ = some (.int .i64 x0) := HS.out.now.1.cell 0; have c1 : w2.cell? ⟨w.heap.size, 1, none⟩ = some (.int .i64 x1) := HS.out.now.1.cell 1; have c2 : w2.cell? ⟨w.heap.size, 2, none⟩ = some (.int .i64 x2) := HS.out.now.1.cell 2; have c3 : w2.cell? ⟨w.heap.size, 3, none⟩ = some (.int .i64 x3) := HS.out.now.1.cell 3; have k0 : w2.cell? ⟨w.heap.size + 1, 0, none⟩ = some (.int .i64 0) := HS.out.now.2.cell 0; have f0 := HS.out.now.2.frozen 0; have k1 : w2.cell? ⟨w.heap.size + 1, 1, none⟩ = some (.int .i64 0) := HS.out.now.2.cell 1; have f1 := HS.out.now.2.frozen 1; clear t2 _t))
  all_goals try (go_step3; go_wp2)
  first | rw [Exit.noGoto_ret] | skip
  refine bodyPost_ret (v := .tuple #[.agg #[.int .i64 0, .int .i64 0], .int .i64 2]) (by simp [results, Try.results48, go_sem, *]) rfl ⟨rfl, ?_⟩
  have hS := HS.out.bel
  repeat (first | exact hS | apply below_alloc | apply pw_below_drewN | apply below_drew1 | refine Below.setCell ?_ (by simp) _)
set_option maxRecDepth 100000 in
set_option maxHeartbeats 1000000 in
theorem MSpan_ok (p : Option Addr) (x0 x1 x2 x3 va vb : Int) (w : World) (h1 : ∀ W, Below w.heap.size w W → Calls Try.prog 37 #[.pointer p, .agg #[.int .i64 x0, .int .i64 x1]] W fun e W' => e = .returned (.tuple #[.int .i64 va, .int .i64 0]) ∧ Below W.heap.size W W') (h2 : ∀ W, Below w.heap.size w W → Calls Try.prog 37 #[.pointer p, .agg #[.int .i64 x2, .int .i64 x3]] W fun e W' => e = .returned (.tuple #[.int .i64 vb, .int .i64 0]) ∧ Below W.heap.size W W') (hlt : va ≤ vb) : Calls Try.prog 48 #[.pointer p, .agg #[.int .i64 x0, .int .i64 x1, .int .i64 x2, .int .i64 x3]] w fun e w' => e = .returned (.tuple #[.agg #[.int .i64 va, .int .i64 vb], .int .i64 0]) ∧ Below w.heap.size w w' := by
  have hb1 := below_alloc (Below.refl _ w) (.cells #[.int .i64 x0, .int .i64 x1, .int .i64 x2, .int .i64 x3] 79)
  have hb2 : Below (w.alloc (.cells #[.int .i64 x0, .int .i64 x1, .int .i64 x2, .int .i64 x3] 79)).heap.size (w.alloc (.cells #[.int .i64 x0, .int .i64 x1, .int .i64 x2, .int .i64 x3] 79)) ((w.alloc (.cells #[.int .i64 x0, .int .i64 x1, .int .i64 x2, .int .i64 x3] 79)).alloc (.cells #[.int .i64 0, .int .i64 0] 35)) := below_alloc (Below.refl _ _) _
  have hg : IsBlk ((w.alloc (.cells #[.int .i64 x0, .int .i64 x1, .int .i64 x2, .int .i64 x3] 79)).alloc (.cells #[.int .i64 0, .int .i64 0] 35)) (w.alloc (.cells #[.int .i64 x0, .int .i64 x1, .int .i64 x2, .int .i64 x3] 79)).heap.size (.cells #[.int .i64 0, .int .i64 0] 35) := blk_new _ _
  rw [World.size_alloc] at hg
  have HS : Aside0 (Sta w ((w.alloc (.cells #[.int .i64 x0, .int .i64 x1, .int .i64 x2, .int .i64 x3] 79)).alloc (.cells #[.int .i64 0, .int .i64 0] 35)) (fun W => IsBlk W w.heap.size (.cells #[.int .i64 x0, .int .i64 x1, .int .i64 x2, .int .i64 x3] 79) ∧ IsBlk W (w.heap.size + 1) (.cells #[.int .i64 0, .int .i64 0] 35))) := ⟨⟨below_step hb1 hb2, ⟨IsBlk.below (blk_new w _) hb2, hg⟩, keeps_and (keeps_blk _ _) (keeps_blk _ _)⟩⟩
  clear hb1 hb2 hg
  have n1 := blk_lt HS.out.now.1
  have n2 := blk_lt HS.out.now.2
  have c0 : ((w.alloc (.cells #[.int .i64 x0, .int .i64 x1, .int .i64 x2, .int .i64 x3] 79)).alloc (.cells #[.int .i64 0, .int .i64 0] 35)).cell? ⟨w.heap.size, 0, none⟩ = some (.int .i64 x0) := HS.out.now.1.cell 0
  have c1 : ((w.alloc (.cells #[.int .i64 x0, .int .i64 x1, .int .i64 x2, .int .i64 x3] 79)).alloc (.cells #[.int .i64 0, .int .i64 0] 35)).cell? ⟨w.heap.size, 1, none⟩ = some (.int .i64 x1) := HS.out.now.1.cell 1
  have c2 : ((w.alloc (.cells #[.int .i64 x0, .int .i64 x1, .int .i64 x2, .int .i64 x3] 79)).alloc (.cells #[.int .i64 0, .int .i64 0] 35)).cell? ⟨w.heap.size, 2, none⟩ = some (.int .i64 x2) := HS.out.now.1.cell 2
  have c3 : ((w.alloc (.cells #[.int .i64 x0, .int .i64 x1, .int .i64 x2, .int .i64 x3] 79)).alloc (.cells #[.int .i64 0, .int .i64 0] 35)).cell? ⟨w.heap.size, 3, none⟩ = some (.int .i64 x3) := HS.out.now.1.cell 3
  have k0 : ((w.alloc (.cells #[.int .i64 x0, .int .i64 x1, .int .i64 x2, .int .i64 x3] 79)).alloc (.cells #[.int .i64 0, .int .i64 0] 35)).cell? ⟨w.heap.size + 1, 0, none⟩ = some (.int .i64 0) := HS.out.now.2.cell 0
  have f0 := HS.out.now.2.frozen 0
  have k1 : ((w.alloc (.cells #[.int .i64 x0, .int .i64 x1, .int .i64 x2, .int .i64 x3] 79)).alloc (.cells #[.int .i64 0, .int .i64 0] 35)).cell? ⟨w.heap.size + 1, 1, none⟩ = some (.int .i64 0) := HS.out.now.2.cell 1
  have f1 := HS.out.now.2.frozen 1
  have H1 := Aside0.mk h1
  clear h1
  have H2 := Aside0.mk h2
  clear h2
  have t1 := True.intro
  have t2 := True.intro
  go_enter Try.func48, Try.ntmps48
  go_wp2_with (first | (have _t := t1; go_at_call 37; refine (H1.out _ (HS.out.step (by repeat (first | exact Below.refl _ _ | apply below_alloc | apply pw_below_drewN | apply below_drew1))).bel).mono ?_; rintro e w1 ⟨rfl, hb⟩; have m_ := Aside0.mk (HS.out.call (by repeat (first | exact Below.refl _ _ | apply below_alloc | apply pw_below_drewN | apply below_drew1)) hb); clear HS hb; have HS := m_; clear m_; have n1 := blk_lt HS.out.now.1; have n2 := blk_lt HS.out.now.2; have c0 : w1.cell? ⟨w.heap.size, 0, none⟩ = some (.int .i64 x0) := HS.out.now.1.cell 0; have c1 : w1.cell? ⟨w.heap.size, 1, none⟩ = some (.int .i64 x1) := HS.out.now.1.cell 1; have c2 : w1.cell? ⟨w.heap.size, 2, none⟩ = some (.int .i64 x2) := HS.out.now.1.cell 2; have c3 : w1.cell? ⟨w.heap.size, 3, none⟩ = some (.int .i64 x3) := HS.out.now.1.cell 3; have k0 : w1.cell? ⟨w.heap.size + 1, 0, none⟩ = some (.int .i64 0) := HS.out.now.2.cell 0; have f0 := HS.out.now.2.frozen 0; have k1 : w1.cell? ⟨w.heap.size + 1, 1, none⟩ = some (.int .i64 0) := HS.out.now.2.cell 1; have f1 := HS.out.now.2.frozen 1; clear t1 _t) | (have _t := t2; go_at_call 37; refine (H2.out _ (HS.out.step (by repeat (first | exact Below.refl _ _ | apply below_alloc | apply pw_below_drewN | apply below_drew1))).bel).mono ?_; rintro e w2 ⟨rfl, hb⟩; have m_ := Aside0.mk (HS.out.call (by repeat (first | exact Below.refl _ _ | apply below_alloc | apply pw_below_drewN | apply below_drew1)) hb); clear HS hb; have HS := m_; clear m_; have n1 := blk_lt HS.out.now.1; have n2 := blk_lt HS.out.now.2; have c0 : w2.cell? ⟨w.heap.size, 0, none⟩ = some (.int .i64 x0) := HS.out.now.1.cell 0; have c1 : w2.cell? ⟨w.heap.size, 1, none⟩ = some (.int .i64 x1) := HS.out.now.1.cell 1; have c2 : w2.cell? ⟨w.heap.size, 2, none⟩ = some (.int .i64 x2) := HS.out.now.1.cell 2; have c3 : w2.cell? ⟨w.heap.size, 3, none⟩ = some (.int .i64 x3) := HS.out.now.1.cell 3; have k0 : w2.cell? ⟨w.heap.size + 1, 0, none⟩ = some (.int .i64 0) := HS.out.now.2.cell 0; have f0 := HS.out.now.2.frozen 0; have k1 : w2.cell? ⟨w.heap.size + 1, 1, none⟩ = some (.int .i64 0) := HS.out.now.2.cell 1; have f1 := HS.out.now.2.frozen 1; clear t2 _t))
  all_goals try (go_step3; go_wp2)
  first | rw [Exit.noGoto_ret] | skip
  refine bodyPost_ret (v := .tuple #[.agg #[.int .i64 va, .int .i64 vb], .int .i64 0]) (by simp [results, Try.results48, go_sem, *]) rfl ⟨rfl, ?_⟩
  have hS := HS.out.bel
  repeat (first | exact hS | apply below_alloc | apply pw_below_drewN | apply below_drew1 | refine Below.setCell ?_ (by simp) _)

set_option maxRecDepth 100000 in
set_option maxHeartbeats 1000000 in
theorem MRange_e1 (p : Option Addr) (x0 x1 a ca ea : Int) (w : World) (h1 : ∀ W, Below w.heap.size w W → Calls Try.prog 39 #[.pointer p, .int .i64 x0] W fun e W' => e = .returned (.tuple #[.agg #[.int .i64 a, .int .i64 ca], .int .i64 ea]) ∧ Below W.heap.size W W') (hz : ea ≠ 0) : Calls Try.prog 50 #[.pointer p, .agg #[.int .i64 x0, .int .i64 x1]] w fun e w' => e = .returned (.tuple #[.agg #[.int .i64 0, .int .i64 0, .int .i64 0, .int .i64 0], .int .i64 ea]) ∧ Below w.heap.size w w' := by
  have hb1 := below_alloc (Below.refl _ w) (.cells #[.int .i64 x0, .int .i64 x1] 35)
  have hb2 : Below (w.alloc (.cells #[.int .i64 x0, .int .i64 x1] 35)).heap.size (w.alloc (.cells #[.int .i64 x0, .int .i64 x1] 35)) ((w.alloc (.cells #[.int .i64 x0, .int .i64 x1] 35)).alloc (.cells #[.int .i64 0, .int .i64 0, .int .i64 0, .int .i64 0] 79)) := below_alloc (Below.refl _ _) _
  have hg : IsBlk ((w.alloc (.cells #[.int .i64 x0, .int .i64 x1] 35)).alloc (.cells #[.int .i64 0, .int .i64 0, .int .i64 0, .int .i64 0] 79)) (w.alloc (.cells #[.int .i64 x0, .int .i64 x1] 35)).heap.size (.cells #[.int .i64 0, .int .i64 0, .int .i64 0, .int .i64 0] 79) := blk_new _ _
  rw [World.size_alloc] at hg
  have HS : Aside0 (Sta w ((w.alloc (.cells #[.int .i64 x0, .int .i64 x1] 35)).alloc (.cells #[.int .i64 0, .int .i64 0, .int .i64 0, .int .i64 0] 79)) (fun W => IsBlk W w.heap.size (.cells #[.int .i64 x0, .int .i64 x1] 35) ∧ IsBlk W (w.heap.size + 1) (.cells #[.int .i64 0, .int .i64 0, .int .i64 0, .int .i64 0] 79))) := ⟨⟨below_step hb1 hb2, ⟨IsBlk.below (blk_new w _) hb2, hg⟩, keeps_and (keeps_blk _ _) (keeps_blk _ _)⟩⟩
  clear hb1 hb2 hg
  have n1 := blk_lt HS.out.now.1
  have n2 := blk_lt HS.out.now.2
  have c0 : ((w.alloc (.cells #[.int .i64 x0, .int .i64 x1] 35)).alloc (.cells #[.int .i64 0, .int .i64 0, .int .i64 0, .int .i64 0] 79)).cell? ⟨w.heap.size, 0, none⟩ = some (.int .i64 x0) := HS.out.now.1.cell 0
  have c1 : ((w.alloc (.cells #[.int .i64 x0, .int .i64 x1] 35)).alloc (.cells #[.int .i64 0, .int .i64 0, .int .i64 0, .int .i64 0] 79)).cell? ⟨w.heap.size, 1, none⟩ = some (.int .i64 x1) := HS.out.now.1.cell 1
  have k0 : ((w.alloc (.cells #[.int .i64 x0, .int .i64 x1] 35)).alloc (.cells #[.int .i64 0, .int .i64 0, .int .i64 0, .int .i64 0] 79)).cell? ⟨w.heap.size + 1, 0, none⟩ = some (.int .i64 0) := HS.out.now.2.cell 0
  have f0 := HS.out.now.2.frozen 0
  have k1 : ((w.alloc (.cells #[.int .i64 x0, .int .i64 x1] 35)).alloc (.cells #[.int .i64 0, .int .i64 0, .int .i64 0, .int .i64 0] 79)).cell? ⟨w.heap.size + 1, 1, none⟩ = some (.int .i64 0) := HS.out.now.2.cell 1
  have f1 := HS.out.now.2.frozen 1
  have k2 : ((w.alloc (.cells #[.int .i64 x0, .int .i64 x1] 35)).alloc (.cells #[.int .i64 0, .int .i64 0, .int .i64 0, .int .i64 0] 79)).cell? ⟨w.heap.size + 1, 2, none⟩ = some (.int .i64 0) := HS.out.now.2.cell 2
  have f2 := HS.out.now.2.frozen 2
  have k3 : ((w.alloc (.cells #[.int .i64 x0, .int .i64 x1] 35)).alloc (.cells #[.int .i64 0, .int .i64 0, .int .i64 0, .int .i64 0] 79)).cell? ⟨w.heap.size + 1, 3, none⟩ = some (.int .i64 0) := HS.out.now.2.cell 3
  have f3 := HS.out.now.2.frozen 3
  have H1 := Aside0.mk h1
  clear h1
  have hz1 : (ea != 0) = true := bne_iff_ne.mpr hz
  clear hz
  have t1 := True.intro
  have t2 := True.intro
  go_enter Try.func50, Try.ntmps50
  go_wp2_with (have _t := t1; go_at_call 39; refine (H1.out _ (HS.out.step (by repeat (first | exact Below.refl _ _ | apply below_alloc | apply pw_below_drewN | apply below_drew1))).bel).mono ?_; rintro e w1 ⟨rfl, hb⟩; have m_ := Aside0.mk (HS.out.call (by repeat (first | exact Below.refl _ _ | apply below_alloc | apply pw_below_drewN | apply below_drew1)) hb); clear HS hb; have HS := m_; clear m_; have n1 := blk_lt HS.out.now.1; have n2 := blk_lt HS.out.now.2; have c0 : w1.cell? ⟨w.heap.size, 0, none⟩ = some (.int .i64 x0) := HS.out.now.1.cell 0; have c1 : w1.cell? ⟨w.heap.size, 1, none⟩ = some (.int .i64 x1) := HS.out.now.1.cell 1; have k0 : w1.cell? ⟨w.heap.size + 1, 0, none⟩ = some (.int .i64 0) := HS.out.now.2.cell 0; have f0 := HS.out.now.2.frozen 0; have k1 : w1.cell? ⟨w.heap.size + 1, 1, none⟩ = some (.int .i64 0) := HS.out.now.2.cell 1; have f1 := HS.out.now.2.frozen 1; have k2 : w1.cell? ⟨w.heap.size + 1, 2, none⟩ = some (.int .i64 0) := HS.out.now.2.cell 2; have f2 := HS.out.now.2.frozen 2; have k3 : w1.cell? ⟨w.heap.size + 1, 3, none⟩ = some (.int .i64 0) := HS.out.now.2.cell 3; have f3 := HS.out.now.2.frozen 3; have c0a := cell_alloc1 c0; have c1a := cell_alloc1 c1; have k0a := cell_alloc1 k0; have f0a := froz_alloc1 k0 f0; have k1a := cell_alloc1 k1; have f1a := froz_alloc1 k1 f1; have k2a := cell_alloc1 k2; have f2a := froz_alloc1 k2 f2; have k3a := cell_alloc1 k3; have f3a := froz_alloc1 k3 f3; clear t1 _t)
  all_goals try (go_step3; go_wp2)
  first | rw [Exit.noGoto_ret] | skip
  refine bodyPost_ret (v := .tuple #[.agg #[.int .i64 0, .int .i64 0, .int .i64 0, .int .i64 0], .int .i64 ea]) (by simp [results, Try.results50, go_sem, *]) rfl ⟨rfl, ?_⟩
  have hS := HS.out.bel
  repeat (first | exact hS | apply below_alloc | apply pw_below_drewN | apply below_drew1 | refine Below.setCell ?_ (by simp) _)
set_option maxRecDepth 100000 in
set_option maxHeartbeats 1000000 in
theorem MRange_e2 (p : Option Addr) (x0 x1 a ca b cb eb : Int) (w : World) (h1 : ∀ W, Below w.heap.size w W → Calls Try.prog 39 #[.pointer p, .int .i64 x0] W fun e W' => e = .returned (.tuple #[.agg #[.int .i64 a, .int .i64 ca], .int .i64 0]) ∧ Below W.heap.size W W') (h2 : ∀ W, Below w.heap.size w W → Calls Try.prog 39 #[.pointer p, .int .i64 x1] W fun e W' => e = .returned (.tuple #[.agg #[.int .i64 b, .int .i64 cb], .int .i64 eb]) ∧ Below W.heap.size W W') (hz : eb ≠ 0) : Calls Try.prog 50 #[.pointer p, .agg #[.int .i64 x0, .int .i64 x1]] w fun e w' => e = .returned (.tuple #[.agg #[.int .i64 0, .int .i64 0, .int .i64 0, .int .i64 0], .int .i64 eb]) ∧ Below w.heap.size w w' := by
  have hb1 := below_alloc (Below.refl _ w) (.cells #[.int .i64 x0, .int .i64 x1] 35)
  have hb2 : Below (w.alloc (.cells #[.int .i64 x0, .int .i64 x1] 35)).heap.size (w.alloc (.cells #[.int .i64 x0, .int .i64 x1] 35)) ((w.alloc (.cells #[.int .i64 x0, .int .i64 x1] 35)).alloc (.cells #[.int .i64 0, .int .i64 0, .int .i64 0, .int .i64 0] 79)) := below_alloc (Below.refl _ _) _
  have hg : IsBlk ((w.alloc (.cells #[.int .i64 x0, .int .i64 x1] 35)).alloc (.cells #[.int .i64 0, .int .i64 0, .int .i64 0, .int .i64 0] 79)) (w.alloc (.cells #[.int .i64 x0, .int .i64 x1] 35)).heap.size (.cells #[.int .i64 0, .int .i64 0, .int .i64 0, .int .i64 0] 79) := blk_new _ _
  rw [World.size_alloc] at hg
  have HS : Aside0 (Sta w ((w.alloc (.cells #[.int .i64 x0, .int .i64 x1] 35)).alloc (.cells #[.int .i64 0, .int .i64 0, .int .i64 0, .int .i64 0] 79)) (fun W => IsBlk W w.heap.size (.cells #[.int .i64 x0, .int .i64 x1] 35) ∧ IsBlk W (w.heap.size + 1) (.cells #[.int .i64 0, .int .i64 0, .int .i64 0, .int .i64 0] 79))) := ⟨⟨below_step hb1 hb2, ⟨IsBlk.below (blk_new w _) hb2, hg⟩, keeps_and (keeps_blk _ _) (keeps_blk _ _)⟩⟩
  clear hb1 hb2 hg
  have n1 := blk_lt HS.out.now.1
  have n2 := blk_lt HS.out.now.2
  have c0 : ((w.alloc (.cells #[.int .i64 x0, .int .i64 x1] 35)).alloc (.cells #[.int .i64 0, .int .i64 0, .int .i64 0, .int .i64 0] 79)).cell? ⟨w.heap.size, 0, none⟩ = some (.int .i64 x0) := HS.out.now.1.cell 0
  have c1 : ((w.alloc (.cells #[.int .i64 x0, .int .i64 x1] 35)).alloc (.cells #[.int .i64 0, .int .i64 0, .int .i64 0, .int .i64 0] 79)).cell? ⟨w.heap.size, 1, none⟩ = some (.int .i64 x1) := HS.out.now.1.cell 1
  have k0 : ((w.alloc (.cells #[.int .i64 x0, .int .i64 x1] 35)).alloc (.cells #[.int .i64 0, .int .i64 0, .int .i64 0, .int .i64 0] 79)).cell? ⟨w.heap.size + 1, 0, none⟩ = some (.int .i64 0) := HS.out.now.2.cell 0
  have f0 := HS.out.now.2.frozen 0
  have k1 : ((w.alloc (.cells #[.int .i64 x0, .int .i64 x1] 35)).alloc (.cells #[.int .i64 0, .int .i64 0, .int .i64 0, .int .i64 0] 79)).cell? ⟨w.heap.size + 1, 1, none⟩ = some (.int .i64 0) := HS.out.now.2.cell 1
  have f1 := HS.out.now.2.frozen 1
  have k2 : ((w.alloc (.cells #[.int .i64 x0, .int .i64 x1] 35)).alloc (.cells #[.int .i64 0, .int .i64 0, .int .i64 0, .int .i64 0] 79)).cell? ⟨w.heap.size + 1, 2, none⟩ = some (.int .i64 0) := HS.out.now.2.cell 2
  have f2 := HS.out.now.2.frozen 2
  have k3 : ((w.alloc (.cells #[.int .i64 x0, .int .i64 x1] 35)).alloc (.cells #[.int .i64 0, .int .i64 0, .int .i64 0, .int .i64 0] 79)).cell? ⟨w.heap.size + 1, 3, none⟩ = some (.int .i64 0) := HS.out.now.2.cell 3
  have f3 := HS.out.now.2.frozen 3
  have H1 := Aside0.mk h1
  clear h1
  have H2 := Aside0.mk h2
  clear h2
  have hz1 : (eb != 0) = true := bne_iff_ne.mpr hz
  clear hz
  have t1 := True.intro
  have t2 := True.intro
  go_enter Try.func50, Try.ntmps50
  go_wp2_with (first | (have _t := t1; go_at_call 39; refine (H1.out _ (HS.out.step (by repeat (first | exact Below.refl _ _ | apply below_alloc | apply pw_below_drewN | apply below_drew1))).bel).mono ?_; rintro e w1 ⟨rfl, hb⟩; have m_ := Aside0.mk (HS.out.call (by repeat (first | exact Below.refl _ _ | apply below_alloc | apply pw_below_drewN | apply below_drew1)) hb); clear HS hb; have HS := m_; clear m_; have n1 := blk_lt HS.out.now.1; have n2 := blk_lt HS.out.now.2; have c0 : w1.cell? ⟨w.heap.size, 0, none⟩ = some (.int .i64 x0) := HS.out.now.1.cell 0; have c1 : w1.cell? ⟨w.heap.size, 1, none⟩ = some (.int .i64 x1) := HS.out.now.1.cell 1; have k0 : w1.cell? ⟨w.heap.size + 1, 0, none⟩ = some (.int .i64 0) := HS.out.now.2.cell 0; have f0 := HS.out.now.2.frozen 0; have k1 : w1.cell? ⟨w.heap.size + 1, 1, none⟩ = some (.int .i64 0) := HS.out.now.2.cell 1; have f1 := HS.out.now.2.frozen 1; have k2 : w1.cell? ⟨w.heap.size + 1, 2, none⟩ = some (.int .i64 0) := HS.out.now.2.cell 2; have f2 := HS.out.now.2.frozen 2; have k3 : w1.cell? ⟨w.heap.size + 1, 3, none⟩ = some (.int .i64 0) := HS.out.now.2.cell 3; have f3 := HS.out.now.2.frozen 3; have c0a := cell_alloc1 c0; have c1a := cell_alloc1 c1; have k0a := cell_alloc1 k0; have f0a := froz_alloc1 k0 f0; have k1a := cell_alloc1 k1; have f1a := froz_alloc1 k1 f1; have k2a := cell_alloc1 k2; have f2a := froz_alloc1 k2 f2; have k3a := cell_alloc1 k3; have f3a := froz_alloc1 k3 f3; clear t1 _t) | (have _t := t2; go_at_call 39; refine (H2.out _ (HS.out.step (by repeat (first | exact Below.refl _ _ | apply below_alloc | apply pw_below_drewN | apply below_drew1))).bel).mono ?_; rintro e w2 ⟨rfl, hb⟩; have hp0 := cell_below ((blk_cell (blk_new w1 (.cells #[.int .i64 a, .int .i64 ca] 58)) 0).trans rfl) hb; have hp1 := cell_below ((blk_cell (blk_new w1 (.cells #[.int .i64 a, .int .i64 ca] 58)) 1).trans rfl) hb; have hp0a := cell_alloc1 hp0; have hp1a := cell_alloc1 hp1; have m_ := Aside0.mk (HS.out.call (by repeat (first | exact Below.refl _ _ | apply below_alloc | apply pw_below_drewN | apply below_drew1)) hb); clear HS hb; have HS := m_; clear m_; have n1 := blk_lt HS.out.now.1; have n2 := blk_lt HS.out.now.2; have c0 : w2.cell? ⟨w.heap.size, 0, none⟩ = some (.int .i64 x0) := HS.out.now.1.cell 0; have c1 : w2.cell? ⟨w.heap.size, 1, none⟩ = some (.int .i64 x1) := HS.out.now.1.cell 1; have k0 : w2.cell? ⟨w.heap.size + 1, 0, none⟩ = some (.int .i64 0) := HS.out.now.2.cell 0; have f0 := HS.out.now.2.frozen 0; have k1 : w2.cell? ⟨w.heap.size + 1, 1, none⟩ = some (.int .i64 0) := HS.out.now.2.cell 1; have f1 := HS.out.now.2.frozen 1; have k2 : w2.cell? ⟨w.heap.size + 1, 2, none⟩ = some (.int .i64 0) := HS.out.now.2.cell 2; have f2 := HS.out.now.2.frozen 2; have k3 : w2.cell? ⟨w.heap.size + 1, 3, none⟩ = some (.int .i64 0) := HS.out.now.2.cell 3; have f3 := HS.out.now.2.frozen 3; have c0a := cell_alloc1 c0; have c1a := cell_alloc1 c1; have k0a := cell_alloc1 k0; have f0a := froz_alloc1 k0 f0; have k1a := cell_alloc1 k1; have f1a := froz_alloc1 k1 f1; have k2a := cell_alloc1 k2; have f2a := froz_alloc1 k2 f2; have k3a := cell_alloc1 k3; have f3a := froz_alloc1 k3 f3; clear t2 _t))
  all_goals try (go_step3; go_wp2)
  first | rw [Exit.noGoto_ret] | skip
  refine bodyPost_ret (v := .tuple #[.agg #[.int .i64 0, .int .i64 0, .int .i64 0, .int .i64 0], .int .i64 eb]) (by simp [results, Try.results50, go_sem, *]) rfl ⟨rfl, ?_⟩
  have hS := HS.out.bel
  repeat (first | exact hS | apply below_alloc | apply pw_below_drewN | apply below_drew1 | refine Below.setCell ?_ (by simp) _)
set_option maxRecDepth 100000 in
set_option maxHeartbeats 1000000 in
theorem MRange_rev (p : Option Addr) (x0 x1 a ca b cb : Int) (w : World) (h1 : ∀ W, Below w.heap.size w W → Calls Try.prog 39 #[.pointer p, .int .i64 x0] W fun e W' => e = .returned (.tuple #[.agg #[.int .i64 a, .int .i64 ca], .int .i64 0]) ∧ Below W.heap.size W W') (h2 : ∀ W, Below w.heap.size w W → Calls Try.prog 39 #[.pointer p, .int .i64 x1] W fun e W' => e = .returned (.tuple #[.agg #[.int .i64 b, .int .i64 cb], .int .i64 0]) ∧ Below W.heap.size W W') (hlt : x1 < x0) : Calls Try.prog 50 #[.pointer p, .agg #[.int .i64 x0, .int .i64 x1]] w fun e w' => e = .returned (.tuple #[.agg #[.int .i64 0, .int .i64 0, .int .i64 0, .int .i64 0], .int .i64 2]) ∧ Below w.heap.size w w' := by
  have hb1 := below_alloc (Below.refl _ w) (.cells #[.int .i64 x0, .int .i64 x1] 35)
  have hb2 : Below (w.alloc (.cells #[.int .i64 x0, .int .i64 x1] 35)).heap.size (w.alloc (.cells #[.int .i64 x0, .int .i64 x1] 35)) ((w.alloc (.cells #[.int .i64 x0, .int .i64 x1] 35)).alloc (.cells #[.int .i64 0, .int .i64 0, .int .i64 0, .int .i64 0] 79)) := below_alloc (Below.refl _ _) _
  have hg : IsBlk ((w.alloc (.cells #[.int .i64 x0, .int .i64 x1] 35)).alloc (.cells #[.int .i64 0, .int .i64 0, .int .i64 0, .int .i64 0] 79)) (w.alloc (.cells #[.int .i64 x0, .int .i64 x1] 35)).heap.size (.cells #[.int .i64 0, .int .i64 0, .int .i64 0, .int .i64 0] 79) := blk_new _ _
  rw [World.size_alloc] at hg
  have HS : Aside0 (Sta w ((w.alloc (.cells #[.int .i64 x0, .int .i64 x1] 35)).alloc (.cells #[.int .i64 0, .int .i64 0, .int .i64 0, .int .i64 0] 79)) (fun W => IsBlk W w.heap.size (.cells #[.int .i64 x0, .int .i64 x1] 35) ∧ IsBlk W (w.heap.size + 1) (.cells #[.int .i64 0, .int .i64 0, .int .i64 0, .int .i64 0] 79))) := ⟨⟨below_step hb1 hb2, ⟨IsBlk.below (blk_new w _) hb2, hg⟩, keeps_and (keeps_blk _ _) (keeps_blk _ _)⟩⟩
  clear hb1 hb2 hg
  have n1 := blk_lt HS.out.now.1
  have n2 := blk_lt HS.out.now.2
  have c0 : ((w.alloc (.cells #[.int .i64 x0, .int .i64 x1] 35)).alloc (.cells #[.int .i64 0, .int .i64 0, .int .i64 0, .int .i64 0] 79)).cell? ⟨w.heap.size, 0, none⟩ = some (.int .i64 x0) := HS.out.now.1.cell 0
  have c1 : ((w.alloc (.cells #[.int .i64 x0, .int .i64 x1] 35)).alloc (.cells #[.int .i64 0, .int .i64 0, .int .i64 0, .int .i64 0] 79)).cell? ⟨w.heap.size, 1, none⟩ = some (.int .i64 x1) := HS.out.now.1.cell 1
  have k0 : ((w.alloc (.cells #[.int .i64 x0, .int .i64 x1] 35)).alloc (.cells #[.int .i64 0, .int .i64 0, .int .i64 0, .int .i64 0] 79)).cell? ⟨w.heap.size + 1, 0, none⟩ = some (.int .i64 0) := HS.out.now.2.cell 0
  have f0 := HS.out.now.2.frozen 0
  have k1 : ((w.alloc (.cells #[.int .i64 x0, .int .i64 x1] 35)).alloc (.cells #[.int .i64 0, .int .i64 0, .int .i64 0, .int .i64 0] 79)).cell? ⟨w.heap.size + 1, 1, none⟩ = some (.int .i64 0) := HS.out.now.2.cell 1
  have f1 := HS.out.now.2.frozen 1
  have k2 : ((w.alloc (.cells #[.int .i64 x0, .int .i64 x1] 35)).alloc (.cells #[.int .i64 0, .int .i64 0, .int .i64 0, .int .i64 0] 79)).cell? ⟨w.heap.size + 1, 2, none⟩ = some (.int .i64 0) := HS.out.now.2.cell 2
  have f2 := HS.out.now.2.frozen 2
  have k3 : ((w.alloc (.cells #[.int .i64 x0, .int .i64 x1] 35)).alloc (.cells #[.int .i64 0, .int .i64 0, .int .i64 0, .int .i64 0] 79)).cell? ⟨w.heap.size + 1, 3, none⟩ = some (.int .i64 0) := HS.out.now.2.cell 3
  have f3 := HS.out.now.2.frozen 3
  have H1 := Aside0.mk h1
  clear h1
  have H2 := Aside0.mk h2
  clear h2
  have t1 := True.intro
  have t2 := True.intro
  go_enter Try.func50, Try.ntmps50
  go_wp2_with (first | (have _t := t1; go_at_call 39; refine (H1.out _ (HS.out.step (by repeat (first | exact Below.refl _ _ | apply below_alloc | apply pw_below_drewN | apply below_drew1))).bel).mono ?_; rintro e w1 ⟨rfl, hb⟩; have m_ := Aside0.mk (HS.out.call (by repeat (first | exact Below.refl _ _ | apply below_alloc | apply pw_below_drewN | apply below_drew1)) hb); clear HS hb; have HS := m_; clear m_; have n1 := blk_lt HS.out.now.1; have n2 := blk_lt HS.out.now.2; have c0 : w1.cell? ⟨w.heap.size, 0, none⟩ = some (.int .i64 x0) := HS.out.now.1.cell 0; have c1 : w1.cell? ⟨w.heap.size, 1, none⟩ = some (.int .i64 x1) := HS.out.now.1.cell 1; have k0 : w1.cell? ⟨w.heap.size + 1, 0, none⟩ = some (.int .i64 0) := HS.out.now.2.cell 0; have f0 := HS.out.now.2.frozen 0; have k1 : w1.cell? ⟨w.heap.size + 1, 1, none⟩ = some (.int .i64 0) := HS.out.now.2.cell 1; have f1 := HS.out.now.2.frozen 1; have k2 : w1.cell? ⟨w.heap.size + 1, 2, none⟩ = some (.int .i64 0) := HS.out.now.2.cell 2; have f2 := HS.out.now.2.frozen 2; have k3 : w1.cell? ⟨w.heap.size + 1, 3, none⟩ = some (.int .i64 0) := HS.out.now.2.cell 3; have f3 := HS.out.now.2.frozen 3; have c0a := cell_alloc1 c0; have c1a := cell_alloc1 c1; have k0a := cell_alloc1 k0; have f0a := froz_alloc1 k0 f0; have k1a := cell_alloc1 k1; have f1a := froz_alloc1 k1 f1; have k2a := cell_alloc1 k2; have f2a := froz_alloc1 k2 f2; have k3a := cell_alloc1 k3; have f3a := froz_alloc1 k3 f3; clear t1 _t) | (have _t := t2; go_at_call 39; refine (H2.out _ (HS.out.step (by repeat (first | exact Below.refl _ _ | apply below_alloc | apply pw_below_drewN | apply below_drew1))).bel).mono ?_; rintro e w2 ⟨rfl, hb⟩; have hp0 := cell_below ((blk_cell (blk_new w1 (.cells #[.int .i64 a, .int .i64 ca] 58)) 0).trans rfl) hb; have hp1 := cell_below ((blk_cell (blk_new w1 (.cells #[.int .i64 a, .int .i64 ca] 58)) 1).trans rfl) hb; have hp0a := cell_alloc1 hp0; have hp1a := cell_alloc1 hp1; have m_ := Aside0.mk (HS.out.call (by repeat (first | exact Below.refl _ _ | apply below_alloc | apply pw_below_drewN | apply below_drew1)) hb); clear HS hb; have HS := m_; clear m_; have n1 := blk_lt HS.out.now.1; have n2 := blk_lt HS.out.now.2; have c0 : w2.cell? ⟨w.heap.size, 0, none⟩ = some (.int .i64 x0) := HS.out.now.1.cell 0; have c1 : w2.cell? ⟨w.heap.size, 1, none⟩ = some (.int .i64 x1) := HS.out.now.1.cell 1; have k0 : w2.cell? ⟨w.heap.size + 1, 0, none⟩ = some (.int .i64 0) := HS.out.now.2.cell 0; have f0 := HS.out.now.2.frozen 0; have k1 : w2.cell? ⟨w.heap.size + 1, 1, none⟩ = some (.int .i64 0) := HS.out.now.2.cell 1; have f1 := HS.out.now.2.frozen 1; have k2 : w2.cell? ⟨w.heap.size + 1, 2, none⟩ = some (.int .i64 0) := HS.out.now.2.cell 2; have f2 := HS.out.now.2.frozen 2; have k3 : w2.cell? ⟨w.heap.size + 1, 3, none⟩ = some (.int .i64 0) := HS.out.now.2.cell 3; have f3 := HS.out.now.2.frozen 3; have c0a := cell_alloc1 c0; have c1a := cell_alloc1 c1; have k0a := cell_alloc1 k0; have f0a := froz_alloc1 k0 f0; have k1a := cell_alloc1 k1; have f1a := froz_alloc1 k1 f1; have k2a := cell_alloc1 k2; have f2a := froz_alloc1 k2 f2; have k3a := cell_alloc1 k3; have f3a := froz_alloc1 k3 f3; clear t2 _t))
  all_goals try (go_step3; go_wp2)
  first | rw [Exit.noGoto_ret] | skip
  refine bodyPost_ret (v := .tuple #[.agg #[.int .i64 0, .int .i64 0, .int .i64 0, .int .i64 0], .int .i64 2]) (by simp [results, Try.results50, go_sem, *]) rfl ⟨rfl, ?_⟩
  have hS := HS.out.bel
  repeat (first | exact hS | apply below_alloc | apply pw_below_drewN | apply below_drew1 | refine Below.setCell ?_ (by simp) _)
set_option maxRecDepth 100000 in
set_option maxHeartbeats 1000000 in
theorem MRange_ok (p : Option Addr) (x0 x1 a ca b cb : Int) (w : World) (h1 : ∀ W, Below w.heap.size w W → Calls Try.prog 39 #[.pointer p, .int .i64 x0] W fun e W' => e = .returned (.tuple #[.agg #[.int .i64 a, .int .i64 ca], .int .i64 0]) ∧ Below W.heap.size W W') (h2 : ∀ W, Below w.heap.size w W → Calls Try.prog 39 #[.pointer p, .int .i64 x1] W fun e W' => e = .returned (.tuple #[.agg #[.int .i64 b, .int .i64 cb], .int .i64 0]) ∧ Below W.heap.size W W') (hlt : x0 ≤ x1) : Calls Try.prog 50 #[.pointer p, .agg #[.int .i64 x0, .int .i64 x1]] w fun e w' => e = .returned (.tuple #[.agg #[.int .i64 a, .int .i64 ca, .int .i64 b, .int .i64 cb], .int .i64 0]) ∧ Below w.heap.size w w' := by
  have hb1 := below_alloc (Below.refl _ w) (.cells #[.int .i64 x0, .int .i64 x1] 35)
  have hb2 : Below (w.alloc (.cells #[.int .i64 x0, .int .i64 x1] 35)).heap.size (w.alloc (.cells #[.int .i64 x0, .int .i64 x1] 35)) ((w.alloc (.cells #[.int .i64 x0, .int .i64 x1] 35)).alloc (.cells #[.int .i64 0, .int .i64 0, .int .i64 0, .int .i64 0] 79)) := below_alloc (Below.refl _ _) _
  have hg : IsBlk ((w.alloc (.cells #[.int .i64 x0, .int .i64 x1] 35)).alloc (.cells #[.int .i64 0, .int .i64 0, .int .i64 0, .int .i64 0] 79)) (w.alloc (.cells #[.int .i64 x0, .int .i64 x1] 35)).heap.size (.cells #[.int .i64 0, .int .i64 0, .int .i64 0, .int .i64 0] 79) := blk_new _ _
  rw [World.size_alloc] at hg
  have HS : Aside0 (Sta w ((w.alloc (.cells #[.int .i64 x0, .int .i64 x1] 35)).alloc (.cells #[.int .i64 0, .int .i64 0, .int .i64 0, .int .i64 0] 79)) (fun W => IsBlk W w.heap.size (.cells #[.int .i64 x0, .int .i64 x1] 35) ∧ IsBlk W (w.heap.size + 1) (.cells #[.int .i64 0, .int .i64 0, .int .i64 0, .int .i64 0] 79))) := ⟨⟨below_step hb1 hb2, ⟨IsBlk.below (blk_new w _) hb2, hg⟩, keeps_and (keeps_blk _ _) (keeps_blk _ _)⟩⟩
  clear hb1 hb2 hg
  have n1 := blk_lt HS.out.now.1
  have n2 := blk_lt HS.out.now.2
  have c0 : ((w.alloc (.cells #[.int .i64 x0, .int .i64 x1] 35)).alloc (.cells #[.int .i64 0, .int .i64 0, .int .i64 0, .int .i64 0] 79)).cell? ⟨w.heap.size, 0, none⟩ = some (.int .i64 x0) := HS.out.now.1.cell 0
  have c1 : ((w.alloc (.cells #[.int .i64 x0, .int .i64 x1] 35)).alloc (.cells #[.int .i64 0, .int .i64 0, .int .i64 0, .int .i64 0] 79)).cell? ⟨w.heap.size, 1, none⟩ = some (.int .i64 x1) := HS.out.now.1.cell 1
  have k0 : ((w.alloc (.cells #[.int .i64 x0, .int .i64 x1] 35)).alloc (.cells #[.int .i64 0, .int .i64 0, .int .i64 0, .int .i64 0] 79)).cell? ⟨w.heap.size + 1, 0, none⟩ = some (.int .i64 0) := HS.out.now.2.cell 0
  have f0 := HS.out.now.2.frozen 0
  have k1 : ((w.alloc (.cells #[.int .i64 x0, .int .i64 x1] 35)).alloc (.cells #[.int .i64 0, .int .i64 0, .int .i64 0, .int .i64 0] 79)).cell? ⟨w.heap.size + 1, 1, none⟩ = some (.int .i64 0) := HS.out.now.2.cell 1
  have f1 := HS.out.now.2.frozen 1
  have k2 : ((w.alloc (.cells #[.int .i64 x0, .int .i64 x1] 35)).alloc (.cells #[.int .i64 0, .int .i64 0, .int .i64 0, .int .i64 0] 79)).cell? ⟨w.heap.size + 1, 2, none⟩ = some (.int .i64 0) := HS.out.now.2.cell 2
  have f2 := HS.out.now.2.frozen 2
  have k3 : ((w.alloc (.cells #[.int .i64 x0, .int .i64 x1] 35)).alloc (.cells #[.int .i64 0, .int .i64 0, .int .i64 0, .int .i64 0] 79)).cell? ⟨w.heap.size + 1, 3, none⟩ = some (.int .i64 0) := HS.out.now.2.cell 3
  have f3 := HS.out.now.2.frozen 3
  have H1 := Aside0.mk h1
  clear h1
  have H2 := Aside0.mk h2
  clear h2
  have t1 := True.intro
  have t2 := True.intro
  go_enter Try.func50, Try.ntmps50
  go_wp2_with (first | (have _t := t1; go_at_call 39; refine (H1.out _ (HS.out.step (by repeat (first | exact Below.refl _ _ | apply below_alloc | apply pw_below_drewN | apply below_drew1))).bel).mono ?_; rintro e w1 ⟨rfl, hb⟩; have m_ := Aside0.mk (HS.out.call (by repeat (first | exact Below.refl _ _ | apply below_alloc | apply pw_below_drewN | apply below_drew1)) hb); clear HS hb; have HS := m_; clear m_; have n1 := blk_lt HS.out.now.1; have n2 := blk_lt HS.out.now.2; have c0 : w1.cell? ⟨w.heap.size, 0, none⟩ = some (.int .i64 x0) := HS.out.now.1.cell 0; have c1 : w1.cell? ⟨w.heap.size, 1, none⟩ = some (.int .i64 x1) := HS.out.now.1.cell 1; have k0 : w1.cell? ⟨w.heap.size + 1, 0, none⟩ = some (.int .i64 0) := HS.out.now.2.cell 0; have f0 := HS.out.now.2.frozen 0; have k1 : w1.cell? ⟨w.heap.size + 1, 1, none⟩ = some (.int .i64 0) := HS.out.now.2.cell 1; have f1 := HS.out.now.2.frozen 1; have k2 : w1.cell? ⟨w.heap.size + 1, 2, none⟩ = some (.int .i64 0) := HS.out.now.2.cell 2; have f2 := HS.out.now.2.frozen 2; have k3 : w1.cell? ⟨w.heap.size + 1, 3, none⟩ = some (.int .i64 0) := HS.out.now.2.cell 3; have f3 := HS.out.now.2.frozen 3; have c0a := cell_alloc1 c0; have c1a := cell_alloc1 c1; have k0a := cell_alloc1 k0; have f0a := froz_alloc1 k0 f0; have k1a := cell_alloc1 k1; have f1a := froz_alloc1 k1 f1; have k2a := cell_alloc1 k2; have f2a := froz_alloc1 k2 f2; have k3a := cell_alloc1 k3; have f3a := froz_alloc1 k3 f3; clear t1 _t) | (have _t := t2; go_at_call 39; refine (H2.out _ (HS.out.step (by repeat (first | exact Below.refl _ _ | apply below_alloc | apply pw_below_drewN | apply below_drew1))).bel).mono ?_; rintro e w2 ⟨rfl, hb⟩; have hp0 := cell_below ((blk_cell (blk_new w1 (.cells #[.int .i64 a, .int .i64 ca] 58)) 0).trans rfl) hb; have hp1 := cell_below ((blk_cell (blk_new w1 (.cells #[.int .i64 a, .int .i64 ca] 58)) 1).trans rfl) hb; have hp0a := cell_alloc1 hp0; have hp1a := cell_alloc1 hp1; have m_ := Aside0.mk (HS.out.call (by repeat (first | exact Below.refl _ _ | apply below_alloc | apply pw_below_drewN | apply below_drew1)) hb); clear HS hb; have HS := m_; clear m_; have n1 := blk_lt HS.out.now.1; have n2 := blk_lt HS.out.now.2; have c0 : w2.cell? ⟨w.heap.size, 0, none⟩ = some (.int .i64 x0) := HS.out.now.1.cell 0; have c1 : w2.cell? ⟨w.heap.size, 1, none⟩ = some (.int .i64 x1) := HS.out.now.1.cell 1; have k0 : w2.cell? ⟨w.heap.size + 1, 0, none⟩ = some (.int .i64 0) := HS.out.now.2.cell 0; have f0 := HS.out.now.2.frozen 0; have k1 : w2.cell? ⟨w.heap.size + 1, 1, none⟩ = some (.int .i64 0) := HS.out.now.2.cell 1; have f1 := HS.out.now.2.frozen 1; have k2 : w2.cell? ⟨w.heap.size + 1, 2, none⟩ = some (.int .i64 0) := HS.out.now.2.cell 2; have f2 := HS.out.now.2.frozen 2; have k3 : w2.cell? ⟨w.heap.size + 1, 3, none⟩ = some (.int .i64 0) := HS.out.now.2.cell 3; have f3 := HS.out.now.2.frozen 3; have c0a := cell_alloc1 c0; have c1a := cell_alloc1 c1; have k0a := cell_alloc1 k0; have f0a := froz_alloc1 k0 f0; have k1a := cell_alloc1 k1; have f1a := froz_alloc1 k1 f1; have k2a := cell_alloc1 k2; have f2a := froz_alloc1 k2 f2; have k3a := cell_alloc1 k3; have f3a := froz_alloc1 k3 f3; clear t2 _t))
  all_goals try (go_step3; go_wp2)
  first | rw [Exit.noGoto_ret] | skip
  refine bodyPost_ret (v := .tuple #[.agg #[.int .i64 a, .int .i64 ca, .int .i64 b, .int .i64 cb], .int .i64 0]) (by simp [results, Try.results50, go_sem, *]) rfl ⟨rfl, ?_⟩
  have hS := HS.out.bel
  repeat (first | exact hS | apply below_alloc | apply pw_below_drewN | apply below_drew1 | refine Below.setCell ?_ (by simp) _)

end Go.Proofs.Ytogfaahdbecdnaa.B

/-
  Plain laws of places: there and back.
-/
namespace Go.Proofs.Ytogfaahdbecdnaa.B
open Go.RowKit Go.Proofs.YtogfaahdbecdnaaW.PrintWords Go.Proofs.YtogfaahdbecdnaaW.PrintLast Go.Proofs.YtogfaahdbecdnaaW.PrintMore Go.Proofs.Ytogfaahdbecdnaa.FBase
set_option linter.unusedVariables false
set_option linter.unusedSimpArgs false

/-- A line of a text: where it lies, its characters. -/
theorem line_is (l : List Int) (hB : Bytes l) (hv : V l) (j : Nat) (hj : j < (lns l 0 0).length) :
    0 ≤ (rdLn (lns l 0 0) j).f0 ∧ (rdLn (lns l 0 0) j).f0 ≤ (rdLn (lns l 0 0) j).f1 ∧ (rdLn (lns l 0 0) j).f1 ≤ l.length ∧ Cs (seg l (rdLn (lns l 0 0) j)) (chars (seg l (rdLn (lns l 0 0) j))) ∧
      Good (chars (seg l (rdLn (lns l 0 0) j))) ∧ sz (chars (seg l (rdLn (lns l 0 0) j))) = (rdLn (lns l 0 0) j).f1 - (rdLn (lns l 0 0) j).f0 := by
  have h := (lns_chain0 l).at j hj
  have hcs : Cs (seg l (rdLn (lns l 0 0) j)) (chars (seg l (rdLn (lns l 0 0) j))) := V.chars (line_V hB hv j hj)
  obtain ⟨g, hsz⟩ := hcs.good (fun y hy => hB y (List.mem_of_mem_take (List.mem_of_mem_drop hy)))
  have h1 := h.2.2.1
  have h2 := h.2.2.2.1
  refine ⟨h.1, h.2.1, by omega, hcs, g, ?_⟩
  rw [hsz]
  have := h.1
  have := h.2.1
  unfold seg
  rw [List.length_drop, List.length_take]
  omega
/-- A byte of a line, or where what ends it begins, is found in that line. -/
theorem fnd_in (l : List Int) (j : Nat) (hj : j < (lns l 0 0).length) (n : Int) (h0 : (rdLn (lns l 0 0) j).f0 ≤ n) (h1 : n ≤ (rdLn (lns l 0 0) j).f1) : fnd l n = j := by
  have hc := lns_chain0 l
  refine fnd_eq ⟨hj, fun t ht => ?_, fun h => ?_⟩
  · have h2 := (hc.at t (by omega)).2.2.2.2.2.1 (by omega)
    have h3 := (hc.step (t + 1) (j - (t + 1)) (by omega)).2
    rw [show t + 1 + (j - (t + 1)) = j by omega] at h3
    have h4 := (hc.at (t + 1) (by omega))
    rcases Nat.lt_or_eq_of_le (show t + 1 ≤ j by omega) with h5 | h5
    · have h6 := (hc.at (j - 1) (by omega)).2.2.2.2.2.1 (by omega)
      rw [show j - 1 + 1 = j by omega] at h6
      have h7 := (hc.step t (j - 1 - t) (by omega)).2
      rw [show t + (j - 1 - t) = j - 1 by omega] at h7
      have := h6.2.2
      omega
    · rw [h5] at h2
      have := h2.2.2
      omega
  · have h2 := (hc.at j hj).2.2.2.2.2.1 h
    have := h2.1
    omega
theorem poff_line (l : List Int) (j : Nat) (hj : j < (lns l 0 0).length) (ch : Int) : poff l j ch = (rdLn (lns l 0 0) j).f0 + off (chars (seg l (rdLn (lns l 0 0) j))) ch := by
  unfold poff
  rw [if_neg (by omega)]
theorem poff_far (l : List Int) (line ch : Int) (h : (lns l 0 0).length ≤ line) : poff l line ch = l.length := by
  unfold poff
  rw [if_pos h]
theorem pch_in (l : List Int) (j : Nat) (hj : j < (lns l 0 0).length) (n : Int) (h0 : (rdLn (lns l 0 0) j).f0 ≤ n) (h1 : n ≤ (rdLn (lns l 0 0) j).f1) : pch l n = ufl (chars (seg l (rdLn (lns l 0 0) j))) (n - (rdLn (lns l 0 0) j).f0) := by
  unfold pch
  rw [fnd_in l j hj n h0 h1]
theorem poff_range (l : List Int) (hB : Bytes l) (hv : V l) (line ch : Int) (h0 : 0 ≤ line) : 0 ≤ poff l line ch ∧ poff l line ch ≤ l.length := by
  by_cases h : ((lns l 0 0).length : Int) ≤ line
  · rw [poff_far l line ch h]; omega
  · obtain ⟨j, rfl⟩ := Int.eq_ofNat_of_zero_le h0
    have hj : j < (lns l 0 0).length := by omega
    obtain ⟨a, b, c, _, g, hsz⟩ := line_is l hB hv j hj
    rw [poff_line l j hj]
    have := off_range ch g
    omega
/-- The last line ends where the text ends. -/
theorem last_is (l : List Int) : (rdLn (lns l 0 0) ((lns l 0 0).length - 1 : Nat)).f1 = l.length ∧ (lns l 0 0).length - 1 < (lns l 0 0).length := by
  have hc := lns_chain0 l
  have hp := hc.pos
  exact ⟨((hc.at ((lns l 0 0).length - 1) (by omega)).2.2.2.2.2.2.1 (by omega)).1, by omega⟩
/-- A byte that is between characters of a line is had back. -/
theorem back_in (l : List Int) (hB : Bytes l) (hv : V l) (j : Nat) (hj : j < (lns l 0 0).length) (n : Int) (h0 : (rdLn (lns l 0 0) j).f0 ≤ n) (h1 : n ≤ (rdLn (lns l 0 0) j).f1)
    (hf : flo (chars (seg l (rdLn (lns l 0 0) j))) (n - (rdLn (lns l 0 0) j).f0) = n - (rdLn (lns l 0 0) j).f0) : poff l (fnd l n) (pch l n) = n := by
  obtain ⟨a, b, c, _, g, hsz⟩ := line_is l hB hv j hj
  rw [fnd_in l j hj n h0 h1, pch_in l j hj n h0 h1, poff_line l j hj, off_ufl _ g (by omega), hf]
  omega
/-- What a place that there is comes to. -/
theorem again_in (l : List Int) (hB : Bytes l) (hv : V l) (j : Nat) (hj : j < (lns l 0 0).length) (ch : Int) (hch : 0 ≤ ch) :
    (rdLn (lns l 0 0) j).f0 ≤ poff l j ch ∧ poff l j ch ≤ (rdLn (lns l 0 0) j).f1 ∧ fnd l (poff l j ch) = j ∧ poff l (fnd l (poff l j ch)) (pch l (poff l j ch)) = poff l j ch ∧
      pch l (poff l j ch) ≤ ch ∧ (ch < un (chars (seg l (rdLn (lns l 0 0) j))) → pch l (poff l j ch) = ch ∨ pch l (poff l j ch) = ch - 1) ∧
      (un (chars (seg l (rdLn (lns l 0 0) j))) ≤ ch → poff l j ch = (rdLn (lns l 0 0) j).f1 ∧ pch l (poff l j ch) = un (chars (seg l (rdLn (lns l 0 0) j)))) := by
  obtain ⟨a, b, c, _, g, hsz⟩ := line_is l hB hv j hj
  have hr := off_range ch g
  have hp := poff_line l j hj ch
  have i0 : (rdLn (lns l 0 0) j).f0 ≤ poff l j ch := by rw [hp]; omega
  have i1 : poff l j ch ≤ (rdLn (lns l 0 0) j).f1 := by rw [hp]; omega
  have hd : poff l j ch - (rdLn (lns l 0 0) j).f0 = off (chars (seg l (rdLn (lns l 0 0) j))) ch := by rw [hp]; omega
  have hpc := pch_in l j hj _ i0 i1
  rw [hd] at hpc
  have hu := ufl_off ch g hch
  refine ⟨i0, i1, fnd_in l j hj _ i0 i1, back_in l hB hv j hj _ i0 i1 (by rw [hd]; exact flo_off ch g hch), by rw [hpc]; exact hu.1, fun h => by rw [hpc]; exact hu.2.1 h, fun h => ?_⟩
  have h2 := hu.2.2 h
  exact ⟨by rw [hp, h2.2, hsz]; omega, by rw [hpc]; exact h2.1⟩
/-- The text's end is had back. -/
theorem again_end (l : List Int) (hB : Bytes l) (hv : V l) : poff l (fnd l l.length) (pch l l.length) = l.length ∧ fnd l l.length = (lns l 0 0).length - 1 := by
  obtain ⟨h1, h2⟩ := last_is l
  obtain ⟨a, b, c, _, g, hsz⟩ := line_is l hB hv _ h2
  have i0 : (rdLn (lns l 0 0) ((lns l 0 0).length - 1 : Nat)).f0 ≤ (l.length : Int) := by omega
  refine ⟨back_in l hB hv _ h2 _ i0 (by omega) ?_, fnd_in l _ h2 _ i0 (by omega)⟩
  rw [h1] at hsz
  rw [← hsz]
  exact (ufl_sz _ g (Int.le_refl _)).2
/-- Places in order have bytes in order. -/
theorem poff_mono (l : List Int) (hB : Bytes l) (hv : V l) (a ca b cb : Int) (h0 : 0 ≤ a) (h : a < b ∨ (a = b ∧ ca ≤ cb)) : poff l a ca ≤ poff l b cb := by
  by_cases hb : ((lns l 0 0).length : Int) ≤ b
  · rw [poff_far l b cb hb]
    exact (poff_range l hB hv a ca h0).2
  · obtain ⟨i, rfl⟩ := Int.eq_ofNat_of_zero_le h0
    obtain ⟨j, rfl⟩ := Int.eq_ofNat_of_zero_le (show 0 ≤ b by omega)
    have hj : j < (lns l 0 0).length := by omega
    have hi : i < (lns l 0 0).length := by omega
    obtain ⟨a1, b1, c1, _, g, hsz⟩ := line_is l hB hv j hj
    rcases h with h | ⟨h, hc⟩
    · obtain ⟨a2, b2, c2, _, g2, hsz2⟩ := line_is l hB hv i hi
      rw [poff_line l j hj, poff_line l i hi]
      have r1 := off_range cb g
      have r2 := off_range ca g2
      have hc := lns_chain0 l
      have h6 := (hc.at (j - 1) (by omega)).2.2.2.2.2.1 (by omega)
      rw [show j - 1 + 1 = j by omega] at h6
      have h7 := (hc.step i (j - 1 - i) (by omega)).2
      rw [show i + (j - 1 - i) = j - 1 by omega] at h7
      have h8 := (hc.at i hi).2.2.1
      have := h6.2.2
      omega
    · obtain rfl : i = j := by omega
      rw [poff_line l i hi, poff_line l i hi]
      have := off_mono ca cb g hc
      omega
end Go.Proofs.Ytogfaahdbecdnaa.B

/-
  PlaceUnits, PlaceOrder, walked.
-/
namespace Go.Proofs.Ytogfaahdbecdnaa.B
open Go.RowKit Go.Shelf Go.Proofs Go.Proofs.YtogfaahdbecdnaaW.PrintWords Go.Proofs.YtogfaahdbecdnaaW.PrintLast Go.Proofs.YtogfaahdbecdnaaW.PrintMore Go.Proofs.Ytogfaahdbecdnaa.FBase
set_option linter.unusedVariables false
set_option linter.unusedSimpArgs false

/-- A text without ends of lines is one line. -/
theorem lns_one (l : List Int) (h : ∀ j : Nat, j < l.length → rd l j ≠ 10 ∧ rd l j ≠ 13) : lns l 0 0 = [⟨0, l.length, l.length⟩] := by
  have h1 := lns_skip l 0 l.length 0 (by omega) (fun j _ hj => h j (by omega))
  rw [List.drop_zero, show ((0 : Nat) : Int) = 0 from rfl] at h1
  rw [h1, Nat.zero_add, List.drop_length]
  simp [lns]
theorem seg_one (l : List Int) : seg l ⟨0, l.length, l.length⟩ = l := by simp [seg]

set_option maxRecDepth 100000 in
set_option maxHeartbeats 2000000 in
theorem PlaceUnits_ok (k : Nat) (A : Option Addr) (c : Nat) (l : List Int) (r1 r2 : Int) (char : Int) (w : World) (hr : Kd.C (Kd.int .u8) w A l.length l) (hc : l.length ≤ c) (hn : A = none → c = 0) (hB : Bytes l) (h : runes_Check.f k l = some (r1, r2)) (hk : chk l = (r1, r2)) (hs : l.length ≤ 1048576) :
    Calls Try.prog 16 #[.slice A l.length c, .int .i64 char] w fun e w' => e = .returned (.bool true) ∧ Below w.heap.size w w' := by
  have HR := Aside0.mk hr
  have HS := Aside0.mk ((Sta.start w).only hr (keeps_C _ _ _ _))
  have HC := Aside0.mk hc
  have H := Aside0.mk h
  have HBY := Aside0.mk hB
  have HKK := Aside0.mk hk
  clear hr hc h hB hk
  go_enter Try.func16, Try.ntmps16
  go_wp2_with (go_at_call 36; refine (pworks_ok _).mono ?_; rintro e w1 ⟨rfl, hb⟩; have m_ := Aside0.mk (HS.out.call (by repeat (first | exact Below.refl _ _ | apply below_alloc | apply pw_below_drewN | apply below_drew1)) hb); clear HS hb ; have HS := m_; clear m_)
  go_loop [5] (fun s5 => ∃ i : Nat, s5 = .int .i64 i ∧ i ≤ l.length ∧ Aside0 (∀ j : Nat, j < i → rd l j ≠ 10 ∧ rd l j ≠ 13)) (fun s5 => l.length - (intOf s5).toNat)
  case atStart => exact ⟨0, rfl, Nat.zero_le _, ⟨fun j hj => absurd hj (Nat.not_lt_zero _)⟩⟩
  case round =>
    obtain ⟨i, rfl, hi, HN⟩ := hrel
    by_cases hlt : i < l.length
    · obtain ⟨ad, e, hx⟩ := Kd.at_int HS.out.now (i : Int) (by omega) (by omega)
      rw [Int.toNat_natCast] at hx
      cases e
      have i1 : (i : Int) < l.length := by omega
      by_cases b10 : rd l i = 10
      · rw [b10] at hx
        go_wp2
        go_ret
        exact ⟨rfl, HS.out.bel⟩
      · have c10 : (rd l i == 10) = false := beq_eq_false_iff_ne.mpr b10
        by_cases b13 : rd l i = 13
        · have c13 : (rd l i == 13) = true := beq_iff_eq.mpr b13
          clear b10 b13
          go_wp2
          go_ret
          exact ⟨rfl, HS.out.bel⟩
        · have c13 : (rd l i == 13) = false := beq_eq_false_iff_ne.mpr b13
          have HN2 := Aside0.mk (show ∀ j : Nat, j < i + 1 → rd l j ≠ 10 ∧ rd l j ≠ 13 from fun j hj => by
            rcases Nat.lt_succ_iff_lt_or_eq.1 hj with h | h
            · exact HN.out j h
            · subst h; exact ⟨b10, b13⟩)
          clear b10 b13
          go_wp2
          go_round
          case measure => simp [intOf]; omega
          case rel => exact ⟨i + 1, by simp, hlt, HN2⟩
    · obtain rfl : i = l.length := by omega
      by_cases hz : r2 = 0
      · subst hz
        have hv : V l := (chk_V HBY.out).1 (by rw [HKK.out])
        have hL := lns_one l HN.out
        have hcs : Cs l (chars l) := hv.chars
        obtain ⟨g, hsz⟩ := hcs.good HBY.out
        have BM := Aside0.mk (bring_f char 1099511627776 (by decide) (by decide))
        have c0 := Int.emod_nonneg char (show (1099511627776 : Int) ≠ 0 by decide)
        have c1 := Int.emod_lt_of_pos char (show (0 : Int) < 1099511627776 by decide)
        generalize char % 1099511627776 = ch at BM c0 c1
        have hP : poff l 0 ch = off (chars l) ch := by
          rw [poff_of hL, if_neg (by simp), show rdLn [⟨0, (l.length : Int), (l.length : Int)⟩] 0 = ⟨0, l.length, l.length⟩ from rfl, seg_one]
          simp
        have hF : fnd l l.length = (0 : Nat) := fnd_eq (by rw [hL]; exact ⟨by simp, fun t ht => absurd ht (Nat.not_lt_zero _), fun h => absurd h (by simp)⟩)
        have hE : fnd l l.length = (0 : Nat) ∧ pch l l.length = un (chars l) := by
          refine ⟨hF, ?_⟩
          unfold pch
          rw [hF, hL, show rdLn [⟨0, (l.length : Int), (l.length : Int)⟩] (((0 : Nat) : Int)) = ⟨0, l.length, l.length⟩ from rfl, seg_one]
          exact (ufl_sz _ g (by rw [hsz]; simp)).1
        have HOF := Aside0.mk (Of_f HBY.out hs hcs (Nat.lt_succ_self _))
        have HP := Aside0.mk hP
        have HE := Aside0.mk hE
        have HV := Aside0.mk hv
        have HCS := Aside0.mk hcs
        clear hP hE hF hL hv hcs hsz g
        generalize chars l = rs at *
        go_wp2_with (first | (go_at_call 43; refine (made_ok k A c l r1 _ (HS.out.step (by repeat (first | exact Below.refl _ _ | apply below_alloc | apply pw_below_drewN | apply below_drew1))).now HC.out hn H.out hs).mono ?_; rintro e w2 ⟨m, rfl, hM, hb⟩; have m_ := Aside0.mk ((HS.out.call (by repeat (first | exact Below.refl _ _ | apply below_alloc | apply pw_below_drewN | apply below_drew1)) hb).add hM (keeps_map _ _)); clear HS hb hM; have HS := m_; clear m_) | (go_at_call 29; refine (colophonref00_Bring.calls _ _ _ _ BM.out).mono ?_; rintro e w3 ⟨rfl, nq, rfl⟩) | (go_at_call 45; refine (pos_ok _ _ _).mono ?_; rintro e w4 ⟨rfl, hb⟩; have m_ := Aside0.mk (HS.out.call (by repeat (first | exact Below.refl _ _ | apply below_alloc | apply pw_below_drewN | apply below_drew1)) hb); clear HS hb ; have HS := m_; clear m_) | (go_at_call 37; refine (MOffset_is m l 0 ch _ (HS.out.step (by repeat (first | exact Below.refl _ _ | apply below_alloc | apply pw_below_drewN | apply below_drew1))).now.1 hs HBY.out HV.out (by decide) c0 (by omega)).mono ?_; rintro e w5 ⟨rfl, hb⟩; rw [HP.out]; have m_ := Aside0.mk (HS.out.call (by repeat (first | exact Below.refl _ _ | apply below_alloc | apply pw_below_drewN | apply below_drew1)) hb); clear HS hb ; have HS := m_; clear m_) | (go_at_call 47; refine (UOffset_ok A c l rs ch _ (HS.out.step (by repeat (first | exact Below.refl _ _ | apply below_alloc | apply pw_below_drewN | apply below_drew1))).now.2 HC.out HBY.out hs HCS.out c0 (by omega)).mono ?_; rintro e w6 ⟨rfl, hb⟩; have m_ := Aside0.mk (HS.out.call (by repeat (first | exact Below.refl _ _ | apply below_alloc | apply pw_below_drewN | apply below_drew1)) hb); clear HS hb ; have HS := m_; clear m_) | (go_at_call 46; refine (units_Of.calls _ A c l _ _ _ (HS.out.step (by repeat (first | exact Below.refl _ _ | apply below_alloc | apply pw_below_drewN | apply below_drew1))).now.2 HC.out HOF.out).mono ?_; rintro e w7 ⟨rfl, no, rfl⟩) | (go_at_call 41; refine (MEnd_is m l _ (HS.out.step (by repeat (first | exact Below.refl _ _ | apply below_alloc | apply pw_below_drewN | apply below_drew1))).now.1 hs HBY.out HV.out).mono ?_; rintro e w8 ⟨rfl, hb⟩; rw [HE.out.1, HE.out.2]; have m_ := Aside0.mk (HS.out.call (by repeat (first | exact Below.refl _ _ | apply below_alloc | apply pw_below_drewN | apply below_drew1)) hb); clear HS hb ; have HS := m_; clear m_))
        go_ret
        exact ⟨rfl, HS.out.bel⟩
      · go_wp2_with (go_at_call 43; refine (made_err k A c l r1 r2 _ (HS.out.step (by repeat (first | exact Below.refl _ _ | apply below_alloc | apply pw_below_drewN | apply below_drew1))).now HC.out H.out hz).mono ?_; rintro e w2 ⟨rfl, hb⟩; have m_ := Aside0.mk (HS.out.call (by repeat (first | exact Below.refl _ _ | apply below_alloc | apply pw_below_drewN | apply below_drew1)) hb); clear HS hb ; have HS := m_; clear m_)
        go_ret
        exact ⟨rfl, HS.out.bel⟩

theorem PlaceUnits_row (A : Option Addr) (n c : Nat) (zs : List Int) (p : Int) (W : World) (h : IsRow .u8 W A n c zs) (hb : c ≤ 1048576) (_hp : (Lit.int .i64 p).wf = true) :
    Calls Try.prog 16 #[.slice A n c, .int .i64 p] W fun e w' => e = .returned (.bool true) ∧ Below W.heap.size W w' := by
  have hn : A = none → c = 0 := fun e => by
    subst e
    rcases h with ⟨_, _, h, _⟩ | ⟨x, h, _⟩
    · exact h
    · cases h
  obtain ⟨l, rfl, hc, hC, hw⟩ := h.reads
  have hB : Bytes l := fun x hx => byte_wf (hw x hx)
  exact PlaceUnits_ok _ A c l _ _ p W hC hc hn hB (Check_f l hB (by omega) (Nat.lt_succ_self _)) rfl (by omega)

theorem FindAt.rise {L : List Ln} {a b : Int} {r s : Nat} (h : FindAt L a r) (k : FindAt L b s) (hab : a ≤ b) : r ≤ s := by
  refine Nat.le_of_not_lt (fun hlt => ?_)
  have h1 := h.2.1 s hlt
  have h2 := k.2.2 (by have := h.1; omega)
  omega
/-- Bytes in order have places in order. -/
theorem places_rise (l : List Int) (hB : Bytes l) (hv : V l) (a b : Int) (hab : a ≤ b) : fnd l a < fnd l b ∨ (fnd l a = fnd l b ∧ pch l a ≤ pch l b) := by
  have h1 := (fnd_is l a).rise (fnd_is l b) hab
  rcases Nat.lt_or_eq_of_le h1 with h | h
  · exact .inl h
  · refine .inr ⟨h, ?_⟩
    unfold pch
    rw [h]
    have hlt := (fnd_is l b).1
    obtain ⟨g, _⟩ := (line_V hB hv _ hlt).chars.good (fun y hy => hB y (List.mem_of_mem_take (List.mem_of_mem_drop hy)))
    exact ufl_mono _ _ g (by omega)

set_option maxRecDepth 100000 in
set_option maxHeartbeats 2000000 in
theorem PlaceOrder_ok (k : Nat) (A : Option Addr) (c : Nat) (l : List Int) (r1 r2 : Int) (n k_ : Int) (w : World) (hr : Kd.C (Kd.int .u8) w A l.length l) (hc : l.length ≤ c) (hn : A = none → c = 0) (hB : Bytes l) (h : runes_Check.f k l = some (r1, r2)) (hk : chk l = (r1, r2)) (hs : l.length ≤ 1048576) :
    Calls Try.prog 14 #[.slice A l.length c, .int .i64 n, .int .i64 k_] w fun e w' => e = .returned (.bool true) ∧ Below w.heap.size w w' := by
  have HS := Aside0.mk ((Sta.start w).only hr (keeps_C _ _ _ _))
  have HC := Aside0.mk hc
  have H := Aside0.mk h
  have HBY := Aside0.mk hB
  have HKK := Aside0.mk hk
  clear hr hc h hB hk
  by_cases hz : r2 = 0
  · subst hz
    have hv : V l := (chk_V HBY.out).1 (by rw [HKK.out])
    have BM := Aside0.mk (bring_f n ((l.length : Int) + 1) (by omega) (by omega))
    have BM2 := Aside0.mk (bring_f k_ ((l.length : Int) + 1) (by omega) (by omega))
    have n0 := Int.emod_nonneg n (show ((l.length : Int) + 1) ≠ 0 by omega)
    have n1 := Int.emod_lt_of_pos n (show 0 < ((l.length : Int) + 1) by omega)
    have k0 := Int.emod_nonneg k_ (show ((l.length : Int) + 1) ≠ 0 by omega)
    have k1 := Int.emod_lt_of_pos k_ (show 0 < ((l.length : Int) + 1) by omega)
    generalize n % ((l.length : Int) + 1) = nn at *
    generalize k_ % ((l.length : Int) + 1) = kk at *
    have HV := Aside0.mk hv
    have t1 := True.intro
    have t2 := True.intro
    have t3 := True.intro
    have t4 := True.intro
    rcases Int.lt_trichotomy nn kk with hlt | heq | hlt
    · have hp := places_rise l HBY.out HV.out nn kk (by omega)
      obtain ⟨lo, hlo⟩ : ∃ lo, lo = nn := ⟨_, rfl⟩
      obtain ⟨hi, hhi⟩ : ∃ hi, hi = kk := ⟨_, rfl⟩
      subst hlo hhi
      have l0 : 0 ≤ lo := n0
      have h1 : hi ≤ l.length := by omega
      have hle : lo ≤ hi := by omega
      clear hv
      obtain ⟨fl, hfl⟩ : ∃ fl, fl = fnd l lo := ⟨_, rfl⟩
      obtain ⟨fh, hfh⟩ : ∃ fh, fh = fnd l hi := ⟨_, rfl⟩
      obtain ⟨pl, hpl⟩ : ∃ pl, pl = pch l lo := ⟨_, rfl⟩
      obtain ⟨ph, hph⟩ : ∃ ph, ph = pch l hi := ⟨_, rfl⟩
      rw [← hfl, ← hfh, ← hpl, ← hph] at hp
      have HFL := Aside0.mk hfl
      have HFH := Aside0.mk hfh
      have HPL := Aside0.mk hpl
      have HPH := Aside0.mk hph
      clear hfl hfh hpl hph
      rcases hp with hp | ⟨hp, hq⟩
      · have hp2 : (fl : Int) < fh := by omega
        clear hp
        go_enter Try.func14, Try.ntmps14
        go_wp2_with (first | (go_at_call 36; refine (pworks_ok _).mono ?_; rintro e w1 ⟨rfl, hb⟩; have m_ := Aside0.mk (HS.out.call (by repeat (first | exact Below.refl _ _ | apply below_alloc | apply pw_below_drewN | apply below_drew1)) hb); clear HS hb ; have HS := m_; clear m_) | (go_at_call 43; refine (made_ok k A c l r1 _ (HS.out.step (by repeat (first | exact Below.refl _ _ | apply below_alloc | apply pw_below_drewN | apply below_drew1))).now HC.out hn H.out hs).mono ?_; rintro e w2 ⟨m, rfl, hM, hb⟩; have m_ := Aside0.mk ((HS.out.call (by repeat (first | exact Below.refl _ _ | apply below_alloc | apply pw_below_drewN | apply below_drew1)) hb).add hM (keeps_map _ _)); clear HS hb hM; have HS := m_; clear m_) | (have _t := t1; go_at_call 29; refine (colophonref00_Bring.calls n _ _ _ BM.out).mono ?_; rintro e w3 ⟨rfl, nq, rfl⟩; clear t1 _t) | (have _t := t2; go_at_call 29; refine (colophonref00_Bring.calls k_ _ _ _ BM2.out).mono ?_; rintro e w3 ⟨rfl, nq2, rfl⟩; clear t2 _t) | (have _t := t3; go_at_call 39; refine (MPos_is m l lo _ (HS.out.step (by repeat (first | exact Below.refl _ _ | apply below_alloc | apply pw_below_drewN | apply below_drew1))).now.1 hs HBY.out HV.out l0 (by omega)).mono ?_; rintro e w5 ⟨rfl, hb⟩; rw [← HFL.out, ← HPL.out]; have m_ := Aside0.mk (HS.out.call (by repeat (first | exact Below.refl _ _ | apply below_alloc | apply pw_below_drewN | apply below_drew1)) hb); clear HS hb ; have HS := m_; clear m_; clear t3 _t) | (have _t := t4; go_at_call 39; refine (MPos_is m l hi _ (HS.out.step (by repeat (first | exact Below.refl _ _ | apply below_alloc | apply pw_below_drewN | apply below_drew1))).now.1 hs HBY.out HV.out (by omega) h1).mono ?_; rintro e w6 ⟨rfl, hb⟩; rw [← HFH.out, ← HPH.out]; have zb := blk_new w5 (.cells #[.int .i64 fl, .int .i64 pl] 58); have z0 := cell_alloc1 (cell_below ((blk_cell zb 0).trans rfl) hb); have z1 := cell_alloc1 (cell_below ((blk_cell zb 1).trans rfl) hb); clear zb; have m_ := Aside0.mk (HS.out.call (by repeat (first | exact Below.refl _ _ | apply below_alloc | apply pw_below_drewN | apply below_drew1)) hb); clear HS hb ; have HS := m_; clear m_; clear t4 _t))
        go_ret
        exact ⟨rfl, (HS.out.step (by repeat (first | exact Below.refl _ _ | apply below_alloc | apply pw_below_drewN | apply below_drew1))).bel⟩
      · subst hp
        have hp2 : ¬ (fl : Int) < fl := by omega
        go_enter Try.func14, Try.ntmps14
        go_wp2_with (first | (go_at_call 36; refine (pworks_ok _).mono ?_; rintro e w1 ⟨rfl, hb⟩; have m_ := Aside0.mk (HS.out.call (by repeat (first | exact Below.refl _ _ | apply below_alloc | apply pw_below_drewN | apply below_drew1)) hb); clear HS hb ; have HS := m_; clear m_) | (go_at_call 43; refine (made_ok k A c l r1 _ (HS.out.step (by repeat (first | exact Below.refl _ _ | apply below_alloc | apply pw_below_drewN | apply below_drew1))).now HC.out hn H.out hs).mono ?_; rintro e w2 ⟨m, rfl, hM, hb⟩; have m_ := Aside0.mk ((HS.out.call (by repeat (first | exact Below.refl _ _ | apply below_alloc | apply pw_below_drewN | apply below_drew1)) hb).add hM (keeps_map _ _)); clear HS hb hM; have HS := m_; clear m_) | (have _t := t1; go_at_call 29; refine (colophonref00_Bring.calls n _ _ _ BM.out).mono ?_; rintro e w3 ⟨rfl, nq, rfl⟩; clear t1 _t) | (have _t := t2; go_at_call 29; refine (colophonref00_Bring.calls k_ _ _ _ BM2.out).mono ?_; rintro e w3 ⟨rfl, nq2, rfl⟩; clear t2 _t) | (have _t := t3; go_at_call 39; refine (MPos_is m l lo _ (HS.out.step (by repeat (first | exact Below.refl _ _ | apply below_alloc | apply pw_below_drewN | apply below_drew1))).now.1 hs HBY.out HV.out l0 (by omega)).mono ?_; rintro e w5 ⟨rfl, hb⟩; rw [← HFL.out, ← HPL.out]; have m_ := Aside0.mk (HS.out.call (by repeat (first | exact Below.refl _ _ | apply below_alloc | apply pw_below_drewN | apply below_drew1)) hb); clear HS hb ; have HS := m_; clear m_; clear t3 _t) | (have _t := t4; go_at_call 39; refine (MPos_is m l hi _ (HS.out.step (by repeat (first | exact Below.refl _ _ | apply below_alloc | apply pw_below_drewN | apply below_drew1))).now.1 hs HBY.out HV.out (by omega) h1).mono ?_; rintro e w6 ⟨rfl, hb⟩; rw [← HFH.out, ← HPH.out]; have zb := blk_new w5 (.cells #[.int .i64 fl, .int .i64 pl] 58); have z0 := cell_alloc1 (cell_below ((blk_cell zb 0).trans rfl) hb); have z1 := cell_alloc1 (cell_below ((blk_cell zb 1).trans rfl) hb); clear zb; have m_ := Aside0.mk (HS.out.call (by repeat (first | exact Below.refl _ _ | apply below_alloc | apply pw_below_drewN | apply below_drew1)) hb); clear HS hb ; have HS := m_; clear m_; clear t4 _t))
        go_ret
        exact ⟨rfl, (HS.out.step (by repeat (first | exact Below.refl _ _ | apply below_alloc | apply pw_below_drewN | apply below_drew1))).bel⟩
    · have hp := places_rise l HBY.out HV.out nn kk (by omega)
      subst heq
      obtain ⟨lo, hlo⟩ : ∃ lo, lo = nn := ⟨_, rfl⟩
      subst hlo
      have l0 : 0 ≤ lo := n0
      have h1 : lo ≤ l.length := by omega
      clear hv
      obtain ⟨fl, hfl⟩ : ∃ fl, fl = fnd l lo := ⟨_, rfl⟩
      obtain ⟨pl, hpl⟩ : ∃ pl, pl = pch l lo := ⟨_, rfl⟩
      clear hp
      have HFL := Aside0.mk hfl
      have HPL := Aside0.mk hpl
      clear hfl hpl
      have hp2 : ¬ (fl : Int) < fl := by omega
      go_enter Try.func14, Try.ntmps14
      go_wp2_with (first | (go_at_call 36; refine (pworks_ok _).mono ?_; rintro e w1 ⟨rfl, hb⟩; have m_ := Aside0.mk (HS.out.call (by repeat (first | exact Below.refl _ _ | apply below_alloc | apply pw_below_drewN | apply below_drew1)) hb); clear HS hb ; have HS := m_; clear m_) | (go_at_call 43; refine (made_ok k A c l r1 _ (HS.out.step (by repeat (first | exact Below.refl _ _ | apply below_alloc | apply pw_below_drewN | apply below_drew1))).now HC.out hn H.out hs).mono ?_; rintro e w2 ⟨m, rfl, hM, hb⟩; have m_ := Aside0.mk ((HS.out.call (by repeat (first | exact Below.refl _ _ | apply below_alloc | apply pw_below_drewN | apply below_drew1)) hb).add hM (keeps_map _ _)); clear HS hb hM; have HS := m_; clear m_) | (have _t := t1; go_at_call 29; refine (colophonref00_Bring.calls n _ _ _ BM.out).mono ?_; rintro e w3 ⟨rfl, nq, rfl⟩; clear t1 _t) | (have _t := t2; go_at_call 29; refine (colophonref00_Bring.calls k_ _ _ _ BM2.out).mono ?_; rintro e w3 ⟨rfl, nq2, rfl⟩; clear t2 _t) | (have _t := t3; go_at_call 39; refine (MPos_is m l lo _ (HS.out.step (by repeat (first | exact Below.refl _ _ | apply below_alloc | apply pw_below_drewN | apply below_drew1))).now.1 hs HBY.out HV.out l0 (by omega)).mono ?_; rintro e w5 ⟨rfl, hb⟩; rw [← HFL.out, ← HPL.out]; have m_ := Aside0.mk (HS.out.call (by repeat (first | exact Below.refl _ _ | apply below_alloc | apply pw_below_drewN | apply below_drew1)) hb); clear HS hb ; have HS := m_; clear m_; clear t3 _t) | (have _t := t4; go_at_call 39; refine (MPos_is m l lo _ (HS.out.step (by repeat (first | exact Below.refl _ _ | apply below_alloc | apply pw_below_drewN | apply below_drew1))).now.1 hs HBY.out HV.out (by omega) h1).mono ?_; rintro e w6 ⟨rfl, hb⟩; rw [← HFL.out, ← HPL.out]; have zb := blk_new w5 (.cells #[.int .i64 fl, .int .i64 pl] 58); have z0 := cell_alloc1 (cell_below ((blk_cell zb 0).trans rfl) hb); have z1 := cell_alloc1 (cell_below ((blk_cell zb 1).trans rfl) hb); clear zb; have m_ := Aside0.mk (HS.out.call (by repeat (first | exact Below.refl _ _ | apply below_alloc | apply pw_below_drewN | apply below_drew1)) hb); clear HS hb ; have HS := m_; clear m_; clear t4 _t))
      go_ret
      exact ⟨rfl, (HS.out.step (by repeat (first | exact Below.refl _ _ | apply below_alloc | apply pw_below_drewN | apply below_drew1))).bel⟩
    · have hp := places_rise l HBY.out HV.out kk nn (by omega)
      obtain ⟨lo, hlo⟩ : ∃ lo, lo = kk := ⟨_, rfl⟩
      obtain ⟨hi, hhi⟩ : ∃ hi, hi = nn := ⟨_, rfl⟩
      subst hlo hhi
      have l0 : 0 ≤ lo := k0
      have h1 : hi ≤ l.length := by omega
      have hle : lo ≤ hi := by omega
      clear hv
      obtain ⟨fl, hfl⟩ : ∃ fl, fl = fnd l lo := ⟨_, rfl⟩
      obtain ⟨fh, hfh⟩ : ∃ fh, fh = fnd l hi := ⟨_, rfl⟩
      obtain ⟨pl, hpl⟩ : ∃ pl, pl = pch l lo := ⟨_, rfl⟩
      obtain ⟨ph, hph⟩ : ∃ ph, ph = pch l hi := ⟨_, rfl⟩
      rw [← hfl, ← hfh, ← hpl, ← hph] at hp
      have HFL := Aside0.mk hfl
      have HFH := Aside0.mk hfh
      have HPL := Aside0.mk hpl
      have HPH := Aside0.mk hph
      clear hfl hfh hpl hph
      rcases hp with hp | ⟨hp, hq⟩
      · have hp2 : (fl : Int) < fh := by omega
        clear hp
        go_enter Try.func14, Try.ntmps14
        go_wp2_with (first | (go_at_call 36; refine (pworks_ok _).mono ?_; rintro e w1 ⟨rfl, hb⟩; have m_ := Aside0.mk (HS.out.call (by repeat (first | exact Below.refl _ _ | apply below_alloc | apply pw_below_drewN | apply below_drew1)) hb); clear HS hb ; have HS := m_; clear m_) | (go_at_call 43; refine (made_ok k A c l r1 _ (HS.out.step (by repeat (first | exact Below.refl _ _ | apply below_alloc | apply pw_below_drewN | apply below_drew1))).now HC.out hn H.out hs).mono ?_; rintro e w2 ⟨m, rfl, hM, hb⟩; have m_ := Aside0.mk ((HS.out.call (by repeat (first | exact Below.refl _ _ | apply below_alloc | apply pw_below_drewN | apply below_drew1)) hb).add hM (keeps_map _ _)); clear HS hb hM; have HS := m_; clear m_) | (have _t := t1; go_at_call 29; refine (colophonref00_Bring.calls n _ _ _ BM.out).mono ?_; rintro e w3 ⟨rfl, nq, rfl⟩; clear t1 _t) | (have _t := t2; go_at_call 29; refine (colophonref00_Bring.calls k_ _ _ _ BM2.out).mono ?_; rintro e w3 ⟨rfl, nq2, rfl⟩; clear t2 _t) | (have _t := t3; go_at_call 39; refine (MPos_is m l lo _ (HS.out.step (by repeat (first | exact Below.refl _ _ | apply below_alloc | apply pw_below_drewN | apply below_drew1))).now.1 hs HBY.out HV.out l0 (by omega)).mono ?_; rintro e w5 ⟨rfl, hb⟩; rw [← HFL.out, ← HPL.out]; have m_ := Aside0.mk (HS.out.call (by repeat (first | exact Below.refl _ _ | apply below_alloc | apply pw_below_drewN | apply below_drew1)) hb); clear HS hb ; have HS := m_; clear m_; clear t3 _t) | (have _t := t4; go_at_call 39; refine (MPos_is m l hi _ (HS.out.step (by repeat (first | exact Below.refl _ _ | apply below_alloc | apply pw_below_drewN | apply below_drew1))).now.1 hs HBY.out HV.out (by omega) h1).mono ?_; rintro e w6 ⟨rfl, hb⟩; rw [← HFH.out, ← HPH.out]; have zb := blk_new w5 (.cells #[.int .i64 fl, .int .i64 pl] 58); have z0 := cell_alloc1 (cell_below ((blk_cell zb 0).trans rfl) hb); have z1 := cell_alloc1 (cell_below ((blk_cell zb 1).trans rfl) hb); clear zb; have m_ := Aside0.mk (HS.out.call (by repeat (first | exact Below.refl _ _ | apply below_alloc | apply pw_below_drewN | apply below_drew1)) hb); clear HS hb ; have HS := m_; clear m_; clear t4 _t))
        go_ret
        exact ⟨rfl, (HS.out.step (by repeat (first | exact Below.refl _ _ | apply below_alloc | apply pw_below_drewN | apply below_drew1))).bel⟩
      · subst hp
        have hp2 : ¬ (fl : Int) < fl := by omega
        go_enter Try.func14, Try.ntmps14
        go_wp2_with (first | (go_at_call 36; refine (pworks_ok _).mono ?_; rintro e w1 ⟨rfl, hb⟩; have m_ := Aside0.mk (HS.out.call (by repeat (first | exact Below.refl _ _ | apply below_alloc | apply pw_below_drewN | apply below_drew1)) hb); clear HS hb ; have HS := m_; clear m_) | (go_at_call 43; refine (made_ok k A c l r1 _ (HS.out.step (by repeat (first | exact Below.refl _ _ | apply below_alloc | apply pw_below_drewN | apply below_drew1))).now HC.out hn H.out hs).mono ?_; rintro e w2 ⟨m, rfl, hM, hb⟩; have m_ := Aside0.mk ((HS.out.call (by repeat (first | exact Below.refl _ _ | apply below_alloc | apply pw_below_drewN | apply below_drew1)) hb).add hM (keeps_map _ _)); clear HS hb hM; have HS := m_; clear m_) | (have _t := t1; go_at_call 29; refine (colophonref00_Bring.calls n _ _ _ BM.out).mono ?_; rintro e w3 ⟨rfl, nq, rfl⟩; clear t1 _t) | (have _t := t2; go_at_call 29; refine (colophonref00_Bring.calls k_ _ _ _ BM2.out).mono ?_; rintro e w3 ⟨rfl, nq2, rfl⟩; clear t2 _t) | (have _t := t3; go_at_call 39; refine (MPos_is m l lo _ (HS.out.step (by repeat (first | exact Below.refl _ _ | apply below_alloc | apply pw_below_drewN | apply below_drew1))).now.1 hs HBY.out HV.out l0 (by omega)).mono ?_; rintro e w5 ⟨rfl, hb⟩; rw [← HFL.out, ← HPL.out]; have m_ := Aside0.mk (HS.out.call (by repeat (first | exact Below.refl _ _ | apply below_alloc | apply pw_below_drewN | apply below_drew1)) hb); clear HS hb ; have HS := m_; clear m_; clear t3 _t) | (have _t := t4; go_at_call 39; refine (MPos_is m l hi _ (HS.out.step (by repeat (first | exact Below.refl _ _ | apply below_alloc | apply pw_below_drewN | apply below_drew1))).now.1 hs HBY.out HV.out (by omega) h1).mono ?_; rintro e w6 ⟨rfl, hb⟩; rw [← HFH.out, ← HPH.out]; have zb := blk_new w5 (.cells #[.int .i64 fl, .int .i64 pl] 58); have z0 := cell_alloc1 (cell_below ((blk_cell zb 0).trans rfl) hb); have z1 := cell_alloc1 (cell_below ((blk_cell zb 1).trans rfl) hb); clear zb; have m_ := Aside0.mk (HS.out.call (by repeat (first | exact Below.refl _ _ | apply below_alloc | apply pw_below_drewN | apply below_drew1)) hb); clear HS hb ; have HS := m_; clear m_; clear t4 _t))
        go_ret
        exact ⟨rfl, (HS.out.step (by repeat (first | exact Below.refl _ _ | apply below_alloc | apply pw_below_drewN | apply below_drew1))).bel⟩
  · clear hn
    go_enter Try.func14, Try.ntmps14
    go_wp2_with (first | (go_at_call 36; refine (pworks_ok _).mono ?_; rintro e w1 ⟨rfl, hb⟩; have m_ := Aside0.mk (HS.out.call (by repeat (first | exact Below.refl _ _ | apply below_alloc | apply pw_below_drewN | apply below_drew1)) hb); clear HS hb ; have HS := m_; clear m_) | (go_at_call 43; refine (made_err k A c l r1 r2 _ (HS.out.step (by repeat (first | exact Below.refl _ _ | apply below_alloc | apply pw_below_drewN | apply below_drew1))).now HC.out H.out hz).mono ?_; rintro e w2 ⟨rfl, hb⟩; have m_ := Aside0.mk (HS.out.call (by repeat (first | exact Below.refl _ _ | apply below_alloc | apply pw_below_drewN | apply below_drew1)) hb); clear HS hb ; have HS := m_; clear m_))
    go_ret
    exact ⟨rfl, HS.out.bel⟩
theorem PlaceOrder_row (A : Option Addr) (n c : Nat) (zs : List Int) (p q : Int) (W : World) (h : IsRow .u8 W A n c zs) (hb : c ≤ 1048576) (_hp : (Lit.int .i64 p).wf = true) (_hq : (Lit.int .i64 q).wf = true) :
    Calls Try.prog 14 #[.slice A n c, .int .i64 p, .int .i64 q] W fun e w' => e = .returned (.bool true) ∧ Below W.heap.size W w' := by
  have hn : A = none → c = 0 := fun e => by
    subst e
    rcases h with ⟨_, _, h, _⟩ | ⟨x, h, _⟩
    · exact h
    · cases h
  obtain ⟨l, rfl, hc, hC, hw⟩ := h.reads
  have hB : Bytes l := fun x hx => byte_wf (hw x hx)
  exact PlaceOrder_ok _ A c l _ _ p q W hC hc hn hB (Check_f l hB (by omega) (Nat.lt_succ_self _)) rfl (by omega)
end Go.Proofs.Ytogfaahdbecdnaa.B

/-
  PlaceAgain, walked.
-/
namespace Go.Proofs.Ytogfaahdbecdnaa.B
open Go.RowKit Go.Shelf Go.Proofs Go.Proofs.YtogfaahdbecdnaaW.PrintWords Go.Proofs.YtogfaahdbecdnaaW.PrintLast Go.Proofs.YtogfaahdbecdnaaW.PrintMore Go.Proofs.Ytogfaahdbecdnaa.FBase
set_option linter.unusedVariables false
set_option linter.unusedSimpArgs false

theorem un_le : ∀ {r : List (Int × Int)}, Good r → un r ≤ 2 * sz r
  | [], _ => by simp [un, sz]
  | x :: r, h => by have := h.head; have := un_le h.tail; simp only [un, sz]; omega
theorem pch_range (l : List Int) (hB : Bytes l) (hv : V l) (n : Int) : 0 ≤ pch l n ∧ pch l n ≤ 2 * l.length := by
  have h := (fnd_is l n).1
  obtain ⟨a, b, c, _, g, hsz⟩ := line_is l hB hv _ h
  have h1 := ufl_range (n - (rdLn (lns l 0 0) (fnd l n : Nat)).f0) g
  have h2 := un_le g
  unfold pch
  omega
end Go.Proofs.Ytogfaahdbecdnaa.B

/-
  PlaceRise, walked.
-/
namespace Go.Proofs.Ytogfaahdbecdnaa.B
open Go.RowKit Go.Shelf Go.Proofs Go.Proofs.YtogfaahdbecdnaaW.PrintWords Go.Proofs.YtogfaahdbecdnaaW.PrintLast Go.Proofs.YtogfaahdbecdnaaW.PrintMore Go.Proofs.Ytogfaahdbecdnaa.FBase
set_option linter.unusedVariables false
set_option linter.unusedSimpArgs false

theorem alloc_drewN (W : World) (o : Obj) (n : Nat) : (W.drewN n).alloc o = (W.alloc o).drewN n := rfl
theorem froz_below {W W1 : World} {p : Addr} {v : Value} (h : W.cell? p = some v) (hf : W.frozen? p = false) (hb : Below W.heap.size W W1) : W1.frozen? p = false := (hb.frozen (World.block_lt_of_cell? W _ h)).trans hf
theorem froz_drewN1 {W : World} {p : Addr} (h : W.frozen? p = false) (n : Nat) : (W.drewN n).frozen? p = false := h
theorem new_at {W : World} {g : Nat} {o : Obj} (h : W.heap.size = g) : IsBlk (W.alloc o) g o := by
  subst h
  exact blk_new W o
theorem rel_mk {w w2 W : World} {F : World → Prop} {m b : Nat} {l : List Int} {o : Obj} (h : Sta w w2 F) (hm : IsMap w2 m l) (hB : Below w2.heap.size w2 W) (hb : IsBlk W b o) : Sta w W (fun W => IsBlk W b o ∧ IsMap W m l) :=
  ⟨below_step h.bel hB, ⟨hb, hm.below hB⟩, keeps_and (keeps_blk _ _) (keeps_map _ _)⟩
theorem blk4 {W : World} {b : Nat} {z : Value} {t : TypeId} (h : IsBlk W b (.cells #[z, z, z, z] t (0, 0))) (u0 u1 u2 u3 : Value) :
    IsBlk ((((W.setCell ⟨b, 0, none⟩ u0).setCell ⟨b, 1, none⟩ u1).setCell ⟨b, 2, none⟩ u2).setCell ⟨b, 3, none⟩ u3) b (.cells #[u0, u1, u2, u3] t (0, 0)) :=
  (blk_set (blk_set (blk_set (blk_set h 0 u0) 1 u1) 2 u2) 3 u3).trans rfl
theorem blk2 {W : World} {b : Nat} {z z1 : Value} {t : TypeId} (h : IsBlk W b (.cells #[z, z1] t (0, 0))) (u0 u1 : Value) :
    IsBlk ((W.setCell ⟨b, 0, none⟩ u0).setCell ⟨b, 1, none⟩ u1) b (.cells #[u0, u1] t (0, 0)) :=
  (blk_set (blk_set h 0 u0) 1 u1).trans rfl
theorem poff_again (l : List Int) (hB : Bytes l) (hv : V l) (a ca : Int) (h0 : 0 ≤ a) (h1 : 0 ≤ ca) : poff l (fnd l (poff l a ca)) (pch l (poff l a ca)) = poff l a ca := by
  by_cases h : ((lns l 0 0).length : Int) ≤ a
  · rw [poff_far l a ca h]
    exact (again_end l hB hv).1
  · obtain ⟨j, rfl⟩ := Int.eq_ofNat_of_zero_le h0
    exact (again_in l hB hv j (by omega) ca h1).2.2.2.1

set_option maxRecDepth 100000 in
set_option maxHeartbeats 4000000 in
theorem PlaceRise_err (k : Nat) (A : Option Addr) (c : Nat) (l : List Int) (r1 r2 a0 a1 b0 b1 : Int) (w : World) (hr : Kd.C (Kd.int .u8) w A l.length l) (hc : l.length ≤ c) (h : runes_Check.f k l = some (r1, r2)) (hz : r2 ≠ 0) :
    Calls Try.prog 15 #[.slice A l.length c, .agg #[.int .i64 a0, .int .i64 a1], .agg #[.int .i64 b0, .int .i64 b1]] w fun e w' => e = .returned (.bool true) ∧ Below w.heap.size w w' := by
  have HC := Aside0.mk hc
  have H := Aside0.mk h
  have hb1 : Below w.heap.size w (w.alloc (.cells #[.int .i64 a0, .int .i64 a1] 75)) := below_alloc (Below.refl _ _) _
  have hb2 : Below (w.alloc (.cells #[.int .i64 a0, .int .i64 a1] 75)).heap.size (w.alloc (.cells #[.int .i64 a0, .int .i64 a1] 75)) ((w.alloc (.cells #[.int .i64 a0, .int .i64 a1] 75)).alloc (.cells #[.int .i64 b0, .int .i64 b1] 75)) := below_alloc (Below.refl _ _) _
  have hg1 : IsBlk ((w.alloc (.cells #[.int .i64 a0, .int .i64 a1] 75)).alloc (.cells #[.int .i64 b0, .int .i64 b1] 75)) (w.alloc (.cells #[.int .i64 a0, .int .i64 a1] 75)).heap.size (.cells #[.int .i64 b0, .int .i64 b1] 75) := blk_new _ _
  rw [World.size_alloc] at hg1
  have HS : Aside0 (Sta w ((w.alloc (.cells #[.int .i64 a0, .int .i64 a1] 75)).alloc (.cells #[.int .i64 b0, .int .i64 b1] 75)) (fun W => IsBlk W w.heap.size (.cells #[.int .i64 a0, .int .i64 a1] 75) ∧ IsBlk W (w.heap.size + 1) (.cells #[.int .i64 b0, .int .i64 b1] 75) ∧ Kd.C (Kd.int .u8) W A l.length l)) := ⟨⟨below_step hb1 hb2, ⟨IsBlk.below (blk_new w _) hb2, hg1, Kd.C_below (Kd.C_below hr hb1) hb2⟩, keeps_and (keeps_blk _ _) (keeps_and (keeps_blk _ _) (keeps_C _ _ _ _))⟩⟩
  clear hb1 hb2 hg1 hr hc h
  go_enter Try.func15, Try.ntmps15
  go_wp2_with (first | (go_at_call 36; refine (pworks_ok _).mono ?_; rintro e w1 ⟨rfl, hb⟩; have m_ := Aside0.mk (HS.out.call (by repeat (first | exact Below.refl _ _ | apply below_alloc | apply pw_below_drewN | apply below_drew1)) hb); clear HS hb ; have HS := m_; clear m_) | (go_at_call 43; refine (made_err k A c l r1 r2 _ (HS.out.step (by repeat (first | exact Below.refl _ _ | apply below_alloc | apply pw_below_drewN | apply below_drew1))).now.2.2 HC.out H.out hz).mono ?_; rintro e w2 ⟨rfl, hb⟩; have m_ := Aside0.mk (HS.out.call (by repeat (first | exact Below.refl _ _ | apply below_alloc | apply pw_below_drewN | apply below_drew1)) hb); clear HS hb ; have HS := m_; clear m_))
  go_ret
  exact ⟨rfl, HS.out.bel⟩

set_option maxRecDepth 100000 in
set_option maxHeartbeats 8000000 in
theorem PlaceRise_ok (k : Nat) (A : Option Addr) (c : Nat) (l : List Int) (r1 a0 a1 b0 b1 : Int) (w : World) (hr : Kd.C (Kd.int .u8) w A l.length l) (hc : l.length ≤ c) (hn : A = none → c = 0) (hB : Bytes l) (h : runes_Check.f k l = some (r1, 0)) (hv : V l) (hs : l.length ≤ 1048576) :
    Calls Try.prog 15 #[.slice A l.length c, .agg #[.int .i64 a0, .int .i64 a1], .agg #[.int .i64 b0, .int .i64 b1]] w fun e w' => e = .returned (.bool true) ∧ Below w.heap.size w w' := by
  have HC := Aside0.mk hc
  have H := Aside0.mk h
  have HBY := Aside0.mk hB
  have HV := Aside0.mk hv
  have hb1 : Below w.heap.size w (w.alloc (.cells #[.int .i64 a0, .int .i64 a1] 75)) := below_alloc (Below.refl _ _) _
  have hb2 : Below (w.alloc (.cells #[.int .i64 a0, .int .i64 a1] 75)).heap.size (w.alloc (.cells #[.int .i64 a0, .int .i64 a1] 75)) ((w.alloc (.cells #[.int .i64 a0, .int .i64 a1] 75)).alloc (.cells #[.int .i64 b0, .int .i64 b1] 75)) := below_alloc (Below.refl _ _) _
  have hg1 : IsBlk ((w.alloc (.cells #[.int .i64 a0, .int .i64 a1] 75)).alloc (.cells #[.int .i64 b0, .int .i64 b1] 75)) (w.alloc (.cells #[.int .i64 a0, .int .i64 a1] 75)).heap.size (.cells #[.int .i64 b0, .int .i64 b1] 75) := blk_new _ _
  rw [World.size_alloc] at hg1
  have HS : Aside0 (Sta w ((w.alloc (.cells #[.int .i64 a0, .int .i64 a1] 75)).alloc (.cells #[.int .i64 b0, .int .i64 b1] 75)) (fun W => IsBlk W w.heap.size (.cells #[.int .i64 a0, .int .i64 a1] 75) ∧ IsBlk W (w.heap.size + 1) (.cells #[.int .i64 b0, .int .i64 b1] 75) ∧ Kd.C (Kd.int .u8) W A l.length l)) := ⟨⟨below_step hb1 hb2, ⟨IsBlk.below (blk_new w _) hb2, hg1, Kd.C_below (Kd.C_below hr hb1) hb2⟩, keeps_and (keeps_blk _ _) (keeps_and (keeps_blk _ _) (keeps_C _ _ _ _))⟩⟩
  clear hb1 hb2 hg1 hr hc h hB hv
  have Ba0 := Aside0.mk (bring_f a0 50 (by decide) (by decide))
  have Ba1 := Aside0.mk (bring_f a1 50 (by decide) (by decide))
  have Bb0 := Aside0.mk (bring_f b0 50 (by decide) (by decide))
  have Bb1 := Aside0.mk (bring_f b1 50 (by decide) (by decide))
  have l0 := Int.emod_nonneg a0 (show (50 : Int) ≠ 0 by decide)
  have m0 := Int.emod_nonneg a1 (show (50 : Int) ≠ 0 by decide)
  have h0 := Int.emod_nonneg b0 (show (50 : Int) ≠ 0 by decide)
  have k0 := Int.emod_nonneg b1 (show (50 : Int) ≠ 0 by decide)
  have l9 := Int.emod_lt_of_pos a0 (show (0 : Int) < 50 by decide)
  have m9 := Int.emod_lt_of_pos a1 (show (0 : Int) < 50 by decide)
  have h9 := Int.emod_lt_of_pos b0 (show (0 : Int) < 50 by decide)
  have k9 := Int.emod_lt_of_pos b1 (show (0 : Int) < 50 by decide)
  generalize a0 % 50 = li at *
  generalize a1 % 50 = la at *
  generalize b0 % 50 = hi at *
  generalize b1 % 50 = ha at *
  have ta0 := True.intro
  have ta1 := True.intro
  have tb0 := True.intro
  have tb1 := True.intro
  have tp1 := True.intro
  have tp2 := True.intro
  go_enter Try.func15, Try.ntmps15
  go_upto_region 6 with (first | (go_at_call 36; refine (pworks_ok _).mono ?_; rintro e w1 ⟨rfl, hb⟩; have m_ := Aside0.mk (HS.out.call (by repeat (first | exact Below.refl _ _ | apply below_alloc | apply pw_below_drewN | apply below_drew1)) hb); clear HS hb ; have HS := m_; clear m_) | (go_at_call 43; refine (made_ok k A c l r1 _ (HS.out.step (by repeat (first | exact Below.refl _ _ | apply below_alloc | apply pw_below_drewN | apply below_drew1))).now.2.2 HC.out hn H.out hs).mono ?_; rintro e w2 ⟨m, rfl, hM, hb⟩; have m_ := Aside0.mk ((HS.out.call (by repeat (first | exact Below.refl _ _ | apply below_alloc | apply pw_below_drewN | apply below_drew1)) hb).add hM (keeps_map _ _)); clear HS hb hM; have HS := m_; clear m_; have c0 : w2.cell? ⟨w.heap.size, 0, none⟩ = some (.int .i64 a0) := HS.out.now.2.1.cell 0; have d0 : w2.cell? ⟨w.heap.size + 1, 0, none⟩ = some (.int .i64 b0) := HS.out.now.2.2.1.cell 0; have c1 : w2.cell? ⟨w.heap.size, 1, none⟩ = some (.int .i64 a1) := HS.out.now.2.1.cell 1; have d1 : w2.cell? ⟨w.heap.size + 1, 1, none⟩ = some (.int .i64 b1) := HS.out.now.2.2.1.cell 1))
  go_cut [8, 9] from 14 (fun s8 s9 W => ∃ b8 b9, s8 = .pointer (some ⟨b8, 0, none⟩) ∧ s9 = .pointer (some ⟨b9, 0, none⟩) ∧ b8 ≠ b9 ∧ w2.heap.size ≤ b8 ∧ w2.heap.size ≤ b9 ∧ Aside0 (Below w2.heap.size w2 W ∧ IsBlk W b8 (.cells #[.int .i64 li, .int .i64 la] 58 (0, 0)) ∧ IsBlk W b9 (.cells #[.int .i64 hi, .int .i64 ha] 58 (0, 0))))
  case first =>
    have HS0 := HS
    have qa := blk_lt HS.out.now.2.1
    have qb := blk_lt HS.out.now.2.2.1
    have w2a1 := Nat.ne_of_lt qa
    have w2a2 := Ne.symm w2a1
    have w2b1 := Nat.ne_of_lt qb
    have w2b2 := Ne.symm w2b1
    have w2a3 := Nat.ne_of_lt (Nat.lt_succ_of_lt qa)
    have w2a4 := Ne.symm w2a3
    have w2b3 := Nat.ne_of_lt (Nat.lt_succ_of_lt qb)
    have w2b4 := Ne.symm w2b3
    clear qa qb
    go_region_held3 (fun wx => wx.cell? ⟨w.heap.size, 0, none⟩ = some (.int .i64 a0) ∧ wx.cell? ⟨w.heap.size, 1, none⟩ = some (.int .i64 a1) ∧ wx.cell? ⟨w.heap.size + 1, 0, none⟩ = some (.int .i64 b0) ∧ wx.cell? ⟨w.heap.size + 1, 1, none⟩ = some (.int .i64 b1)) (go_keep) (first | (have _t := ta0; go_at_call 29; refine (colophonref00_Bring.calls a0 _ _ _ Ba0.out).mono ?_; rintro e w3 ⟨rfl, na0, rfl⟩; clear ta0 _t) | (have _t := ta1; go_at_call 29; refine (colophonref00_Bring.calls a1 _ _ _ Ba1.out).mono ?_; rintro e w3 ⟨rfl, na1, rfl⟩; clear ta1 _t) | (have _t := tb0; go_at_call 29; refine (colophonref00_Bring.calls b0 _ _ _ Bb0.out).mono ?_; rintro e w3 ⟨rfl, nb0, rfl⟩; clear tb0 _t) | (have _t := tb1; go_at_call 29; refine (colophonref00_Bring.calls b1 _ _ _ Bb1.out).mono ?_; rintro e w3 ⟨rfl, nb1, rfl⟩; clear tb1 _t) | (have _t := tp1; go_at_call 45; refine (pos_ok li la _).mono ?_; rintro e w3 ⟨rfl, hb⟩; have HB1 := Aside0.mk hb; have hz1 := hb.size; simp at hz1; obtain ⟨hbc, hbf⟩ := bcell hb; (try (refine (fun (zb : IsBlk w3 (w2.heap.size) (.cells #[.int .i64 0, .int .i64 0] 58 (0, 0))) => ?_) (IsBlk.below ?_ hb); rotate_left; (focus ((repeat (first | ((with_reducible refine new_at ?_); (simp; done)) | (with_reducible refine IsBlk.drewN ?_ _) | (with_reducible refine IsBlk.alloc ?_ _))); done)); have z0 : w3.cell? ⟨w2.heap.size, 0, none⟩ = some (.int .i64 0) := zb.cell 0; have zf0 : w3.frozen? ⟨w2.heap.size, 0, none⟩ = false := zb.frozen 0; have z1 : w3.cell? ⟨w2.heap.size, 1, none⟩ = some (.int .i64 0) := zb.cell 1; have zf1 : w3.frozen? ⟨w2.heap.size, 1, none⟩ = false := zb.frozen 1; clear zb)); (try (refine (fun (zzb : IsBlk w3 (w2.heap.size + 1) (.cells #[.int .i64 0, .int .i64 0] 58 (0, 0))) => ?_) (IsBlk.below ?_ hb); rotate_left; (focus ((repeat (first | ((with_reducible refine new_at ?_); (simp; done)) | (with_reducible refine IsBlk.drewN ?_ _) | (with_reducible refine IsBlk.alloc ?_ _))); done)); have zz0 : w3.cell? ⟨w2.heap.size + 1, 0, none⟩ = some (.int .i64 0) := zzb.cell 0; have zzf0 : w3.frozen? ⟨w2.heap.size + 1, 0, none⟩ = false := zzb.frozen 0; have zz1 : w3.cell? ⟨w2.heap.size + 1, 1, none⟩ = some (.int .i64 0) := zzb.cell 1; have zzf1 : w3.frozen? ⟨w2.heap.size + 1, 1, none⟩ = false := zzb.frozen 1; clear zzb)); clear hbc hbf; (try (have nzn1 := Nat.ne_of_lt (World.block_lt_of_cell? _ _ z0); have nzn2 := Ne.symm nzn1)); (try (have nzzn1 := Nat.ne_of_lt (World.block_lt_of_cell? _ _ zz0); have nzzn2 := Ne.symm nzzn1)); have m_ := Aside0.mk (HS.out.call (by repeat (first | exact Below.refl _ _ | apply below_alloc | apply pw_below_drewN | apply below_drew1)) hb); clear HS hb ; have HS := m_; clear m_; have c0 : w3.cell? ⟨w.heap.size, 0, none⟩ = some (.int .i64 a0) := HS.out.now.2.1.cell 0; have d0 : w3.cell? ⟨w.heap.size + 1, 0, none⟩ = some (.int .i64 b0) := HS.out.now.2.2.1.cell 0; have c1 : w3.cell? ⟨w.heap.size, 1, none⟩ = some (.int .i64 a1) := HS.out.now.2.1.cell 1; have d1 : w3.cell? ⟨w.heap.size + 1, 1, none⟩ = some (.int .i64 b1) := HS.out.now.2.2.1.cell 1; have c0a := cell_alloc1 c0; have d0a := cell_alloc1 d0; have c0b := cell_alloc2 c0; have d0b := cell_alloc2 d0; have c1a := cell_alloc1 c1; have d1a := cell_alloc1 d1; have c1b := cell_alloc2 c1; have d1b := cell_alloc2 d1; have qa := blk_lt HS.out.now.2.1; have qb := blk_lt HS.out.now.2.2.1; have w3a1 := Nat.ne_of_lt qa; have w3a2 := Ne.symm w3a1; have w3b1 := Nat.ne_of_lt qb; have w3b2 := Ne.symm w3b1; have w3a3 := Nat.ne_of_lt (Nat.lt_succ_of_lt qa); have w3a4 := Ne.symm w3a3; have w3b3 := Nat.ne_of_lt (Nat.lt_succ_of_lt qb); have w3b4 := Ne.symm w3b3; clear qa qb; clear tp1 _t) | (have _t := tp2; go_at_call 45; refine (pos_ok hi ha _).mono ?_; rintro e w4 ⟨rfl, hb⟩; have HB2 := Aside0.mk hb; have hz2 := hb.size; simp at hz2; obtain ⟨hbc, hbf⟩ := bcell hb; (try (refine (fun (y0 : w4.cell? ⟨w2.heap.size, 0, none⟩ = some (.int .i64 0)) => ?_) (cell_below ?_ hb); rotate_left; (focus ((repeat (with_reducible first | exact z0 | apply cell_alloc1 | apply cell_drewN1)); done)); refine (fun (yf0 : w4.frozen? ⟨w2.heap.size, 0, none⟩ = false) => ?_) (froz_below (v := .int .i64 0) ?_ ?_ hb); rotate_left; (focus ((repeat (with_reducible first | exact z0 | apply cell_alloc1 | apply cell_drewN1)); done)); (focus ((repeat (with_reducible first | exact zf0 | refine froz_alloc1 (v := .int .i64 0) ?_ ?_ _ | refine froz_drewN1 ?_ _ | exact z0 | apply cell_alloc1 | apply cell_drewN1)); done)); refine (fun (y1 : w4.cell? ⟨w2.heap.size, 1, none⟩ = some (.int .i64 0)) => ?_) (cell_below ?_ hb); rotate_left; (focus ((repeat (with_reducible first | exact z1 | apply cell_alloc1 | apply cell_drewN1)); done)); refine (fun (yf1 : w4.frozen? ⟨w2.heap.size, 1, none⟩ = false) => ?_) (froz_below (v := .int .i64 0) ?_ ?_ hb); rotate_left; (focus ((repeat (with_reducible first | exact z1 | apply cell_alloc1 | apply cell_drewN1)); done)); (focus ((repeat (with_reducible first | exact zf1 | refine froz_alloc1 (v := .int .i64 0) ?_ ?_ _ | refine froz_drewN1 ?_ _ | exact z1 | apply cell_alloc1 | apply cell_drewN1)); done)))); (try (refine (fun (yy0 : w4.cell? ⟨w2.heap.size + 1, 0, none⟩ = some (.int .i64 0)) => ?_) (cell_below ?_ hb); rotate_left; (focus ((repeat (with_reducible first | exact zz0 | apply cell_alloc1 | apply cell_drewN1)); done)); refine (fun (yyf0 : w4.frozen? ⟨w2.heap.size + 1, 0, none⟩ = false) => ?_) (froz_below (v := .int .i64 0) ?_ ?_ hb); rotate_left; (focus ((repeat (with_reducible first | exact zz0 | apply cell_alloc1 | apply cell_drewN1)); done)); (focus ((repeat (with_reducible first | exact zzf0 | refine froz_alloc1 (v := .int .i64 0) ?_ ?_ _ | refine froz_drewN1 ?_ _ | exact zz0 | apply cell_alloc1 | apply cell_drewN1)); done)); refine (fun (yy1 : w4.cell? ⟨w2.heap.size + 1, 1, none⟩ = some (.int .i64 0)) => ?_) (cell_below ?_ hb); rotate_left; (focus ((repeat (with_reducible first | exact zz1 | apply cell_alloc1 | apply cell_drewN1)); done)); refine (fun (yyf1 : w4.frozen? ⟨w2.heap.size + 1, 1, none⟩ = false) => ?_) (froz_below (v := .int .i64 0) ?_ ?_ hb); rotate_left; (focus ((repeat (with_reducible first | exact zz1 | apply cell_alloc1 | apply cell_drewN1)); done)); (focus ((repeat (with_reducible first | exact zzf1 | refine froz_alloc1 (v := .int .i64 0) ?_ ?_ _ | refine froz_drewN1 ?_ _ | exact zz1 | apply cell_alloc1 | apply cell_drewN1)); done)))); (try (refine (fun (ub : IsBlk w4 (w3.heap.size) (.cells #[.int .i64 0, .int .i64 0] 58 (0, 0))) => ?_) (IsBlk.below ?_ hb); rotate_left; (focus ((repeat (first | ((with_reducible refine new_at ?_); (simp; done)) | (with_reducible refine IsBlk.drewN ?_ _) | (with_reducible refine IsBlk.alloc ?_ _))); done)); have u0 : w4.cell? ⟨w3.heap.size, 0, none⟩ = some (.int .i64 0) := ub.cell 0; have uf0 : w4.frozen? ⟨w3.heap.size, 0, none⟩ = false := ub.frozen 0; have u1 : w4.cell? ⟨w3.heap.size, 1, none⟩ = some (.int .i64 0) := ub.cell 1; have uf1 : w4.frozen? ⟨w3.heap.size, 1, none⟩ = false := ub.frozen 1; clear ub)); (try (refine (fun (uub : IsBlk w4 (w3.heap.size + 1) (.cells #[.int .i64 0, .int .i64 0] 58 (0, 0))) => ?_) (IsBlk.below ?_ hb); rotate_left; (focus ((repeat (first | ((with_reducible refine new_at ?_); (simp; done)) | (with_reducible refine IsBlk.drewN ?_ _) | (with_reducible refine IsBlk.alloc ?_ _))); done)); have uu0 : w4.cell? ⟨w3.heap.size + 1, 0, none⟩ = some (.int .i64 0) := uub.cell 0; have uuf0 : w4.frozen? ⟨w3.heap.size + 1, 0, none⟩ = false := uub.frozen 0; have uu1 : w4.cell? ⟨w3.heap.size + 1, 1, none⟩ = some (.int .i64 0) := uub.cell 1; have uuf1 : w4.frozen? ⟨w3.heap.size + 1, 1, none⟩ = false := uub.frozen 1; clear uub)); clear hbc hbf; (try (have y0a := cell_alloc1 y0; have y0fa := froz_alloc1 y0 yf0; have y1a := cell_alloc1 y1; have y1fa := froz_alloc1 y1 yf1)); (try (have yy0a := cell_alloc1 yy0; have yy0fa := froz_alloc1 yy0 yyf0; have yy1a := cell_alloc1 yy1; have yy1fa := froz_alloc1 yy1 yyf1)); (try (have u0a := cell_alloc1 u0; have u0fa := froz_alloc1 u0 uf0; have u1a := cell_alloc1 u1; have u1fa := froz_alloc1 u1 uf1)); (try (have uu0a := cell_alloc1 uu0; have uu0fa := froz_alloc1 uu0 uuf0; have uu1a := cell_alloc1 uu1; have uu1fa := froz_alloc1 uu1 uuf1)); (try (have nyn1 := Nat.ne_of_lt (World.block_lt_of_cell? _ _ y0); have nyn2 := Ne.symm nyn1)); (try (have nyyn1 := Nat.ne_of_lt (World.block_lt_of_cell? _ _ yy0); have nyyn2 := Ne.symm nyyn1)); (try (have nun1 := Nat.ne_of_lt (World.block_lt_of_cell? _ _ u0); have nun2 := Ne.symm nun1)); (try (have nuun1 := Nat.ne_of_lt (World.block_lt_of_cell? _ _ uu0); have nuun2 := Ne.symm nuun1)); have m_ := Aside0.mk (HS.out.call (by repeat (first | exact Below.refl _ _ | apply below_alloc | apply pw_below_drewN | apply below_drew1)) hb); clear HS hb ; have HS := m_; clear m_; have c0 : w4.cell? ⟨w.heap.size, 0, none⟩ = some (.int .i64 a0) := HS.out.now.2.1.cell 0; have d0 : w4.cell? ⟨w.heap.size + 1, 0, none⟩ = some (.int .i64 b0) := HS.out.now.2.2.1.cell 0; have c1 : w4.cell? ⟨w.heap.size, 1, none⟩ = some (.int .i64 a1) := HS.out.now.2.1.cell 1; have d1 : w4.cell? ⟨w.heap.size + 1, 1, none⟩ = some (.int .i64 b1) := HS.out.now.2.2.1.cell 1; have c0a := cell_alloc1 c0; have d0a := cell_alloc1 d0; have c0b := cell_alloc2 c0; have d0b := cell_alloc2 d0; have c1a := cell_alloc1 c1; have d1a := cell_alloc1 d1; have c1b := cell_alloc2 c1; have d1b := cell_alloc2 d1; have qa := blk_lt HS.out.now.2.1; have qb := blk_lt HS.out.now.2.2.1; have w4a1 := Nat.ne_of_lt qa; have w4a2 := Ne.symm w4a1; have w4b1 := Nat.ne_of_lt qb; have w4b2 := Ne.symm w4b1; have w4a3 := Nat.ne_of_lt (Nat.lt_succ_of_lt qa); have w4a4 := Ne.symm w4a3; have w4b3 := Nat.ne_of_lt (Nat.lt_succ_of_lt qb); have w4b4 := Ne.symm w4b3; clear qa qb; clear tp2 _t))
    all_goals
      clear HS
      go_wp2
      go_meet
      refine ⟨_, _, rfl, rfl, ?_, ?_, ?_, ⟨?_, ?_, ?_⟩⟩
      · omega
      · omega
      · omega
      · (repeat (first | (with_reducible exact Below.refl _ _) | (with_reducible refine below_alloc ?_ _) | (with_reducible refine pw_below_drewN ?_ _) | (with_reducible refine below_drew1 ?_) | (with_reducible refine below_step ?_ HB2.out) | (with_reducible refine below_step ?_ HB1.out) | ((with_reducible refine Below.setCell ?_ ?_ _); rotate_left; (focus (first | (simp; done) | (simp; omega))))))
      · (repeat (with_reducible first | ((refine new_at ?_); (simp; done)) | refine blk2 (z := .int .i64 0) (z1 := .int .i64 0) ?_ _ _ | (refine IsBlk.other ?_ ?_ _; rotate_left; (focus (first | assumption | (simp; done) | (simp; omega)))) | refine IsBlk.drewN ?_ _ | refine IsBlk.below ?_ HB2.out | refine IsBlk.below ?_ HB1.out | refine IsBlk.alloc ?_ _))
      · (repeat (with_reducible first | ((refine new_at ?_); (simp; done)) | refine blk2 (z := .int .i64 0) (z1 := .int .i64 0) ?_ _ _ | (refine IsBlk.other ?_ ?_ _; rotate_left; (focus (first | assumption | (simp; done) | (simp; omega)))) | refine IsBlk.drewN ?_ _ | refine IsBlk.below ?_ HB2.out | refine IsBlk.below ?_ HB1.out | refine IsBlk.alloc ?_ _))
  case rest =>
    have HS0 := HS
    clear HS
    obtain ⟨b8, b9, rfl, rfl, hne, ge8, ge9, HB⟩ := hcut
    have hne' := Ne.symm hne
    have hmap := HS0.out.now.1
    have hw2 := HS0.out.bel.size
    have HX : Aside0 (Sta w wc (fun W => IsBlk W b8 (.cells #[.int .i64 li, .int .i64 la] 58 (0, 0)) ∧ IsBlk W b9 (.cells #[.int .i64 hi, .int .i64 ha] 58 (0, 0)))) := ⟨⟨below_step HS0.out.bel HB.out.1, HB.out.2, keeps_and (keeps_blk _ _) (keeps_blk _ _)⟩⟩
    go_upto_region 7 with (fail)
    have HM := Aside0.mk hmap
    clear hmap
    have c0 : wc.cell? ⟨b8, 0, none⟩ = some (.int .i64 li) := HB.out.2.1.cell 0
    have c1 : wc.cell? ⟨b8, 1, none⟩ = some (.int .i64 la) := HB.out.2.1.cell 1
    have c2 : wc.cell? ⟨b9, 0, none⟩ = some (.int .i64 hi) := HB.out.2.2.cell 0
    have c3 : wc.cell? ⟨b9, 1, none⟩ = some (.int .i64 ha) := HB.out.2.2.cell 1
    have f0 : wc.frozen? ⟨b8, 0, none⟩ = false := HB.out.2.1.frozen 0
    have f1 : wc.frozen? ⟨b8, 1, none⟩ = false := HB.out.2.1.frozen 1
    have f2 : wc.frozen? ⟨b9, 0, none⟩ = false := HB.out.2.2.frozen 0
    have f3 : wc.frozen? ⟨b9, 1, none⟩ = false := HB.out.2.2.frozen 1
    have hK : ∀ a b c d : Int, Sta w ((((wc.setCell ⟨b8, 0, none⟩ (.int .i64 a)).setCell ⟨b8, 1, none⟩ (.int .i64 b)).setCell ⟨b9, 0, none⟩ (.int .i64 c)).setCell ⟨b9, 1, none⟩ (.int .i64 d)) (fun W => IsBlk W b8 (.cells #[.int .i64 a, .int .i64 b] 58 (0, 0)) ∧ IsBlk W b9 (.cells #[.int .i64 c, .int .i64 d] 58 (0, 0)) ∧ IsMap W m l) := fun a b c d => by
      have q : Below w2.heap.size w2 ((((wc.setCell ⟨b8, 0, none⟩ (.int .i64 a)).setCell ⟨b8, 1, none⟩ (.int .i64 b)).setCell ⟨b9, 0, none⟩ (.int .i64 c)).setCell ⟨b9, 1, none⟩ (.int .i64 d)) := (((HB.out.1.setCell ge8 _).setCell ge8 _).setCell ge9 _).setCell ge9 _
      have q0 : Below w.heap.size w ((((wc.setCell ⟨b8, 0, none⟩ (.int .i64 a)).setCell ⟨b8, 1, none⟩ (.int .i64 b)).setCell ⟨b9, 0, none⟩ (.int .i64 c)).setCell ⟨b9, 1, none⟩ (.int .i64 d)) := (((HX.out.bel.setCell (Nat.le_trans hw2 ge8) _).setCell (Nat.le_trans hw2 ge8) _).setCell (Nat.le_trans hw2 ge9) _).setCell (Nat.le_trans hw2 ge9) _
      exact ⟨q0, ⟨((blk2 HB.out.2.1 _ _).other hne _).other hne _, blk2 ((HB.out.2.2.other hne' _).other hne' _) _ _, HM.out.below q⟩, keeps_and (keeps_blk _ _) (keeps_and (keeps_blk _ _) (keeps_map _ _))⟩
    have hU : Sta w wc (fun W => IsBlk W b8 (.cells #[.int .i64 li, .int .i64 la] 58 (0, 0)) ∧ IsBlk W b9 (.cells #[.int .i64 hi, .int .i64 ha] 58 (0, 0)) ∧ IsMap W m l) := ⟨HX.out.bel, ⟨HB.out.2.1, HB.out.2.2, HM.out.below HB.out.1⟩, keeps_and (keeps_blk _ _) (keeps_and (keeps_blk _ _) (keeps_map _ _))⟩
    have HK := Aside0.mk hK
    have HU := Aside0.mk hU
    clear hK hU
    clear HS0 HB HX
    by_cases h1 : hi < li
    · have g1 : decide (hi < li) = true := decide_eq_true h1
      have hmono := poff_mono l HBY.out HV.out hi ha li la h0 (.inl h1)
      have hra := poff_range l HBY.out HV.out hi ha h0
      have hrb := poff_range l HBY.out HV.out li la l0
      obtain ⟨va, hva⟩ : ∃ va, va = poff l hi ha := ⟨_, rfl⟩
      obtain ⟨vb, hvb⟩ : ∃ vb, vb = poff l li la := ⟨_, rfl⟩
      rw [← hva] at hmono hra
      rw [← hvb] at hmono hrb
      have HVA := Aside0.mk hva
      have HVB := Aside0.mk hvb
      clear hva hvb
      go_upto_region 9 with (fail)
      have HS := Aside0.mk (HK.out hi ha li la)
      clear HK HU c0 c1 c2 c3 f0 f1 f2 f3
      generalize ((((wc.setCell ⟨b8, 0, none⟩ (.int .i64 hi)).setCell ⟨b8, 1, none⟩ (.int .i64 ha)).setCell ⟨b9, 0, none⟩ (.int .i64 li)).setCell ⟨b9, 1, none⟩ (.int .i64 la)) = W9 at *
      have gm : decide (va ≤ vb) = true := decide_eq_true hmono
      have c0 : W9.cell? ⟨b8, 0, none⟩ = some (.int .i64 hi) := HS.out.now.1.cell 0
      have d0 : W9.cell? ⟨b9, 0, none⟩ = some (.int .i64 li) := HS.out.now.2.1.cell 0
      have c1 : W9.cell? ⟨b8, 1, none⟩ = some (.int .i64 ha) := HS.out.now.1.cell 1
      have d1 : W9.cell? ⟨b9, 1, none⟩ = some (.int .i64 la) := HS.out.now.2.1.cell 1
      have tq1 := True.intro
      have tq2 := True.intro
      go_wp2_with (first | (have _t := tq1; go_at_call 37; refine (MOffset_is m l hi ha _ (HS.out.step (by repeat (first | exact Below.refl _ _ | apply below_alloc | apply pw_below_drewN | apply below_drew1))).now.2.2 hs HBY.out HV.out h0 k0 (by omega)).mono ?_; rintro e w5 ⟨rfl, hb⟩; rw [← HVA.out]; have m_ := Aside0.mk (HS.out.call (by repeat (first | exact Below.refl _ _ | apply below_alloc | apply pw_below_drewN | apply below_drew1)) hb); clear HS hb ; have HS := m_; clear m_; have c0 : w5.cell? ⟨b8, 0, none⟩ = some (.int .i64 hi) := HS.out.now.1.cell 0; have d0 : w5.cell? ⟨b9, 0, none⟩ = some (.int .i64 li) := HS.out.now.2.1.cell 0; have c1 : w5.cell? ⟨b8, 1, none⟩ = some (.int .i64 ha) := HS.out.now.1.cell 1; have d1 : w5.cell? ⟨b9, 1, none⟩ = some (.int .i64 la) := HS.out.now.2.1.cell 1; clear tq1 _t) | (have _t := tq2; go_at_call 37; refine (MOffset_is m l li la _ (HS.out.step (by repeat (first | exact Below.refl _ _ | apply below_alloc | apply pw_below_drewN | apply below_drew1))).now.2.2 hs HBY.out HV.out l0 m0 (by omega)).mono ?_; rintro e w6 ⟨rfl, hb⟩; rw [← HVB.out]; have m_ := Aside0.mk (HS.out.call (by repeat (first | exact Below.refl _ _ | apply below_alloc | apply pw_below_drewN | apply below_drew1)) hb); clear HS hb ; have HS := m_; clear m_; clear tq2 _t))
      go_ret
      exact ⟨rfl, (HS.out.step (by repeat (first | exact Below.refl _ _ | apply below_alloc | apply pw_below_drewN | apply below_drew1))).bel⟩
    · have g1 : decide (hi < li) = false := decide_eq_false h1
      by_cases h2 : li = hi
      · subst h2
        by_cases h3 : ha < la
        · have g3 : decide (ha < la) = true := decide_eq_true h3
          have hmono := poff_mono l HBY.out HV.out li ha li la l0 (.inr ⟨rfl, by omega⟩)
          have hra := poff_range l HBY.out HV.out li ha l0
          have hrb := poff_range l HBY.out HV.out li la l0
          obtain ⟨va, hva⟩ : ∃ va, va = poff l li ha := ⟨_, rfl⟩
          obtain ⟨vb, hvb⟩ : ∃ vb, vb = poff l li la := ⟨_, rfl⟩
          rw [← hva] at hmono hra
          rw [← hvb] at hmono hrb
          have HVA := Aside0.mk hva
          have HVB := Aside0.mk hvb
          clear hva hvb
          go_upto_region 9 with (fail)
          have HS := Aside0.mk (HK.out li ha li la)
          clear HK HU c0 c1 c2 c3 f0 f1 f2 f3
          generalize ((((wc.setCell ⟨b8, 0, none⟩ (.int .i64 li)).setCell ⟨b8, 1, none⟩ (.int .i64 ha)).setCell ⟨b9, 0, none⟩ (.int .i64 li)).setCell ⟨b9, 1, none⟩ (.int .i64 la)) = W9 at *
          have gm : decide (va ≤ vb) = true := decide_eq_true hmono
          have c0 : W9.cell? ⟨b8, 0, none⟩ = some (.int .i64 li) := HS.out.now.1.cell 0
          have d0 : W9.cell? ⟨b9, 0, none⟩ = some (.int .i64 li) := HS.out.now.2.1.cell 0
          have c1 : W9.cell? ⟨b8, 1, none⟩ = some (.int .i64 ha) := HS.out.now.1.cell 1
          have d1 : W9.cell? ⟨b9, 1, none⟩ = some (.int .i64 la) := HS.out.now.2.1.cell 1
          have tq1 := True.intro
          have tq2 := True.intro
          go_wp2_with (first | (have _t := tq1; go_at_call 37; refine (MOffset_is m l li ha _ (HS.out.step (by repeat (first | exact Below.refl _ _ | apply below_alloc | apply pw_below_drewN | apply below_drew1))).now.2.2 hs HBY.out HV.out l0 k0 (by omega)).mono ?_; rintro e w5 ⟨rfl, hb⟩; rw [← HVA.out]; have m_ := Aside0.mk (HS.out.call (by repeat (first | exact Below.refl _ _ | apply below_alloc | apply pw_below_drewN | apply below_drew1)) hb); clear HS hb ; have HS := m_; clear m_; have c0 : w5.cell? ⟨b8, 0, none⟩ = some (.int .i64 li) := HS.out.now.1.cell 0; have d0 : w5.cell? ⟨b9, 0, none⟩ = some (.int .i64 li) := HS.out.now.2.1.cell 0; have c1 : w5.cell? ⟨b8, 1, none⟩ = some (.int .i64 ha) := HS.out.now.1.cell 1; have d1 : w5.cell? ⟨b9, 1, none⟩ = some (.int .i64 la) := HS.out.now.2.1.cell 1; clear tq1 _t) | (have _t := tq2; go_at_call 37; refine (MOffset_is m l li la _ (HS.out.step (by repeat (first | exact Below.refl _ _ | apply below_alloc | apply pw_below_drewN | apply below_drew1))).now.2.2 hs HBY.out HV.out l0 m0 (by omega)).mono ?_; rintro e w6 ⟨rfl, hb⟩; rw [← HVB.out]; have m_ := Aside0.mk (HS.out.call (by repeat (first | exact Below.refl _ _ | apply below_alloc | apply pw_below_drewN | apply below_drew1)) hb); clear HS hb ; have HS := m_; clear m_; clear tq2 _t))
          go_ret
          exact ⟨rfl, (HS.out.step (by repeat (first | exact Below.refl _ _ | apply below_alloc | apply pw_below_drewN | apply below_drew1))).bel⟩
        · have g3 : decide (ha < la) = false := decide_eq_false h3
          have hmono := poff_mono l HBY.out HV.out li la li ha l0 (.inr ⟨rfl, by omega⟩)
          have hra := poff_range l HBY.out HV.out li la l0
          have hrb := poff_range l HBY.out HV.out li ha l0
          obtain ⟨va, hva⟩ : ∃ va, va = poff l li la := ⟨_, rfl⟩
          obtain ⟨vb, hvb⟩ : ∃ vb, vb = poff l li ha := ⟨_, rfl⟩
          rw [← hva] at hmono hra
          rw [← hvb] at hmono hrb
          have HVA := Aside0.mk hva
          have HVB := Aside0.mk hvb
          clear hva hvb
          go_upto_region 9 with (fail)
          have HS := Aside0.mk (HU.out)
          clear HK HU c0 c1 c2 c3 f0 f1 f2 f3
          have gm : decide (va ≤ vb) = true := decide_eq_true hmono
          have c0 : wc.cell? ⟨b8, 0, none⟩ = some (.int .i64 li) := HS.out.now.1.cell 0
          have d0 : wc.cell? ⟨b9, 0, none⟩ = some (.int .i64 li) := HS.out.now.2.1.cell 0
          have c1 : wc.cell? ⟨b8, 1, none⟩ = some (.int .i64 la) := HS.out.now.1.cell 1
          have d1 : wc.cell? ⟨b9, 1, none⟩ = some (.int .i64 ha) := HS.out.now.2.1.cell 1
          have tq1 := True.intro
          have tq2 := True.intro
          go_wp2_with (first | (have _t := tq1; go_at_call 37; refine (MOffset_is m l li la _ (HS.out.step (by repeat (first | exact Below.refl _ _ | apply below_alloc | apply pw_below_drewN | apply below_drew1))).now.2.2 hs HBY.out HV.out l0 m0 (by omega)).mono ?_; rintro e w5 ⟨rfl, hb⟩; rw [← HVA.out]; have m_ := Aside0.mk (HS.out.call (by repeat (first | exact Below.refl _ _ | apply below_alloc | apply pw_below_drewN | apply below_drew1)) hb); clear HS hb ; have HS := m_; clear m_; have c0 : w5.cell? ⟨b8, 0, none⟩ = some (.int .i64 li) := HS.out.now.1.cell 0; have d0 : w5.cell? ⟨b9, 0, none⟩ = some (.int .i64 li) := HS.out.now.2.1.cell 0; have c1 : w5.cell? ⟨b8, 1, none⟩ = some (.int .i64 la) := HS.out.now.1.cell 1; have d1 : w5.cell? ⟨b9, 1, none⟩ = some (.int .i64 ha) := HS.out.now.2.1.cell 1; clear tq1 _t) | (have _t := tq2; go_at_call 37; refine (MOffset_is m l li ha _ (HS.out.step (by repeat (first | exact Below.refl _ _ | apply below_alloc | apply pw_below_drewN | apply below_drew1))).now.2.2 hs HBY.out HV.out l0 k0 (by omega)).mono ?_; rintro e w6 ⟨rfl, hb⟩; rw [← HVB.out]; have m_ := Aside0.mk (HS.out.call (by repeat (first | exact Below.refl _ _ | apply below_alloc | apply pw_below_drewN | apply below_drew1)) hb); clear HS hb ; have HS := m_; clear m_; clear tq2 _t))
          go_ret
          exact ⟨rfl, (HS.out.step (by repeat (first | exact Below.refl _ _ | apply below_alloc | apply pw_below_drewN | apply below_drew1))).bel⟩
      · have g2 : (li == hi) = false := beq_eq_false_iff_ne.mpr h2
        have hmono := poff_mono l HBY.out HV.out li la hi ha l0 (.inl (by omega))
        have hra := poff_range l HBY.out HV.out li la l0
        have hrb := poff_range l HBY.out HV.out hi ha h0
        obtain ⟨va, hva⟩ : ∃ va, va = poff l li la := ⟨_, rfl⟩
        obtain ⟨vb, hvb⟩ : ∃ vb, vb = poff l hi ha := ⟨_, rfl⟩
        rw [← hva] at hmono hra
        rw [← hvb] at hmono hrb
        have HVA := Aside0.mk hva
        have HVB := Aside0.mk hvb
        clear hva hvb
        go_upto_region 9 with (fail)
        have HS := Aside0.mk (HU.out)
        clear HK HU c0 c1 c2 c3 f0 f1 f2 f3
        have gm : decide (va ≤ vb) = true := decide_eq_true hmono
        have c0 : wc.cell? ⟨b8, 0, none⟩ = some (.int .i64 li) := HS.out.now.1.cell 0
        have d0 : wc.cell? ⟨b9, 0, none⟩ = some (.int .i64 hi) := HS.out.now.2.1.cell 0
        have c1 : wc.cell? ⟨b8, 1, none⟩ = some (.int .i64 la) := HS.out.now.1.cell 1
        have d1 : wc.cell? ⟨b9, 1, none⟩ = some (.int .i64 ha) := HS.out.now.2.1.cell 1
        have tq1 := True.intro
        have tq2 := True.intro
        go_wp2_with (first | (have _t := tq1; go_at_call 37; refine (MOffset_is m l li la _ (HS.out.step (by repeat (first | exact Below.refl _ _ | apply below_alloc | apply pw_below_drewN | apply below_drew1))).now.2.2 hs HBY.out HV.out l0 m0 (by omega)).mono ?_; rintro e w5 ⟨rfl, hb⟩; rw [← HVA.out]; have m_ := Aside0.mk (HS.out.call (by repeat (first | exact Below.refl _ _ | apply below_alloc | apply pw_below_drewN | apply below_drew1)) hb); clear HS hb ; have HS := m_; clear m_; have c0 : w5.cell? ⟨b8, 0, none⟩ = some (.int .i64 li) := HS.out.now.1.cell 0; have d0 : w5.cell? ⟨b9, 0, none⟩ = some (.int .i64 hi) := HS.out.now.2.1.cell 0; have c1 : w5.cell? ⟨b8, 1, none⟩ = some (.int .i64 la) := HS.out.now.1.cell 1; have d1 : w5.cell? ⟨b9, 1, none⟩ = some (.int .i64 ha) := HS.out.now.2.1.cell 1; clear tq1 _t) | (have _t := tq2; go_at_call 37; refine (MOffset_is m l hi ha _ (HS.out.step (by repeat (first | exact Below.refl _ _ | apply below_alloc | apply pw_below_drewN | apply below_drew1))).now.2.2 hs HBY.out HV.out h0 k0 (by omega)).mono ?_; rintro e w6 ⟨rfl, hb⟩; rw [← HVB.out]; have m_ := Aside0.mk (HS.out.call (by repeat (first | exact Below.refl _ _ | apply below_alloc | apply pw_below_drewN | apply below_drew1)) hb); clear HS hb ; have HS := m_; clear m_; clear tq2 _t))
        go_ret
        exact ⟨rfl, (HS.out.step (by repeat (first | exact Below.refl _ _ | apply below_alloc | apply pw_below_drewN | apply below_drew1))).bel⟩

theorem PlaceRise_row (A : Option Addr) (n c : Nat) (zs : List Int) (a0 a1 b0 b1 : Int) (W : World) (h : IsRow .u8 W A n c zs) (hb : c ≤ 1048576) (_h0 : (Lit.int .i64 a0).wf = true) (_h1 : (Lit.int .i64 a1).wf = true) (_h2 : (Lit.int .i64 b0).wf = true) (_h3 : (Lit.int .i64 b1).wf = true) :
    Calls Try.prog 15 #[.slice A n c, .agg #[.int .i64 a0, .int .i64 a1], .agg #[.int .i64 b0, .int .i64 b1]] W fun e W' => e = .returned (.bool true) ∧ Below W.heap.size W W' := by
  have hn : A = none → c = 0 := fun e => by
    subst e
    rcases h with ⟨_, _, h, _⟩ | ⟨x, h, _⟩
    · exact h
    · cases h
  obtain ⟨l, rfl, hc, hC, hw⟩ := h.reads
  have hB : Bytes l := fun x hx => byte_wf (hw x hx)
  have h1 := Check_f l hB (by omega) (Nat.lt_succ_self _)
  obtain ⟨r1, r2, hk⟩ : ∃ r1 r2, chk l = (r1, r2) := ⟨_, _, rfl⟩
  rw [hk] at h1
  by_cases hz : r2 = 0
  · subst hz
    exact PlaceRise_ok _ A c l r1 a0 a1 b0 b1 W hC hc hn hB h1 ((chk_V hB).1 (by rw [hk])) (by omega)
  · exact PlaceRise_err _ A c l r1 r2 a0 a1 b0 b1 W hC hc h1 hz
end Go.Proofs.Ytogfaahdbecdnaa.B

/-
  Rows: how an array of two numbers, a struct of two, a struct of two of these that came in by value is read.
-/
namespace Go.Proofs.Ytogfaahdbecdnaa.B
open Go.RowKit Go.ChangeShapes Go.WideShapes Go.Joins
set_option linter.unusedVariables false
section
variable {H : Type} {enc : TypeId × Value → H} {P : Program} {w : World} {base : Nat} {spare : Nat → Bool} {held : Bool} {r : Reach} {b0 : Nat}
theorem open_two_arr {t e : TypeId} {v : Value} {d : DataW H} {p : List MemPlace} (ht : P.underlying t = some (.array 2 e)) (he : P.underlying e = some (.int .i64)) (hC : P.cellsOf t = 2) (hc : P.cellsOf e = 1)
    (hv : Value.okWide P w r b0 t v) (h : DataW.Trod enc P w base spare held t v d p) :
    ∃ x y : Int, v = .agg #[.int .i64 x, .int .i64 y] ∧ p = [] ∧ (Lit.int .i64 x).wf = true ∧ (Lit.int .i64 y).wf = true := by
  simp only [Value.okWide, ht] at hv
  obtain ⟨cs, rfl, hsz, _⟩ := hv
  obtain ⟨c0, c1, rfl⟩ := array2 (hsz.trans (by simpa using hC))
  obtain ⟨fuel, hf⟩ := h
  obtain ⟨xs, m, _, hx, _, hl, hf⟩ := DataW.trod_array ht hf
  match xs, hl with
  | [z0, z1], _ =>
    have h0 := hf 0 (by omega)
    have h1 := hf 1 (by omega)
    simp [Value.cells, hc] at h0 h1
    obtain ⟨x, ex, rfl, wx⟩ := DataW.trod_int he h0
    obtain ⟨y, ey, rfl, wy⟩ := DataW.trod_int he h1
    cases ex
    cases ey
    simp at hx
    exact ⟨x, y, rfl, hx.2, wx, wy⟩
theorem open_two_struct {t : TypeId} {f0 f1 : Field} {v : Value} {d : DataW H} {p : List MemPlace} (hs : P.underlying t = some (.struct #[f0, f1])) (i0 : P.underlying f0.type = some (.int .i64)) (i1 : P.underlying f1.type = some (.int .i64))
    (o0 : f0.offset = 0) (o1 : f1.offset = 1) (k0 : P.cellsOf f0.type = 1) (k1 : P.cellsOf f1.type = 1) (hC : P.cellsOf t = 2) (hv : Value.okWide P w r b0 t v) (h : DataW.Trod enc P w base spare held t v d p) :
    ∃ x y : Int, v = .agg #[.int .i64 x, .int .i64 y] ∧ p = [] ∧ (Lit.int .i64 x).wf = true ∧ (Lit.int .i64 y).wf = true := by
  obtain ⟨cs, rfl, hsz⟩ := okWide_struct hs hv
  obtain ⟨c0, c1, rfl⟩ := array2 (hsz.trans hC)
  obtain ⟨fuel, hf⟩ := h
  obtain ⟨z0, z1, n, hx, _, h0, h1⟩ := trod_struct2 hs hf
  simp [Value.cells, o0, o1, k0, k1] at h0 h1
  obtain ⟨x, ex, rfl, wx⟩ := DataW.trod_int i0 h0
  obtain ⟨y, ey, rfl, wy⟩ := DataW.trod_int i1 h1
  cases ex
  cases ey
  simp at hx
  exact ⟨x, y, rfl, hx.2, wx, wy⟩
theorem open_four_struct {t : TypeId} {f0 f1 g0 g1 : Field} {v : Value} {d : DataW H} {p : List MemPlace} (hs : P.underlying t = some (.struct #[f0, f1])) (e1 : f1.type = f0.type) (hq : P.underlying f0.type = some (.struct #[g0, g1]))
    (i0 : P.underlying g0.type = some (.int .i64)) (i1 : P.underlying g1.type = some (.int .i64))
    (o0 : f0.offset = 0) (o1 : f1.offset = 2) (p0 : g0.offset = 0) (p1 : g1.offset = 1) (kq : P.cellsOf f0.type = 2) (k0 : P.cellsOf g0.type = 1) (k1 : P.cellsOf g1.type = 1) (hC : P.cellsOf t = 4) (hv : Value.okWide P w r b0 t v) (h : DataW.Trod enc P w base spare held t v d p) :
    ∃ x0 x1 x2 x3 : Int, v = .agg #[.int .i64 x0, .int .i64 x1, .int .i64 x2, .int .i64 x3] ∧ p = [] ∧ (Lit.int .i64 x0).wf = true ∧ (Lit.int .i64 x1).wf = true ∧ (Lit.int .i64 x2).wf = true ∧ (Lit.int .i64 x3).wf = true := by
  obtain ⟨cs, rfl, hsz⟩ := okWide_struct hs hv
  obtain ⟨c0, c1, c2, c3, rfl⟩ := array4 (hsz.trans hC)
  obtain ⟨fuel, hf⟩ := h
  obtain ⟨z0, z1, n, hx, _, h0, h1⟩ := trod_struct2 hs hf
  rw [e1] at h1
  simp [Value.cells, o0, o1, kq] at h0 h1
  obtain ⟨u0, u1, n0, hx0, _, h00, h01⟩ := trod_struct2 hq h0
  obtain ⟨u2, u3, n1, hx1, _, h10, h11⟩ := trod_struct2 hq h1
  simp [p0, p1, k0, k1] at h00 h01 h10 h11
  obtain ⟨x0, ex0, rfl, w0⟩ := DataW.trod_int i0 h00
  obtain ⟨x1, ex1, rfl, w1⟩ := DataW.trod_int i1 h01
  obtain ⟨x2, ex2, rfl, w2⟩ := DataW.trod_int i0 h10
  obtain ⟨x3, ex3, rfl, w3⟩ := DataW.trod_int i1 h11
  cases ex0
  cases ex1
  cases ex2
  cases ex3
  subst hx0 hx1
  simp at hx
  exact ⟨x0, x1, x2, x3, rfl, hx.2, w0, w1, w2, w3⟩
end
end Go.Proofs.Ytogfaahdbecdnaa.B

namespace Go.Proofs.Ytogfaahdbecdnaa.placeRise
open Go.ChangeShapes Go.WideShapes Go.ChangeAt Go.RowKit Go.Proofs.Ytogfaahdbecdnaa.B
set_option linter.unusedVariables false
theorem own : ownKnob Try.prog.godebug = none := by kernel_rfl
theorem laidOut : laidOutB Try.prog = true := by kernel_rfl
set_option maxRecDepth 100000 in
theorem contract (H : Type) (enc : TypeId × Value → H) (W : World) (base : Nat) (args : Array Value) (ds gs : List (DataW H)) (before : List MemPlace)
    (hval0 : ∀ (j : Nat) t v, Try.f15.params[j]? = some t → args[j]? = some v → Value.okWide Try.prog W .any base t v)
    (hW : DataW.Whole enc Try.prog Try.f15.params.toList Rows.placeRiseSpec.vars false W args.toList ds gs before) (hk : Rows.uptoSmall H (ds ++ gs) = true) :
    Calls Try.prog 15 args W fun e W' => ∃ v, e = .returned v ∧ Rows.placeRiseSpec.post enc Try.prog Try.f15 false true false false W args v W' := by
  have hW' := hW
  obtain ⟨p, q, hA0, hV, rfl, hfz, hnd⟩ := hW
  have hA : DataW.TrodAll enc Try.prog W 0 (fun _ => true) true Try.f15.params.toList args.toList ds p := hA0
  have hval : ∀ (j : Nat) t v, Try.f15.params[j]? = some t → args[j]? = some v → Value.okWide Try.prog W .any base t v := hval0
  rw [Try.params15] at hA hval
  obtain ⟨v0, vs0, d0, ds0, p0, q0, hargs, rfl, rfl, h0, r0⟩ := trodAll_cons hA
  obtain ⟨v1, vs1, d1, ds1, p1, q1, rfl, rfl, rfl, h1, r1⟩ := trodAll_cons r0
  obtain ⟨v2, vs2, d2, ds2, p2, q2, rfl, rfl, rfl, h2, r2⟩ := trodAll_cons r1
  obtain ⟨rfl, rfl, rfl⟩ := trodAll_nil r2
  obtain rfl : args = #[v0, v1, v2] := by cases args; simp_all
  obtain ⟨rfl, rfl⟩ := trodVars_none hV
  have hbulk := bulks.bound hk
  obtain ⟨a0, len0, cap0, rfl⟩ := okWide_slice Try.underlying22 (hval 0 22 v0 rfl rfl)
  have k0 := h0
  have lt0 : ∀ x ∈ p0, x.block < W.heap.size := by obtain ⟨m, hm⟩ := k0; exact DataW.trod_lt m _ _ _ hm
  obtain ⟨z0, w0, b0⟩ : ∃ zs, IsRow .u8 W a0 len0 cap0 zs ∧ cap0 ≤ 1048576 := by
    obtain ⟨fuel, hf⟩ := h0
    rcases open_ints Try.underlying22 Try.underlying5 (by kernel_rfl) hf with ⟨hcs, _⟩ | ⟨x, l, c, zs, hcs, _, hl, hm, hz, hd, hcell, hwz⟩
    · simp [Value.cells] at hcs
      obtain ⟨rfl, rfl, rfl⟩ := hcs
      exact ⟨[], .inl ⟨rfl, rfl, rfl, rfl⟩, by decide⟩
    · simp [Value.cells] at hcs
      obtain ⟨rfl, rfl, rfl⟩ := hcs
      refine ⟨zs, .inr ⟨_, rfl, hl, hm, by simpa using hz, hcell, hwz⟩, ?_⟩
      injection hd with hd _
      have hp : d0 ∈ _ := (show d0 ∈ ([d0, d1, d2] : List (DataW H)) ++ [] from by simp)
      have h1 := bulks.part_le hp
      rw [hd] at h1
      have h2 := bulks.slice_le (H := H) (lits .u8 (zs.take len0)) (lits .u8 (zs.drop len0))
      rw [hd] at hbulk
      have hz' : zs.length = cap0 := by simpa using hz
      simp [lits] at h1 h2 hbulk
      omega
  obtain ⟨x1_0, x1_1, rfl, rfl, w1_0, w1_1⟩ := open_two_arr Try.underlying75 Try.underlying3 (by kernel_rfl) (by kernel_rfl) (hval 1 75 v1 rfl rfl) h1
  obtain ⟨x2_0, x2_1, rfl, rfl, w2_0, w2_1⟩ := open_two_arr Try.underlying75 Try.underlying3 (by kernel_rfl) (by kernel_rfl) (hval 2 75 v2 rfl rfl) h2
  clear hA0 hval0
  refine (PlaceRise_row a0 len0 cap0 z0 x1_0 x1_1 x2_0 x2_1 W w0 b0 w1_0 w1_1 w2_0 w2_1).mono fun e W' ⟨he, bel⟩ => ?_
  subst he
  exact ⟨_, rfl, _, _, _, [], _, [], hW', trodAll_mk1 (shut_bool Try.underlying4 _), (trodAll_cons_mk (Below.trod laidOut (by kernel_rfl) (of_decide_eq_true (by kernel_rfl)) k0 bel lt0) (trodAll_cons_mk (WideElems.Trod_stays laidOut (by kernel_rfl) (of_decide_eq_true (by kernel_rfl)) h1 (by simp) (by simp)) (trodAll_cons_mk (WideElems.Trod_stays laidOut (by kernel_rfl) (of_decide_eq_true (by kernel_rfl)) h2 (by simp) (by simp)) trodAll_mk0))), rfl, bel.frame _, fun h => by cases h⟩
set_option maxRecDepth 100000 in
theorem lifted (os : Os) (started : os.Started) (H : Type) (enc : TypeId × Value → H) (F : Stop.Interp) :
    ReturnsInHanded {} Try.checked os 15 .any ((Rows.OpenSpec.upto Rows.placeRiseSpec).pre6 enc Try.prog Try.f15 Rows.placeRiseUptoRow.domain false) (((Rows.OpenSpec.upto Rows.placeRiseSpec).at F).post enc Try.prog Try.f15 false true false false) := by
  refine returnsInHanded_of_cond (C := Try.checked) (s := Rows.OpenSpec.upto Rows.placeRiseSpec) (k := Rows.uptoSmall) rfl own started (by kernel_rfl) Try.func15
    (OpenSpec.witness (enc := enc) (C := Try.checked) (s := Rows.OpenSpec.upto Rows.placeRiseSpec) (k := Rows.uptoSmall) rfl false ⟨#[], #[.slice none 0 0, .agg #[.int .i64 0, .int .i64 0], .agg #[.int .i64 0, .int .i64 0]], []⟩ 8 (by kernel_rfl) (by kernel_rfl) (by kernel_rfl)
      (x := ([.nil, .agg [.lit (.int .i64 0), .lit (.int .i64 0)], .agg [.lit (.int .i64 0), .lit (.int .i64 0)]], [], [])) (by kernel_rfl) rfl (by kernel_rfl)) ?_
  intro W base args ds gs before hval hW _ hk _
  exact contract H enc W base args ds gs before hval hW hk
theorem proved : Rows.PlaceRiseUptoSaid :=
  OpenClaim.holds_of_cond 15 Try.f15 rfl rfl rfl rfl rfl rfl rfl ⟨rfl, rfl, rfl, rfl, rfl⟩ rfl rfl rfl rfl rfl (by kernel_rfl) Try.func15 (by kernel_rfl)
    (of_decide_eq_true (by kernel_rfl)) (by unfold Func.isWrapper; first | (rw [if_pos (by decide +kernel)]; kernel_rfl) | (rw [if_neg (by decide +kernel)]; exact ⟨rfl, rfl⟩))
    (fun os started H enc _ F => lifted os started H enc F)
#print axioms proved
end Go.Proofs.Ytogfaahdbecdnaa.placeRise
namespace Go.Proofs.Ytogfaahdbecdnaa
/-- The row, under a short name, for the claim. -/
theorem placeRiseUpto_holds : Rows.PlaceRiseUptoSaid := placeRise.proved
end Go.Proofs.Ytogfaahdbecdnaa
