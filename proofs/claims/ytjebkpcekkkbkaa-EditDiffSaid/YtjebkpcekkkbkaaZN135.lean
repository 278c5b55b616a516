/-
  Texts of this session, one behind the other: K0, K1, R0, R1, R2, PC, N5.
-/
import Derived.RangeFuncNested
import Derived.RangeFuncBound
import Derived.RangeFuncCalls
import Derived.RangeFuncLeaves
import Derived.RangeFuncBox
import Derived.Shelf.Abstract
import Derived.Shelf.RegionOpen
import Derived.OwnWalkIn
import Derived.TacticsInMore
import Derived.LoopNIn
import Derived.LoopIn
import Derived.Test.YtjebkpcekkkbkaaProg
import Derived.Below
import Derived.Deep.Draws
import Derived.Deep.AppendLies
import Derived.Maps.AppendAt
import Derived.OwnWalk
import Derived.Laws.BytesArg
import Derived.Laws.MakeOwn
import Derived.Laws.OwnMore
import Derived.Deep.OwnRows
import Derived.Tactics
import Derived.Lib.ConvBytes
import Derived.Laws.Slices
import Derived.WalkKit
import Derived.KernelRfl
import Derived.RowKit3
import Derived.Deep.LoopGhost
import Derived.Deep.QuietTactic
import Derived.BigQuiet
import Derived.WideLaws
import Derived.Deep.DeepCutAuto
import Derived.Deep.CutBlock
import Derived.Deep.RegionHeld3
import Derived.Laws.Rows
import Derived.Lib.AppendStr
import Derived.ArgAppend
import Derived.Laws.IdiomCopy
import Derived.OrdersHeld
import Derived.Laws.BitsLemmas
import Derived.RowKit
import Derived.Test.YtjebkpcekkkbkaaWWords
import Derived.Test.YtjebkpcekkkbkaaWLast
import Derived.Test.YtjebkpcekkkbkaaWTab
import Derived.Test.YtjebkpcekkkbkaaWFour
import Derived.Test.YtjebkpcekkkbkaaWQPut
import Derived.Test.YtjebkpcekkkbkaaWApart
import Derived.Test.YtjebkpcekkkbkaaWArr
import Derived.Test.YtjebkpcekkkbkaaWZeros
import Derived.Test.YtjebkpcekkkbkaaWFoot
import Derived.Test.YtjebkpcekkkbkaaWKept
import Derived.Test.YtjebkpcekkkbkaaWShare
import Derived.Test.YtjebkpcekkkbkaaWN
import Derived.Test.YtjebkpcekkkbkaaWFootNe
import Derived.Test.YtjebkpcekkkbkaaWAt
import Derived.Test.YtjebkpcekkkbkaaWEqStruct
import Derived.Test.YtjebkpcekkkbkaaWRepsOne
import Derived.Test.YtjebkpcekkkbkaaWInv
import Derived.Test.YtjebkpcekkkbkaaWInvWords
import Derived.Test.YtjebkpcekkkbkaaWGuard
import Derived.Test.YtjebkpcekkkbkaaWNEv
import Derived.Test.YtjebkpcekkkbkaaWMore
import Derived.Deep.DeepFit
import Derived.Test.YtjebkpcekkkbkaaBulk
import Derived.ChangeShapes
import Derived.WalkMore
import Derived.WalkSpells
import Derived.Deep.CutRange
import Derived.IntWalk
import Derived.Lib.SlBytesConst
import Derived.Test.YtjebkpcekkkbkaaZN134
set_option linter.unusedSimpArgs false
set_option linter.unusedVariables false
/-
  place: Span, Range, of the program and of the document, over what Offset and Pos answer.
-/
namespace Go.Proofs.Ytjebkpcekkkbkaa.B
open Go.RowKit Go.Shelf Go.Proofs Go.Proofs.YtjebkpcekkkbkaaW.PrintWords Go.Proofs.YtjebkpcekkkbkaaW.PrintLast Go.Proofs.YtjebkpcekkkbkaaW.PrintMore Go.Proofs.Ytjebkpcekkkbkaa.FBase
set_option maxRecDepth 100000 in
set_option maxHeartbeats 1000000 in
theorem MSpan_e1 (p : Option Addr) (x0 x1 x2 x3 va ea : Int) (w : World) (h1 : ∀ W, Below w.heap.size w W → Calls Try.prog 62 #[.pointer p, .agg #[.int .i64 x0, .int .i64 x1]] W fun e W' => e = .returned (.tuple #[.int .i64 va, .int .i64 ea]) ∧ Below W.heap.size W W') (hz : ea ≠ 0) : Calls Try.prog 26 #[.pointer p, .agg #[.int .i64 x0, .int .i64 x1, .int .i64 x2, .int .i64 x3]] w fun e w' => e = .returned (.tuple #[.agg #[.int .i64 0, .int .i64 0], .int .i64 ea]) ∧ Below w.heap.size w w' := by
  have hb1 := below_alloc (Below.refl _ w) (.cells #[.int .i64 x0, .int .i64 x1, .int .i64 x2, .int .i64 x3] 27)
  have hb2 : Below (w.alloc (.cells #[.int .i64 x0, .int .i64 x1, .int .i64 x2, .int .i64 x3] 27)).heap.size (w.alloc (.cells #[.int .i64 x0, .int .i64 x1, .int .i64 x2, .int .i64 x3] 27)) ((w.alloc (.cells #[.int .i64 x0, .int .i64 x1, .int .i64 x2, .int .i64 x3] 27)).alloc (.cells #[.int .i64 0, .int .i64 0] 44)) := below_alloc (Below.refl _ _) _
  have hg : IsBlk ((w.alloc (.cells #[.int .i64 x0, .int .i64 x1, .int .i64 x2, .int .i64 x3] 27)).alloc (.cells #[.int .i64 0, .int .i64 0] 44)) (w.alloc (.cells #[.int .i64 x0, .int .i64 x1, .int .i64 x2, .int .i64 x3] 27)).heap.size (.cells #[.int .i64 0, .int .i64 0] 44) := blk_new _ _
  rw [World.size_alloc] at hg
  have HS : Aside0 (Sta w ((w.alloc (.cells #[.int .i64 x0, .int .i64 x1, .int .i64 x2, .int .i64 x3] 27)).alloc (.cells #[.int .i64 0, .int .i64 0] 44)) (fun W => IsBlk W w.heap.size (.cells #[.int .i64 x0, .int .i64 x1, .int .i64 x2, .int .i64 x3] 27) ∧ IsBlk W (w.heap.size + 1) (.cells #[.int .i64 0, .int .i64 0] 44))) := ⟨⟨below_step hb1 hb2, ⟨IsBlk.below (blk_new w _) hb2, hg⟩, keeps_and (keeps_blk _ _) (keeps_blk _ _)⟩⟩
  clear hb1 hb2 hg
  have n1 := blk_lt HS.out.now.1
  have n2 := blk_lt HS.out.now.2
  have c0 : ((w.alloc (.cells #[.int .i64 x0, .int .i64 x1, .int .i64 x2, .int .i64 x3] 27)).alloc (.cells #[.int .i64 0, .int .i64 0] 44)).cell? ⟨w.heap.size, 0, none⟩ = some (.int .i64 x0) := HS.out.now.1.cell 0
  have c1 : ((w.alloc (.cells #[.int .i64 x0, .int .i64 x1, .int .i64 x2, .int .i64 x3] 27)).alloc (.cells #[.int .i64 0, .int .i64 0] 44)).cell? ⟨w.heap.size, 1, none⟩ = some (.int .i64 x1) := HS.out.now.1.cell 1
  have c2 : ((w.alloc (.cells #[.int .i64 x0, .int .i64 x1, .int .i64 x2, .int .i64 x3] 27)).alloc (.cells #[.int .i64 0, .int .i64 0] 44)).cell? ⟨w.heap.size, 2, none⟩ = some (.int .i64 x2) := HS.out.now.1.cell 2
  have c3 : ((w.alloc (.cells #[.int .i64 x0, .int .i64 x1, .int .i64 x2, .int .i64 x3] 27)).alloc (.cells #[.int .i64 0, .int .i64 0] 44)).cell? ⟨w.heap.size, 3, none⟩ = some (.int .i64 x3) := HS.out.now.1.cell 3
  have k0 : ((w.alloc (.cells #[.int .i64 x0, .int .i64 x1, .int .i64 x2, .int .i64 x3] 27)).alloc (.cells #[.int .i64 0, .int .i64 0] 44)).cell? ⟨w.heap.size + 1, 0, none⟩ = some (.int .i64 0) := HS.out.now.2.cell 0
  have f0 := HS.out.now.2.frozen 0
  have k1 : ((w.alloc (.cells #[.int .i64 x0, .int .i64 x1, .int .i64 x2, .int .i64 x3] 27)).alloc (.cells #[.int .i64 0, .int .i64 0] 44)).cell? ⟨w.heap.size + 1, 1, none⟩ = some (.int .i64 0) := HS.out.now.2.cell 1
  have f1 := HS.out.now.2.frozen 1
  have H1 := Aside0.mk h1
  clear h1
  have hz1 : (ea != 0) = true := bne_iff_ne.mpr hz
  clear hz
  have t1 := True.intro
  have t2 := True.intro
  go_enter Try.func26, Try.ntmps26
  go_wp2_with (have _t := t1; go_at_call 62; refine (H1.out _ (HS.out.step (by repeat (first | exact Below.refl _ _ | apply below_alloc | apply pw_below_drewN | apply below_drew1))).bel).mono ?_; rintro e w1 ⟨rfl, hb⟩; have m_ := Aside0.mk (HS.out.call (by repeat (first | exact Below.refl _ _ | apply below_alloc | apply pw_below_drewN | apply below_drew1)) hb); clear HS hb; have HS := m_; clear m_; have n1 := blk_lt HS.out.now.1; have n2 := blk_lt HS.out.now.2; have c0 : w1.cell? ⟨w.heap.size, 0, none⟩ = some (.int .i64 x0) := HS.out.now.1.cell 0; have c1 : w1.cell? ⟨w.heap.size, 1, none⟩ = some (.int .i64 x1) := HS.out.now.1.cell 1; have c2 : w1.cell? ⟨w.heap.size, 2, none⟩ = some (.int .i64 x2) := HS.out.now.1.cell 2; have c3 : w1.cell? ⟨w.heap.size, 3, none⟩ = some (.int .i64 x3) := HS.out.now.1.cell 3; have k0 : w1.cell? ⟨w.heap.size + 1, 0, none⟩ = some (.int .i64 0) := HS.out.now.2.cell 0; have f0 := HS.out.now.2.frozen 0; have k1 : w1.cell? ⟨w.heap.size + 1, 1, none⟩ = some (.int .i64 0) := HS.out.now.2.cell 1; have f1 := HS.out.now.2.frozen 1; clear t1 _t)
  all_goals try (go_step3; go_wp2)
  first | rw [Exit.noGoto_ret] | skip
  refine bodyPost_ret (v := .tuple #[.agg #[.int .i64 0, .int .i64 0], .int .i64 ea]) (by simp [results, Try.results26, go_sem, *]) rfl ⟨rfl, ?_⟩
  have hS := HS.out.bel
  repeat (first | exact hS | apply below_alloc | apply pw_below_drewN | apply below_drew1 | refine Below.setCell ?_ (by simp) _)
set_option maxRecDepth 100000 in
set_option maxHeartbeats 1000000 in
theorem MSpan_e2 (p : Option Addr) (x0 x1 x2 x3 va vb eb : Int) (w : World) (h1 : ∀ W, Below w.heap.size w W → Calls Try.prog 62 #[.pointer p, .agg #[.int .i64 x0, .int .i64 x1]] W fun e W' => e = .returned (.tuple #[.int .i64 va, .int .i64 0]) ∧ Below W.heap.size W W') (h2 : ∀ W, Below w.heap.size w W → Calls Try.prog 62 #[.pointer p, .agg #[.int .i64 x2, .int .i64 x3]] W fun e W' => e = .returned (.tuple #[.int .i64 vb, .int .i64 eb]) ∧ Below W.heap.size W W') (hz : eb ≠ 0) : Calls Try.prog 26 #[.pointer p, .agg #[.int .i64 x0, .int .i64 x1, .int .i64 x2, .int .i64 x3]] w fun e w' => e = .returned (.tuple #[.agg #[.int .i64 0, .int .i64 0], .int .i64 eb]) ∧ Below w.heap.size w w' := by
  have hb1 := below_alloc (Below.refl _ w) (.cells #[.int .i64 x0, .int .i64 x1, .int .i64 x2, .int .i64 x3] 27)
  have hb2 : Below (w.alloc (.cells #[.int .i64 x0, .int .i64 x1, .int .i64 x2, .int .i64 x3] 27)).heap.size (w.alloc (.cells #[.int .i64 x0, .int .i64 x1, .int .i64 x2, .int .i64 x3] 27)) ((w.alloc (.cells #[.int .i64 x0, .int .i64 x1, .int .i64 x2, .int .i64 x3] 27)).alloc (.cells #[.int .i64 0, .int .i64 0] 44)) := below_alloc (Below.refl _ _) _
  have hg : IsBlk ((w.alloc (.cells #[.int .i64 x0, .int .i64 x1, .int .i64 x2, .int .i64 x3] 27)).alloc (.cells #[.int .i64 0, .int .i64 0] 44)) (w.alloc (.cells #[.int .i64 x0, .int .i64 x1, .int .i64 x2, .int .i64 x3] 27)).heap.size (.cells #[.int .i64 0, .int .i64 0] 44) := blk_new _ _
  rw [World.size_alloc] at hg
  have HS : Aside0 (Sta w ((w.alloc (.cells #[.int .i64 x0, .int .i64 x1, .int .i64 x2, .int .i64 x3] 27)).alloc (.cells #[.int .i64 0, .int .i64 0] 44)) (fun W => IsBlk W w.heap.size (.cells #[.int .i64 x0, .int .i64 x1, .int .i64 x2, .int .i64 x3] 27) ∧ IsBlk W (w.heap.size + 1) (.cells #[.int .i64 0, .int .i64 0] 44))) := ⟨⟨below_step hb1 hb2, ⟨IsBlk.below (blk_new w _) hb2, hg⟩, keeps_and (keeps_blk _ _) (keeps_blk _ _)⟩⟩
  clear hb1 hb2 hg
  have n1 := blk_lt HS.out.now.1
  have n2 := blk_lt HS.out.now.2
  have c0 : ((w.alloc (.cells #[.int .i64 x0, .int .i64 x1, .int .i64 x2, .int .i64 x3] 27)).alloc (.cells #[.int .i64 0, .int .i64 0] 44)).cell? ⟨w.heap.size, 0, none⟩ = some (.int .i64 x0) := HS.out.now.1.cell 0
  have c1 : ((w.alloc (.cells #[.int .i64 x0, .int .i64 x1, .int .i64 x2, .int .i64 x3] 27)).alloc (.cells #[.int .i64 0, .int .i64 0] 44)).cell? ⟨w.heap.size, 1, none⟩ = some (.int .i64 x1) := HS.out.now.1.cell 1
  have c2 : ((w.alloc (.cells #[.int .i64 x0, .int .i64 x1, .int .i64 x2, .int .i64 x3] 27)).alloc (.cells #[.int .i64 0, .int .i64 0] 44)).cell? ⟨w.heap.size, 2, none⟩ = some (.int .i64 x2) := HS.out.now.1.cell 2
  have c3 : ((w.alloc (.cells #[.int .i64 x0, .int .i64 x1, .int .i64 x2, .int .i64 x3] 27)).alloc (.cells #[.int .i64 0, .int .i64 0] 44)).cell? ⟨w.heap.size, 3, none⟩ = some (.int .i64 x3) := HS.out.now.1.cell 3
  have k0 : ((w.alloc (.cells #[.int .i64 x0, .int .i64 x1, .int .i64 x2, .int .i64 x3] 27)).alloc (.cells #[.int .i64 0, .int .i64 0] 44)).cell? ⟨w.heap.size + 1, 0, none⟩ = some (.int .i64 0) := HS.out.now.2.cell 0
  have f0 := HS.out.now.2.frozen 0
  have k1 : ((w.alloc (.cells #[.int .i64 x0, .int .i64 x1, .int .i64 x2, .int .i64 x3] 27)).alloc (.cells #[.int .i64 0, .int .i64 0] 44)).cell? ⟨w.heap.size + 1, 1, none⟩ = some (.int .i64 0) := HS.out.now.2.cell 1
  have f1 := HS.out.now.2.frozen 1
  have H1 := Aside0.mk h1
  clear h1
  have H2 := Aside0.mk h2
  clear h2
  have hz1 : (eb != 0) = true := bne_iff_ne.mpr hz
  clear hz
  have t1 := True.intro
  have t2 := True.intro
  go_enter Try.func26, Try.ntmps26
  go_wp2_with (first | (have _t := t1; go_at_call 62; refine (H1.out _ (HS.out.step (by repeat (first | exact Below.refl _ _ | apply below_alloc | apply pw_below_drewN | apply below_drew1))).bel).mono ?_; rintro e w1 ⟨rfl, hb⟩; have m_ := Aside0.mk (HS.out.call (by repeat (first | exact Below.refl _ _ | apply below_alloc | apply pw_below_drewN | apply below_drew1)) hb); clear HS hb; have HS := m_; clear m_; have n1 := blk_lt HS.out.now.1; have n2 := blk_lt HS.out.now.2; have c0 : w1.cell? ⟨w.heap.size, 0, none⟩ = some (.int .i64 x0) := HS.out.now.1.cell 0; have c1 : w1.cell? ⟨w.heap.size, 1, none⟩ = some (.int .i64 x1) := HS.out.now.1.cell 1; have c2 : w1.cell? ⟨w.heap.size, 2, none⟩ = some (.int .i64 x2) := HS.out.now.1.cell 2; have c3 : w1.cell? ⟨w.heap.size, 3, none⟩ = some (.int .i64 x3) := HS.out.now.1.cell 3; have k0 : w1.cell? ⟨w.heap.size + 1, 0, none⟩ = some (.int .i64 0) := HS.out.now.2.cell 0; have f0 := HS.out.now.2.frozen 0; have k1 : w1.cell? ⟨w.heap.size + 1, 1, none⟩ = some (.int .i64 0) := HS.out.now.2.cell 1; have f1 := HS.out.now.2.frozen 1; clear t1 _t) | (have _t := t2; go_at_call 62; refine (H2.out _ (HS.out.step (by repeat (first | exact Below.refl _ _ | apply below_alloc | apply pw_below_drewN | apply below_drew1))).bel).mono ?_; rintro e w2 ⟨rfl, hb⟩; have m_ := Aside0.mk (HS.out.call (by repeat (first | exact Below.refl _ _ | apply below_alloc | apply pw_below_drewN | apply below_drew1)) hb); clear HS hb; have HS := m_; clear m_; have n1 := blk_lt HS.out.now.1; have n2 := blk_lt HS.out.now.2; have c0 : w2.cell? ⟨w.heap.size, 0, none⟩ = some (.int .i64 x0) := HS.out.now.1.cell 0; have c1 : w2.cell? ⟨w.heap.size, 1, none⟩ = some (.int .i64 x1) := HS.out.now.1.cell 1; have c2 : w2.cell? ⟨w.heap.size, 2, none⟩ = some (.int .i64 x2) := HS.out.now.1.cell 2; have c3 : w2.cell? ⟨w.heap.size, 3, none⟩ = some (.int .i64 x3) := HS.out.now.1.cell 3; have k0 : w2.cell? ⟨w.heap.size + 1, 0, none⟩ = some (.int .i64 0) := HS.out.now.2.cell 0; have f0 := HS.out.now.2.frozen 0; have k1 : w2.cell? ⟨w.heap.size + 1, 1, none⟩ = some (.int .i64 0) := HS.out.now.2.cell 1; have f1 := HS.out.now.2.frozen 1; clear t2 _t))
  all_goals try (go_step3; go_wp2)
  first | rw [Exit.noGoto_ret] | skip
  refine bodyPost_ret (v := .tuple #[.agg #[.int .i64 0, .int .i64 0], .int .i64 eb]) (by simp [results, Try.results26, go_sem, *]) rfl ⟨rfl, ?_⟩
  have hS := HS.out.bel
  repeat (first | exact hS | apply below_alloc | apply pw_below_drewN | apply below_drew1 | refine Below.setCell ?_ (by simp) _)
set_option maxRecDepth 100000 in
set_option maxHeartbeats 1000000 in
theorem MSpan_rev (p : Option Addr) (x0 x1 x2 x3 va vb : Int) (w : World) (h1 : ∀ W, Below w.heap.size w W → Calls Try.prog 62 #[.pointer p, .agg #[.int .i64 x0, .int .i64 x1]] W fun e W' => e = .returned (.tuple #[.int .i64 va, .int .i64 0]) ∧ Below W.heap.size W W') (h2 : ∀ W, Below w.heap.size w W → Calls Try.prog 62 #[.pointer p, .agg #[.int .i64 x2, .int .i64 x3]] W fun e W' => e = .returned (.tuple #[.int .i64 vb, .int .i64 0]) ∧ Below W.heap.size W W') (hlt : vb < va) : Calls Try.prog 26 #[.pointer p, .agg #[.int .i64 x0, .int .i64 x1, .int .i64 x2, .int .i64 x3]] w fun e w' => e = .returned (.tuple #[.agg #[.int .i64 0, .int .i64 0], .int .i64 2]) ∧ Below w.heap.size w w' := by
  have hb1 := below_alloc (Below.refl _ w) (.cells #[.int .i64 x0, .int .i64 x1, .int .i64 x2, .int .i64 x3] 27)
  have hb2 : Below (w.alloc (.cells #[.int .i64 x0, .int .i64 x1, .int .i64 x2, .int .i64 x3] 27)).heap.size (w.alloc (.cells #[.int .i64 x0, .int .i64 x1, .int .i64 x2, .int .i64 x3] 27)) ((w.alloc (.cells #[.int .i64 x0, .int .i64 x1, .int .i64 x2, .int .i64 x3] 27)).alloc (.cells #[.int .i64 0, .int .i64 0] 44)) := below_alloc (Below.refl _ _) _
  have hg : IsBlk ((w.alloc (.cells #[.int .i64 x0, .int .i64 x1, .int .i64 x2, .int .i64 x3] 27)).alloc (.cells #[.int .i64 0, .int .i64 0] 44)) (w.alloc (.cells #[.int .i64 x0, .int .i64 x1, .int .i64 x2, .int .i64 x3] 27)).heap.size (.cells #[.int .i64 0, .int .i64 0] 44) := blk_new _ _
  rw [World.size_alloc] at hg
  have HS : Aside0 (Sta w ((w.alloc (.cells #[.int .i64 x0, .int .i64 x1, .int .i64 x2, .int .i64 x3] 27)).alloc (.cells #[.int .i64 0, .int .i64 0] 44)) (fun W => IsBlk W w.heap.size (.cells #[.int .i64 x0, .int .i64 x1, .int .i64 x2, .int .i64 x3] 27) ∧ IsBlk W (w.heap.size + 1) (.cells #[.int .i64 0, .int .i64 0] 44))) := ⟨⟨below_step hb1 hb2, ⟨IsBlk.below (blk_new w _) hb2, hg⟩, keeps_and (keeps_blk _ _) (keeps_blk _ _)⟩⟩
  clear hb1 hb2 hg
  have n1 := blk_lt HS.out.now.1
  have n2 := blk_lt HS.out.now.2
  have c0 : ((w.alloc (.cells #[.int .i64 x0, .int .i64 x1, .int .i64 x2, .int .i64 x3] 27)).alloc (.cells #[.int .i64 0, .int .i64 0] 44)).cell? ⟨w.heap.size, 0, none⟩ = some (.int .i64 x0) := HS.out.now.1.cell 0
  have c1 : ((w.alloc (.cells #[.int .i64 x0, .int .i64 x1, .int .i64 x2, .int .i64 x3] 27)).alloc (.cells #[.int .i64 0, .int .i64 0] 44)).cell? ⟨w.heap.size, 1, none⟩ = some (.int .i64 x1) := HS.out.now.1.cell 1
  have c2 : ((w.alloc (.cells #[.int .i64 x0, .int .i64 x1, .int .i64 x2, .int .i64 x3] 27)).alloc (.cells #[.int .i64 0, .int .i64 0] 44)).cell? ⟨w.heap.size, 2, none⟩ = some (.int .i64 x2) := HS.out.now.1.cell 2
  have c3 : ((w.alloc (.cells #[.int .i64 x0, .int .i64 x1, .int .i64 x2, .int .i64 x3] 27)).alloc (.cells #[.int .i64 0, .int .i64 0] 44)).cell? ⟨w.heap.size, 3, none⟩ = some (.int .i64 x3) := HS.out.now.1.cell 3
  have k0 : ((w.alloc (.cells #[.int .i64 x0, .int .i64 x1, .int .i64 x2, .int .i64 x3] 27)).alloc (.cells #[.int .i64 0, .int .i64 0] 44)).cell? ⟨w.heap.size + 1, 0, none⟩ = some (.int .i64 0) := HS.out.now.2.cell 0
  have f0 := HS.out.now.2.frozen 0
  have k1 : ((w.alloc (.cells #[.int .i64 x0, .int .i64 x1, .int .i64 x2, .int .i64 x3] 27)).alloc (.cells #[.int .i64 0, .int .i64 0] 44)).cell? ⟨w.heap.size + 1, 1, none⟩ = some (.int .i64 0) := HS.out.now.2.cell 1
  have f1 := HS.out.now.2.frozen 1
  have H1 := Aside0.mk h1
  clear h1
  have H2 := Aside0.mk h2
  clear h2
  have t1 := True.intro
  have t2 := True.intro
  go_enter Try.func26, Try.ntmps26
  go_wp2_with (first | (have _t := t1; go_at_call 62; refine (H1.out _ (HS.out.step (by repeat (first | exact Below.refl _ _ | apply below_alloc | apply pw_below_drewN | apply below_drew1))).bel).mono ?_; rintro e w1 ⟨rfl, hb⟩; have m_ := Aside0.mk (HS.out.call (by repeat (first | exact Below.refl _ _ | apply below_alloc | apply pw_below_drewN | apply below_drew1)) hb); clear HS hb; have HS := m_; clear m_; have n1 := blk_lt HS.out.now.1; have n2 := blk_lt HS.out.now.2; have c0 : w1.cell? ⟨w.heap.size, 0, none⟩ = some (.int .i64 x0) := HS.out.now.1.cell 0; have c1 : w1.cell? ⟨w.heap.size, 1, none⟩ = some (.int .i64 x1) := HS.out.now.1.cell 1; have c2 : w1.cell? ⟨w.heap.size, 2, none⟩ = some (.int .i64 x2) := HS.out.now.1.cell 2; have c3 : w1.cell? ⟨w.heap.size, 3, none⟩ = some (.int .i64 x3) := HS.out.now.1.cell 3; have k0 : w1.cell? ⟨w.heap.size + 1, 0, none⟩ = some (.int .i64 0) := HS.out.now.2.cell 0; have f0 := HS.out.now.2.frozen 0; have k1 : w1.cell? ⟨w.heap.size + 1, 1, none⟩ = some (.int .i64 0) := HS.out.now.2.cell 1; have f1 := HS.out.now.2.frozen 1; clear t1 _t) | (have _t := t2; go_at_call 62; refine (H2.out _ (HS.out.step (by repeat (first | exact Below.refl _ _ | apply below_alloc | apply pw_below_drewN | apply below_drew1))).bel).mono ?_; rintro e w2 ⟨rfl, hb⟩; have m_ := Aside0.mk (HS.out.call (by repeat (first | exact Below.refl _ _ | apply below_alloc | apply pw_below_drewN | apply below_drew1)) hb); clear HS hb; have HS := m_; clear m_; have n1 := blk_lt HS.out.now.1; have n2 := blk_lt HS.out.now.2; have c0 : w2.cell? ⟨w.heap.size, 0, none⟩ = some (.int .i64 x0) := HS.out.now.1.cell 0; have c1 : w2.cell? ⟨w.heap.size, 1, none⟩ = some (.int .i64 x1) := HS.out.now.1.cell 1; have c2 : w2.cell? ⟨w.heap.size, 2, none⟩ = some (.int .i64 x2) := HS.out.now.1.cell 2; have c3 : w2.cell? ⟨w.heap.size, 3, none⟩ = some (.int .i64 x3) := HS.out.now.1.cell 3; have k0 : w2.cell? ⟨w.heap.size + 1, 0, none⟩ = some (.int .i64 0) := HS.out.now.2.cell 0; have f0 := HS.out.now.2.frozen 0; have k1 : w2.cell? ⟨w.heap.size + 1, 1, none⟩ = some (.int .i64 0) := HS.out.now.2.cell 1; have f1 := HS.out.now.2.frozen 1; clear t2 _t))
  all_goals try (go_step3; go_wp2)
  first | rw [Exit.noGoto_ret] | skip
  refine bodyPost_ret (v := .tuple #[.agg #[.int .i64 0, .int .i64 0], .int .i64 2]) (by simp [results, Try.results26, go_sem, *]) rfl ⟨rfl, ?_⟩
  have hS := HS.out.bel
  repeat (first | exact hS | apply below_alloc | apply pw_below_drewN | apply below_drew1 | refine Below.setCell ?_ (by simp) _)
set_option maxRecDepth 100000 in
set_option maxHeartbeats 1000000 in
theorem MSpan_ok (p : Option Addr) (x0 x1 x2 x3 va vb : Int) (w : World) (h1 : ∀ W, Below w.heap.size w W → Calls Try.prog 62 #[.pointer p, .agg #[.int .i64 x0, .int .i64 x1]] W fun e W' => e = .returned (.tuple #[.int .i64 va, .int .i64 0]) ∧ Below W.heap.size W W') (h2 : ∀ W, Below w.heap.size w W → Calls Try.prog 62 #[.pointer p, .agg #[.int .i64 x2, .int .i64 x3]] W fun e W' => e = .returned (.tuple #[.int .i64 vb, .int .i64 0]) ∧ Below W.heap.size W W') (hlt : va ≤ vb) : Calls Try.prog 26 #[.pointer p, .agg #[.int .i64 x0, .int .i64 x1, .int .i64 x2, .int .i64 x3]] w fun e w' => e = .returned (.tuple #[.agg #[.int .i64 va, .int .i64 vb], .int .i64 0]) ∧ Below w.heap.size w w' := by
  have hb1 := below_alloc (Below.refl _ w) (.cells #[.int .i64 x0, .int .i64 x1, .int .i64 x2, .int .i64 x3] 27)
  have hb2 : Below (w.alloc (.cells #[.int .i64 x0, .int .i64 x1, .int .i64 x2, .int .i64 x3] 27)).heap.size (w.alloc (.cells #[.int .i64 x0, .int .i64 x1, .int .i64 x2, .int .i64 x3] 27)) ((w.alloc (.cells #[.int .i64 x0, .int .i64 x1, .int .i64 x2, .int .i64 x3] 27)).alloc (.cells #[.int .i64 0, .int .i64 0] 44)) := below_alloc (Below.refl _ _) _
  have hg : IsBlk ((w.alloc (.cells #[.int .i64 x0, .int .i64 x1, .int .i64 x2, .int .i64 x3] 27)).alloc (.cells #[.int .i64 0, .int .i64 0] 44)) (w.alloc (.cells #[.int .i64 x0, .int .i64 x1, .int .i64 x2, .int .i64 x3] 27)).heap.size (.cells #[.int .i64 0, .int .i64 0] 44) := blk_new _ _
  rw [World.size_alloc] at hg
  have HS : Aside0 (Sta w ((w.alloc (.cells #[.int .i64 x0, .int .i64 x1, .int .i64 x2, .int .i64 x3] 27)).alloc (.cells #[.int .i64 0, .int .i64 0] 44)) (fun W => IsBlk W w.heap.size (.cells #[.int .i64 x0, .int .i64 x1, .int .i64 x2, .int .i64 x3] 27) ∧ IsBlk W (w.heap.size + 1) (.cells #[.int .i64 0, .int .i64 0] 44))) := ⟨⟨below_step hb1 hb2, ⟨IsBlk.below (blk_new w _) hb2, hg⟩, keeps_and (keeps_blk _ _) (keeps_blk _ _)⟩⟩
  clear hb1 hb2 hg
  have n1 := blk_lt HS.out.now.1
  have n2 := blk_lt HS.out.now.2
  have c0 : ((w.alloc (.cells #[.int .i64 x0, .int .i64 x1, .int .i64 x2, .int .i64 x3] 27)).alloc (.cells #[.int .i64 0, .int .i64 0] 44)).cell? ⟨w.heap.size, 0, none⟩ = some (.int .i64 x0) := HS.out.now.1.cell 0
  have c1 : ((w.alloc (.cells #[.int .i64 x0, .int .i64 x1, .int .i64 x2, .int .i64 x3] 27)).alloc (.cells #[.int .i64 0, .int .i64 0] 44)).cell? ⟨w.heap.size, 1, none⟩ = some (.int .i64 x1) := HS.out.now.1.cell 1
  have c2 : ((w.alloc (.cells #[.int .i64 x0, .int .i64 x1, .int .i64 x2, .int .i64 x3] 27)).alloc (.cells #[.int .i64 0, .int .i64 0] 44)).cell? ⟨w.heap.size, 2, none⟩ = some (.int .i64 x2) := HS.out.now.1.cell 2
  have c3 : ((w.alloc (.cells #[.int .i64 x0, .int .i64 x1, .int .i64 x2, .int .i64 x3] 27)).alloc (.cells #[.int .i64 0, .int .i64 0] 44)).cell? ⟨w.heap.size, 3, none⟩ = some (.int .i64 x3) := HS.out.now.1.cell 3
  have k0 : ((w.alloc (.cells #[.int .i64 x0, .int .i64 x1, .int .i64 x2, .int .i64 x3] 27)).alloc (.cells #[.int .i64 0, .int .i64 0] 44)).cell? ⟨w.heap.size + 1, 0, none⟩ = some (.int .i64 0) := HS.out.now.2.cell 0
  have f0 := HS.out.now.2.frozen 0
  have k1 : ((w.alloc (.cells #[.int .i64 x0, .int .i64 x1, .int .i64 x2, .int .i64 x3] 27)).alloc (.cells #[.int .i64 0, .int .i64 0] 44)).cell? ⟨w.heap.size + 1, 1, none⟩ = some (.int .i64 0) := HS.out.now.2.cell 1
  have f1 := HS.out.now.2.frozen 1
  have H1 := Aside0.mk h1
  clear h1
  have H2 := Aside0.mk h2
  clear h2
  have t1 := True.intro
  have t2 := True.intro
  go_enter Try.func26, Try.ntmps26
  go_wp2_with (first | (have _t := t1; go_at_call 62; refine (H1.out _ (HS.out.step (by repeat (first | exact Below.refl _ _ | apply below_alloc | apply pw_below_drewN | apply below_drew1))).bel).mono ?_; rintro e w1 ⟨rfl, hb⟩; have m_ := Aside0.mk (HS.out.call (by repeat (first | exact Below.refl _ _ | apply below_alloc | apply pw_below_drewN | apply below_drew1)) hb); clear HS hb; have HS := m_; clear m_; have n1 := blk_lt HS.out.now.1; have n2 := blk_lt HS.out.now.2; have c0 : w1.cell? ⟨w.heap.size, 0, none⟩ = some (.int .i64 x0) := HS.out.now.1.cell 0; have c1 : w1.cell? ⟨w.heap.size, 1, none⟩ = some (.int .i64 x1) := HS.out.now.1.cell 1; have c2 : w1.cell? ⟨w.heap.size, 2, none⟩ = some (.int .i64 x2) := HS.out.now.1.cell 2; have c3 : w1.cell? ⟨w.heap.size, 3, none⟩ = some (.int .i64 x3) := HS.out.now.1.cell 3; have k0 : w1.cell? ⟨w.heap.size + 1, 0, none⟩ = some (.int .i64 0) := HS.out.now.2.cell 0; have f0 := HS.out.now.2.frozen 0; have k1 : w1.cell? ⟨w.heap.size + 1, 1, none⟩ = some (.int .i64 0) := HS.out.now.2.cell 1; have f1 := HS.out.now.2.frozen 1; clear t1 _t) | (have _t := t2; go_at_call 62; refine (H2.out _ (HS.out.step (by repeat (first | exact Below.refl _ _ | apply below_alloc | apply pw_below_drewN | apply below_drew1))).bel).mono ?_; rintro e w2 ⟨rfl, hb⟩; have m_ := Aside0.mk (HS.out.call (by repeat (first | exact Below.refl _ _ | apply below_alloc | apply pw_below_drewN | apply below_drew1)) hb); clear HS hb; have HS := m_; clear m_; have n1 := blk_lt HS.out.now.1; have n2 := blk_lt HS.out.now.2; have c0 : w2.cell? ⟨w.heap.size, 0, none⟩ = some (.int .i64 x0) := HS.out.now.1.cell 0; have c1 : w2.cell? ⟨w.heap.size, 1, none⟩ = some (.int .i64 x1) := HS.out.now.1.cell 1; have c2 : w2.cell? ⟨w.heap.size, 2, none⟩ = some (.int .i64 x2) := HS.out.now.1.cell 2; have c3 : w2.cell? ⟨w.heap.size, 3, none⟩ = some (.int .i64 x3) := HS.out.now.1.cell 3; have k0 : w2.cell? ⟨w.heap.size + 1, 0, none⟩ = some (.int .i64 0) := HS.out.now.2.cell 0; have f0 := HS.out.now.2.frozen 0; have k1 : w2.cell? ⟨w.heap.size + 1, 1, none⟩ = some (.int .i64 0) := HS.out.now.2.cell 1; have f1 := HS.out.now.2.frozen 1; clear t2 _t))
  all_goals try (go_step3; go_wp2)
  first | rw [Exit.noGoto_ret] | skip
  refine bodyPost_ret (v := .tuple #[.agg #[.int .i64 va, .int .i64 vb], .int .i64 0]) (by simp [results, Try.results26, go_sem, *]) rfl ⟨rfl, ?_⟩
  have hS := HS.out.bel
  repeat (first | exact hS | apply below_alloc | apply pw_below_drewN | apply below_drew1 | refine Below.setCell ?_ (by simp) _)
set_option maxRecDepth 100000 in
set_option maxHeartbeats 1000000 in
theorem MRange_ok (p : Option Addr) (x0 x1 a ca b cb : Int) (w : World) (h1 : ∀ W, Below w.heap.size w W → Calls Try.prog 80 #[.pointer p, .int .i64 x0] W fun e W' => e = .returned (.tuple #[.agg #[.int .i64 a, .int .i64 ca], .int .i64 0]) ∧ Below W.heap.size W W') (h2 : ∀ W, Below w.heap.size w W → Calls Try.prog 80 #[.pointer p, .int .i64 x1] W fun e W' => e = .returned (.tuple #[.agg #[.int .i64 b, .int .i64 cb], .int .i64 0]) ∧ Below W.heap.size W W') (hlt : x0 ≤ x1) : Calls Try.prog 53 #[.pointer p, .agg #[.int .i64 x0, .int .i64 x1]] w fun e w' => e = .returned (.tuple #[.agg #[.int .i64 a, .int .i64 ca, .int .i64 b, .int .i64 cb], .int .i64 0]) ∧ Below w.heap.size w w' := by
  have hb1 := below_alloc (Below.refl _ w) (.cells #[.int .i64 x0, .int .i64 x1] 44)
  have hb2 : Below (w.alloc (.cells #[.int .i64 x0, .int .i64 x1] 44)).heap.size (w.alloc (.cells #[.int .i64 x0, .int .i64 x1] 44)) ((w.alloc (.cells #[.int .i64 x0, .int .i64 x1] 44)).alloc (.cells #[.int .i64 0, .int .i64 0, .int .i64 0, .int .i64 0] 27)) := below_alloc (Below.refl _ _) _
  have hg : IsBlk ((w.alloc (.cells #[.int .i64 x0, .int .i64 x1] 44)).alloc (.cells #[.int .i64 0, .int .i64 0, .int .i64 0, .int .i64 0] 27)) (w.alloc (.cells #[.int .i64 x0, .int .i64 x1] 44)).heap.size (.cells #[.int .i64 0, .int .i64 0, .int .i64 0, .int .i64 0] 27) := blk_new _ _
  rw [World.size_alloc] at hg
  have HS : Aside0 (Sta w ((w.alloc (.cells #[.int .i64 x0, .int .i64 x1] 44)).alloc (.cells #[.int .i64 0, .int .i64 0, .int .i64 0, .int .i64 0] 27)) (fun W => IsBlk W w.heap.size (.cells #[.int .i64 x0, .int .i64 x1] 44) ∧ IsBlk W (w.heap.size + 1) (.cells #[.int .i64 0, .int .i64 0, .int .i64 0, .int .i64 0] 27))) := ⟨⟨below_step hb1 hb2, ⟨IsBlk.below (blk_new w _) hb2, hg⟩, keeps_and (keeps_blk _ _) (keeps_blk _ _)⟩⟩
  clear hb1 hb2 hg
  have n1 := blk_lt HS.out.now.1
  have n2 := blk_lt HS.out.now.2
  have c0 : ((w.alloc (.cells #[.int .i64 x0, .int .i64 x1] 44)).alloc (.cells #[.int .i64 0, .int .i64 0, .int .i64 0, .int .i64 0] 27)).cell? ⟨w.heap.size, 0, none⟩ = some (.int .i64 x0) := HS.out.now.1.cell 0
  have c1 : ((w.alloc (.cells #[.int .i64 x0, .int .i64 x1] 44)).alloc (.cells #[.int .i64 0, .int .i64 0, .int .i64 0, .int .i64 0] 27)).cell? ⟨w.heap.size, 1, none⟩ = some (.int .i64 x1) := HS.out.now.1.cell 1
  have k0 : ((w.alloc (.cells #[.int .i64 x0, .int .i64 x1] 44)).alloc (.cells #[.int .i64 0, .int .i64 0, .int .i64 0, .int .i64 0] 27)).cell? ⟨w.heap.size + 1, 0, none⟩ = some (.int .i64 0) := HS.out.now.2.cell 0
  have f0 := HS.out.now.2.frozen 0
  have k1 : ((w.alloc (.cells #[.int .i64 x0, .int .i64 x1] 44)).alloc (.cells #[.int .i64 0, .int .i64 0, .int .i64 0, .int .i64 0] 27)).cell? ⟨w.heap.size + 1, 1, none⟩ = some (.int .i64 0) := HS.out.now.2.cell 1
  have f1 := HS.out.now.2.frozen 1
  have k2 : ((w.alloc (.cells #[.int .i64 x0, .int .i64 x1] 44)).alloc (.cells #[.int .i64 0, .int .i64 0, .int .i64 0, .int .i64 0] 27)).cell? ⟨w.heap.size + 1, 2, none⟩ = some (.int .i64 0) := HS.out.now.2.cell 2
  have f2 := HS.out.now.2.frozen 2
  have k3 : ((w.alloc (.cells #[.int .i64 x0, .int .i64 x1] 44)).alloc (.cells #[.int .i64 0, .int .i64 0, .int .i64 0, .int .i64 0] 27)).cell? ⟨w.heap.size + 1, 3, none⟩ = some (.int .i64 0) := HS.out.now.2.cell 3
  have f3 := HS.out.now.2.frozen 3
  have H1 := Aside0.mk h1
  clear h1
  have H2 := Aside0.mk h2
  clear h2
  have t1 := True.intro
  have t2 := True.intro
  go_enter Try.func53, Try.ntmps53
  go_wp2_with (first | (have _t := t1; go_at_call 80; refine (H1.out _ (HS.out.step (by repeat (first | exact Below.refl _ _ | apply below_alloc | apply pw_below_drewN | apply below_drew1))).bel).mono ?_; rintro e w1 ⟨rfl, hb⟩; have m_ := Aside0.mk (HS.out.call (by repeat (first | exact Below.refl _ _ | apply below_alloc | apply pw_below_drewN | apply below_drew1)) hb); clear HS hb; have HS := m_; clear m_; have n1 := blk_lt HS.out.now.1; have n2 := blk_lt HS.out.now.2; have c0 : w1.cell? ⟨w.heap.size, 0, none⟩ = some (.int .i64 x0) := HS.out.now.1.cell 0; have c1 : w1.cell? ⟨w.heap.size, 1, none⟩ = some (.int .i64 x1) := HS.out.now.1.cell 1; have k0 : w1.cell? ⟨w.heap.size + 1, 0, none⟩ = some (.int .i64 0) := HS.out.now.2.cell 0; have f0 := HS.out.now.2.frozen 0; have k1 : w1.cell? ⟨w.heap.size + 1, 1, none⟩ = some (.int .i64 0) := HS.out.now.2.cell 1; have f1 := HS.out.now.2.frozen 1; have k2 : w1.cell? ⟨w.heap.size + 1, 2, none⟩ = some (.int .i64 0) := HS.out.now.2.cell 2; have f2 := HS.out.now.2.frozen 2; have k3 : w1.cell? ⟨w.heap.size + 1, 3, none⟩ = some (.int .i64 0) := HS.out.now.2.cell 3; have f3 := HS.out.now.2.frozen 3; have c0a := cell_alloc1 c0; have c1a := cell_alloc1 c1; have k0a := cell_alloc1 k0; have f0a := froz_alloc1 k0 f0; have k1a := cell_alloc1 k1; have f1a := froz_alloc1 k1 f1; have k2a := cell_alloc1 k2; have f2a := froz_alloc1 k2 f2; have k3a := cell_alloc1 k3; have f3a := froz_alloc1 k3 f3; clear t1 _t) | (have _t := t2; go_at_call 80; refine (H2.out _ (HS.out.step (by repeat (first | exact Below.refl _ _ | apply below_alloc | apply pw_below_drewN | apply below_drew1))).bel).mono ?_; rintro e w2 ⟨rfl, hb⟩; have hp0 := cell_below ((blk_cell (blk_new w1 (.cells #[.int .i64 a, .int .i64 ca] 25)) 0).trans rfl) hb; have hp1 := cell_below ((blk_cell (blk_new w1 (.cells #[.int .i64 a, .int .i64 ca] 25)) 1).trans rfl) hb; have hp0a := cell_alloc1 hp0; have hp1a := cell_alloc1 hp1; have m_ := Aside0.mk (HS.out.call (by repeat (first | exact Below.refl _ _ | apply below_alloc | apply pw_below_drewN | apply below_drew1)) hb); clear HS hb; have HS := m_; clear m_; have n1 := blk_lt HS.out.now.1; have n2 := blk_lt HS.out.now.2; have c0 : w2.cell? ⟨w.heap.size, 0, none⟩ = some (.int .i64 x0) := HS.out.now.1.cell 0; have c1 : w2.cell? ⟨w.heap.size, 1, none⟩ = some (.int .i64 x1) := HS.out.now.1.cell 1; have k0 : w2.cell? ⟨w.heap.size + 1, 0, none⟩ = some (.int .i64 0) := HS.out.now.2.cell 0; have f0 := HS.out.now.2.frozen 0; have k1 : w2.cell? ⟨w.heap.size + 1, 1, none⟩ = some (.int .i64 0) := HS.out.now.2.cell 1; have f1 := HS.out.now.2.frozen 1; have k2 : w2.cell? ⟨w.heap.size + 1, 2, none⟩ = some (.int .i64 0) := HS.out.now.2.cell 2; have f2 := HS.out.now.2.frozen 2; have k3 : w2.cell? ⟨w.heap.size + 1, 3, none⟩ = some (.int .i64 0) := HS.out.now.2.cell 3; have f3 := HS.out.now.2.frozen 3; have c0a := cell_alloc1 c0; have c1a := cell_alloc1 c1; have k0a := cell_alloc1 k0; have f0a := froz_alloc1 k0 f0; have k1a := cell_alloc1 k1; have f1a := froz_alloc1 k1 f1; have k2a := cell_alloc1 k2; have f2a := froz_alloc1 k2 f2; have k3a := cell_alloc1 k3; have f3a := froz_alloc1 k3 f3; clear t2 _t))
  all_goals try (go_step3; go_wp2)
  first | rw [Exit.noGoto_ret] | skip
  refine bodyPost_ret (v := .tuple #[.agg #[.int .i64 a, .int .i64 ca, .int .i64 b, .int .i64 cb], .int .i64 0]) (by simp [results, Try.results53, go_sem, *]) rfl ⟨rfl, ?_⟩
  have hS := HS.out.bel
  repeat (first | exact hS | apply below_alloc | apply pw_below_drewN | apply below_drew1 | refine Below.setCell ?_ (by simp) _)
end Go.Proofs.Ytjebkpcekkkbkaa.B

/-
  place: Span, Range, of the program and of the document, over what Offset and Pos answer.
-/
namespace Go.Proofs.Ytjebkpcekkkbkaa.B
open Go.RowKit Go.Shelf Go.Proofs Go.Proofs.YtjebkpcekkkbkaaW.PrintWords Go.Proofs.YtjebkpcekkkbkaaW.PrintLast Go.Proofs.YtjebkpcekkkbkaaW.PrintMore Go.Proofs.Ytjebkpcekkkbkaa.FBase
set_option maxRecDepth 100000 in
set_option maxHeartbeats 1000000 in
theorem RRange_ok (p : Option Addr) (x0 x1 a ca b cb : Int) (w : World) (h1 : ∀ W, Below w.heap.size w W → Calls Try.prog 83 #[.pointer p, .int .i64 x0] W fun e W' => e = .returned (.tuple #[.agg #[.int .i64 a, .int .i64 ca], .int .i64 0]) ∧ Below W.heap.size W W') (h2 : ∀ W, Below w.heap.size w W → Calls Try.prog 83 #[.pointer p, .int .i64 x1] W fun e W' => e = .returned (.tuple #[.agg #[.int .i64 b, .int .i64 cb], .int .i64 0]) ∧ Below W.heap.size W W') (hlt : x0 ≤ x1) : Calls Try.prog 57 #[.pointer p, .agg #[.int .i64 x0, .int .i64 x1]] w fun e w' => e = .returned (.tuple #[.agg #[.int .i64 a, .int .i64 ca, .int .i64 b, .int .i64 cb], .int .i64 0]) ∧ Below w.heap.size w w' := by
  have hb1 := below_alloc (Below.refl _ w) (.cells #[.int .i64 x0, .int .i64 x1] 44)
  have hb2 : Below (w.alloc (.cells #[.int .i64 x0, .int .i64 x1] 44)).heap.size (w.alloc (.cells #[.int .i64 x0, .int .i64 x1] 44)) ((w.alloc (.cells #[.int .i64 x0, .int .i64 x1] 44)).alloc (.cells #[.int .i64 0, .int .i64 0, .int .i64 0, .int .i64 0] 27)) := below_alloc (Below.refl _ _) _
  have hg : IsBlk ((w.alloc (.cells #[.int .i64 x0, .int .i64 x1] 44)).alloc (.cells #[.int .i64 0, .int .i64 0, .int .i64 0, .int .i64 0] 27)) (w.alloc (.cells #[.int .i64 x0, .int .i64 x1] 44)).heap.size (.cells #[.int .i64 0, .int .i64 0, .int .i64 0, .int .i64 0] 27) := blk_new _ _
  rw [World.size_alloc] at hg
  have HS : Aside0 (Sta w ((w.alloc (.cells #[.int .i64 x0, .int .i64 x1] 44)).alloc (.cells #[.int .i64 0, .int .i64 0, .int .i64 0, .int .i64 0] 27)) (fun W => IsBlk W w.heap.size (.cells #[.int .i64 x0, .int .i64 x1] 44) ∧ IsBlk W (w.heap.size + 1) (.cells #[.int .i64 0, .int .i64 0, .int .i64 0, .int .i64 0] 27))) := ⟨⟨below_step hb1 hb2, ⟨IsBlk.below (blk_new w _) hb2, hg⟩, keeps_and (keeps_blk _ _) (keeps_blk _ _)⟩⟩
  clear hb1 hb2 hg
  have n1 := blk_lt HS.out.now.1
  have n2 := blk_lt HS.out.now.2
  have c0 : ((w.alloc (.cells #[.int .i64 x0, .int .i64 x1] 44)).alloc (.cells #[.int .i64 0, .int .i64 0, .int .i64 0, .int .i64 0] 27)).cell? ⟨w.heap.size, 0, none⟩ = some (.int .i64 x0) := HS.out.now.1.cell 0
  have c1 : ((w.alloc (.cells #[.int .i64 x0, .int .i64 x1] 44)).alloc (.cells #[.int .i64 0, .int .i64 0, .int .i64 0, .int .i64 0] 27)).cell? ⟨w.heap.size, 1, none⟩ = some (.int .i64 x1) := HS.out.now.1.cell 1
  have k0 : ((w.alloc (.cells #[.int .i64 x0, .int .i64 x1] 44)).alloc (.cells #[.int .i64 0, .int .i64 0, .int .i64 0, .int .i64 0] 27)).cell? ⟨w.heap.size + 1, 0, none⟩ = some (.int .i64 0) := HS.out.now.2.cell 0
  have f0 := HS.out.now.2.frozen 0
  have k1 : ((w.alloc (.cells #[.int .i64 x0, .int .i64 x1] 44)).alloc (.cells #[.int .i64 0, .int .i64 0, .int .i64 0, .int .i64 0] 27)).cell? ⟨w.heap.size + 1, 1, none⟩ = some (.int .i64 0) := HS.out.now.2.cell 1
  have f1 := HS.out.now.2.frozen 1
  have k2 : ((w.alloc (.cells #[.int .i64 x0, .int .i64 x1] 44)).alloc (.cells #[.int .i64 0, .int .i64 0, .int .i64 0, .int .i64 0] 27)).cell? ⟨w.heap.size + 1, 2, none⟩ = some (.int .i64 0) := HS.out.now.2.cell 2
  have f2 := HS.out.now.2.frozen 2
  have k3 : ((w.alloc (.cells #[.int .i64 x0, .int .i64 x1] 44)).alloc (.cells #[.int .i64 0, .int .i64 0, .int .i64 0, .int .i64 0] 27)).cell? ⟨w.heap.size + 1, 3, none⟩ = some (.int .i64 0) := HS.out.now.2.cell 3
  have f3 := HS.out.now.2.frozen 3
  have H1 := Aside0.mk h1
  clear h1
  have H2 := Aside0.mk h2
  clear h2
  have t1 := True.intro
  have t2 := True.intro
  go_enter Try.func57, Try.ntmps57
  go_wp2_with (first | (have _t := t1; go_at_call 83; refine (H1.out _ (HS.out.step (by repeat (first | exact Below.refl _ _ | apply below_alloc | apply pw_below_drewN | apply below_drew1))).bel).mono ?_; rintro e w1 ⟨rfl, hb⟩; have m_ := Aside0.mk (HS.out.call (by repeat (first | exact Below.refl _ _ | apply below_alloc | apply pw_below_drewN | apply below_drew1)) hb); clear HS hb; have HS := m_; clear m_; have n1 := blk_lt HS.out.now.1; have n2 := blk_lt HS.out.now.2; have c0 : w1.cell? ⟨w.heap.size, 0, none⟩ = some (.int .i64 x0) := HS.out.now.1.cell 0; have c1 : w1.cell? ⟨w.heap.size, 1, none⟩ = some (.int .i64 x1) := HS.out.now.1.cell 1; have k0 : w1.cell? ⟨w.heap.size + 1, 0, none⟩ = some (.int .i64 0) := HS.out.now.2.cell 0; have f0 := HS.out.now.2.frozen 0; have k1 : w1.cell? ⟨w.heap.size + 1, 1, none⟩ = some (.int .i64 0) := HS.out.now.2.cell 1; have f1 := HS.out.now.2.frozen 1; have k2 : w1.cell? ⟨w.heap.size + 1, 2, none⟩ = some (.int .i64 0) := HS.out.now.2.cell 2; have f2 := HS.out.now.2.frozen 2; have k3 : w1.cell? ⟨w.heap.size + 1, 3, none⟩ = some (.int .i64 0) := HS.out.now.2.cell 3; have f3 := HS.out.now.2.frozen 3; have c0a := cell_alloc1 c0; have c1a := cell_alloc1 c1; have k0a := cell_alloc1 k0; have f0a := froz_alloc1 k0 f0; have k1a := cell_alloc1 k1; have f1a := froz_alloc1 k1 f1; have k2a := cell_alloc1 k2; have f2a := froz_alloc1 k2 f2; have k3a := cell_alloc1 k3; have f3a := froz_alloc1 k3 f3; clear t1 _t) | (have _t := t2; go_at_call 83; refine (H2.out _ (HS.out.step (by repeat (first | exact Below.refl _ _ | apply below_alloc | apply pw_below_drewN | apply below_drew1))).bel).mono ?_; rintro e w2 ⟨rfl, hb⟩; have hp0 := cell_below ((blk_cell (blk_new w1 (.cells #[.int .i64 a, .int .i64 ca] 25)) 0).trans rfl) hb; have hp1 := cell_below ((blk_cell (blk_new w1 (.cells #[.int .i64 a, .int .i64 ca] 25)) 1).trans rfl) hb; have hp0a := cell_alloc1 hp0; have hp1a := cell_alloc1 hp1; have m_ := Aside0.mk (HS.out.call (by repeat (first | exact Below.refl _ _ | apply below_alloc | apply pw_below_drewN | apply below_drew1)) hb); clear HS hb; have HS := m_; clear m_; have n1 := blk_lt HS.out.now.1; have n2 := blk_lt HS.out.now.2; have c0 : w2.cell? ⟨w.heap.size, 0, none⟩ = some (.int .i64 x0) := HS.out.now.1.cell 0; have c1 : w2.cell? ⟨w.heap.size, 1, none⟩ = some (.int .i64 x1) := HS.out.now.1.cell 1; have k0 : w2.cell? ⟨w.heap.size + 1, 0, none⟩ = some (.int .i64 0) := HS.out.now.2.cell 0; have f0 := HS.out.now.2.frozen 0; have k1 : w2.cell? ⟨w.heap.size + 1, 1, none⟩ = some (.int .i64 0) := HS.out.now.2.cell 1; have f1 := HS.out.now.2.frozen 1; have k2 : w2.cell? ⟨w.heap.size + 1, 2, none⟩ = some (.int .i64 0) := HS.out.now.2.cell 2; have f2 := HS.out.now.2.frozen 2; have k3 : w2.cell? ⟨w.heap.size + 1, 3, none⟩ = some (.int .i64 0) := HS.out.now.2.cell 3; have f3 := HS.out.now.2.frozen 3; have c0a := cell_alloc1 c0; have c1a := cell_alloc1 c1; have k0a := cell_alloc1 k0; have f0a := froz_alloc1 k0 f0; have k1a := cell_alloc1 k1; have f1a := froz_alloc1 k1 f1; have k2a := cell_alloc1 k2; have f2a := froz_alloc1 k2 f2; have k3a := cell_alloc1 k3; have f3a := froz_alloc1 k3 f3; clear t2 _t))
  first | rw [Exit.noGoto_ret] | skip
  refine bodyPost_ret (v := .tuple #[.agg #[.int .i64 a, .int .i64 ca, .int .i64 b, .int .i64 cb], .int .i64 0]) (by simp [results, Try.results57, go_sem, *]) rfl ⟨rfl, ?_⟩
  have hS := HS.out.bel
  repeat (first | exact hS | apply below_alloc | apply pw_below_drewN | apply below_drew1 | refine Below.setCell ?_ (by simp) _)
end Go.Proofs.Ytjebkpcekkkbkaa.B

/-
  The document's map of places: New; Offset of what is no place, of a place behind the last line.
-/
namespace Go.Proofs.Ytjebkpcekkkbkaa.B
open Go.RowKit Go.Shelf Go.Proofs Go.Proofs.YtjebkpcekkkbkaaW.PrintWords Go.Proofs.YtjebkpcekkkbkaaW.PrintLast Go.Proofs.YtjebkpcekkkbkaaW.PrintMore Go.Proofs.Ytjebkpcekkkbkaa.FBase
def RMapAt (W : World) (m a : Nat) (A : Option Addr) (c : Nat) (l : List Int) : Prop :=
  IsRef W a (lns l 0 0) ∧ Kd.C (Kd.int .u8) W A l.length l ∧ IsBlk W m (.cells #[.slice A l.length c, .pointer (some ⟨a, 0, none⟩)] 142)
def IsRMap (W : World) (m : Nat) (l : List Int) : Prop := ∃ a A c, l.length ≤ c ∧ RMapAt W m a A c l
theorem keeps_rmapAt (m a : Nat) (A : Option Addr) (c : Nat) (l : List Int) : Keeps (fun W => RMapAt W m a A c l) := keeps_and (keeps_ref _ _) (keeps_and (keeps_C _ _ _ _) (keeps_blk _ _))
theorem keeps_rmap (m : Nat) (l : List Int) : Keeps (fun W => IsRMap W m l) := fun W1 W2 h hb => by
  obtain ⟨a, A, c, hc, h⟩ := h
  exact ⟨a, A, c, hc, keeps_rmapAt m a A c l W1 W2 h hb⟩
set_option maxHeartbeats 1000000 in
theorem RMNew_err (k : Nat) (A : Option Addr) (c : Nat) (l : List Int) (r1 r2 : Int) (w : World) (hr : Kd.C (Kd.int .u8) w A l.length l) (hc : l.length ≤ c) (h : colophonref01_Check.f k l = some (r1, r2)) (hz : r2 ≠ 0) :
    Calls Try.prog 54 #[.slice A l.length c] w fun e w' => e = .returned (.tuple #[.pointer none, .int .i64 r2]) ∧ Below w.heap.size w w' := by
  have HS := Aside0.mk ((Sta.start w).only hr (keeps_C _ _ _ _))
  have HC := Aside0.mk hc
  have H := Aside0.mk h
  have hz2 : (r2 != 0) = true := bne_iff_ne.mpr hz
  clear hr hc h
  go_enter Try.func54, Try.ntmps54
  go_wp2_with (go_at_call 81; refine (RNew_err k A c l r1 r2 _ (HS.out.step (by repeat (first | exact Below.refl _ _ | apply below_alloc | apply pw_below_drewN | apply below_drew1))).now HC.out H.out hz).mono ?_; rintro e w1 ⟨rfl, hb⟩; have m_ := Aside0.mk (HS.out.call (by repeat (first | exact Below.refl _ _ | apply below_alloc | apply pw_below_drewN | apply below_drew1)) hb); clear HS hb ; have HS := m_; clear m_)
  go_ret2
  exact ⟨rfl, HS.out.bel⟩
set_option maxHeartbeats 1000000 in
theorem RMNew_ok (k : Nat) (A : Option Addr) (c : Nat) (l : List Int) (r1 : Int) (w : World) (hr : Kd.C (Kd.int .u8) w A l.length l) (hc : l.length ≤ c) (h : colophonref01_Check.f k l = some (r1, 0)) (hs : l.length ≤ 1048576) :
    Calls Try.prog 54 #[.slice A l.length c] w fun e w' => ∃ m, e = .returned (.tuple #[.pointer (some ⟨m, 0, none⟩), .int .i64 0]) ∧ IsRMap w' m l ∧ Below w.heap.size w w' := by
  have HS := Aside0.mk ((Sta.start w).only hr (keeps_C _ _ _ _))
  have HC := Aside0.mk hc
  have H := Aside0.mk h
  clear hr hc h
  go_enter Try.func54, Try.ntmps54
  go_wp2_with (first | (go_at_call 81; refine (RNew_all k A c l r1 _ (HS.out.step (by repeat (first | exact Below.refl _ _ | apply below_alloc | apply pw_below_drewN | apply below_drew1))).now HC.out H.out hs).mono ?_; rintro e w1 ⟨a, rfl, hle, hI, hb⟩; have hI := hI.now; clear hle; have m_ := Aside0.mk ((HS.out.call (by repeat (first | exact Below.refl _ _ | apply below_alloc | apply pw_below_drewN | apply below_drew1)) hb).add hI (keeps_ref _ _)); clear HS hb hI; have HS := m_; clear m_) | (go_at_call 17; refine (Copy_ok A c l _ (HS.out.step (by repeat (first | exact Below.refl _ _ | apply below_alloc | apply pw_below_drewN | apply below_drew1))).now.2 HC.out hs).mono ?_; rintro e w2 ⟨v, rfl, hR, hb⟩; obtain ⟨A2, c2, rfl⟩ := Kd.R_slice hR; obtain ⟨-, hcap, hC⟩ := Kd.R_reads' hR; have HCP := Aside0.mk hcap; clear hcap hR; have m_ := Aside0.mk ((HS.out.call (by repeat (first | exact Below.refl _ _ | apply below_alloc | apply pw_below_drewN | apply below_drew1)) hb).add hC (keeps_C _ _ _ _)); clear HS hb hC; have HS := m_; clear m_))
  go_ret2
  have hS := HS.out.step (below_alloc (Below.refl _ w2) (.cells #[.slice A2 l.length c2, .pointer (some ⟨a, 0, none⟩)] 142))
  exact ⟨_, rfl, ⟨a, A2, c2, HCP.out, hS.now.2.1, hS.now.1, blk_new w2 _⟩, hS.bel⟩
set_option maxRecDepth 100000 in
set_option maxHeartbeats 1000000 in
theorem ROff_far (m : Nat) (l : List Int) (line char : Int) (w : World) (hM : IsRMap w m l) (h0 : 0 ≤ line) (h1 : 0 ≤ char) (h : (lns l 0 0).length ≤ line) :
    Calls Try.prog 84 #[.pointer (some ⟨m, 0, none⟩), .agg #[.int .i64 line, .int .i64 char]] w fun e w' => e = .returned (.tuple #[.int .i64 l.length, .int .i64 0]) ∧ Below w.heap.size w w' := by
  obtain ⟨a, A, c, hc, hA⟩ := hM
  have HC := Aside0.mk hc
  have hb1 := below_alloc (Below.refl _ w) (.cells #[.int .i64 line, .int .i64 char] 25)
  have HS : Aside0 (Sta w (w.alloc (.cells #[.int .i64 line, .int .i64 char] 25)) (fun W => IsBlk W w.heap.size (.cells #[.int .i64 line, .int .i64 char] 25) ∧ RMapAt W m a A c l)) := ⟨⟨hb1, ⟨blk_new w _, keeps_rmapAt m a A c l _ _ hA hb1⟩, keeps_and (keeps_blk _ _) (keeps_rmapAt _ _ _ _ _)⟩⟩
  have cb : (w.alloc (.cells #[.int .i64 line, .int .i64 char] 25)).cell? ⟨w.heap.size, 0, none⟩ = some (.int .i64 line) := HS.out.now.1.cell 0
  have cc : (w.alloc (.cells #[.int .i64 line, .int .i64 char] 25)).cell? ⟨w.heap.size, 1, none⟩ = some (.int .i64 char) := HS.out.now.1.cell 1
  have cm : (w.alloc (.cells #[.int .i64 line, .int .i64 char] 25)).cell? ⟨m, 1, none⟩ = some (.pointer (some ⟨a, 0, none⟩)) := HS.out.now.2.2.2.cell 1
  have cl : (w.alloc (.cells #[.int .i64 line, .int .i64 char] 25)).cell? ⟨m, 0, none⟩ = some (.slice A l.length c) := HS.out.now.2.2.2.cell 0
  clear hA hb1 hc
  obtain ⟨L, hL⟩ : ∃ L, L = lns l 0 0 := ⟨_, rfl⟩
  have HLE := Aside0.mk hL
  rw [← hL] at h
  clear hL
  have d0 : decide (line < 0) = false := decide_eq_false (by omega)
  have d1 : decide (char < 0) = false := decide_eq_false (by omega)
  have d2 : decide ((L.length : Int) ≤ line) = true := decide_eq_true h
  go_enter Try.func84, Try.ntmps84
  go_upto_region 3 with fail
  go_region_held3 (fun wx => wx.cell? ⟨w.heap.size, 0, none⟩ = some (.int .i64 line) ∧ wx.cell? ⟨m, 1, none⟩ = some (.pointer (some ⟨a, 0, none⟩))) (go_keep) (first | (go_at_call 109; refine (RCount_ok a L _ (HLE.out ▸ (HS.out.step (by repeat (first | exact Below.refl _ _ | apply below_alloc | apply pw_below_drewN | apply below_drew1))).now.2.1)).mono ?_; rintro e w' ⟨rfl, rfl⟩))
  go_wp2
  go_ret2
  exact ⟨rfl, (HS.out.step (by repeat (first | exact Below.refl _ _ | apply below_alloc | apply pw_below_drewN | apply below_drew1))).bel⟩
end Go.Proofs.Ytjebkpcekkkbkaa.B

/-
  The document's map of places: Offset of a place in a line.
-/
namespace Go.Proofs.Ytjebkpcekkkbkaa.B
open Go.RowKit Go.Shelf Go.Proofs Go.Proofs.YtjebkpcekkkbkaaW.PrintWords Go.Proofs.YtjebkpcekkkbkaaW.PrintLast Go.Proofs.YtjebkpcekkkbkaaW.PrintMore Go.Proofs.Ytjebkpcekkkbkaa.FBase
set_option maxRecDepth 100000 in
set_option maxHeartbeats 1000000 in
theorem ROff_in (m : Nat) (l : List Int) (line char : Int) (w : World) (hM : IsRMap w m l) (hs : l.length ≤ 1048576) (hB : Bytes l) (hv : V l) (h0 : 0 ≤ line) (h1 : 0 ≤ char) (h1b : char ≤ 9223372036854775807) (hlt : line < (lns l 0 0).length) :
    Calls Try.prog 84 #[.pointer (some ⟨m, 0, none⟩), .agg #[.int .i64 line, .int .i64 char]] w fun e w' => e = .returned (.tuple #[.int .i64 ((rdLn (lns l 0 0) line).f0 + off (chars (seg l (rdLn (lns l 0 0) line))) char), .int .i64 0]) ∧ Below w.heap.size w w' := by
  obtain ⟨a, A, c, hc, hA⟩ := hM
  have HC := Aside0.mk hc
  have hb1 := below_alloc (Below.refl _ w) (.cells #[.int .i64 line, .int .i64 char] 25)
  have HS : Aside0 (Sta w (w.alloc (.cells #[.int .i64 line, .int .i64 char] 25)) (fun W => IsBlk W w.heap.size (.cells #[.int .i64 line, .int .i64 char] 25) ∧ RMapAt W m a A c l)) := ⟨⟨hb1, ⟨blk_new w _, keeps_rmapAt m a A c l _ _ hA hb1⟩, keeps_and (keeps_blk _ _) (keeps_rmapAt _ _ _ _ _)⟩⟩
  have cb : (w.alloc (.cells #[.int .i64 line, .int .i64 char] 25)).cell? ⟨w.heap.size, 0, none⟩ = some (.int .i64 line) := HS.out.now.1.cell 0
  have cc : (w.alloc (.cells #[.int .i64 line, .int .i64 char] 25)).cell? ⟨w.heap.size, 1, none⟩ = some (.int .i64 char) := HS.out.now.1.cell 1
  have cm : (w.alloc (.cells #[.int .i64 line, .int .i64 char] 25)).cell? ⟨m, 1, none⟩ = some (.pointer (some ⟨a, 0, none⟩)) := HS.out.now.2.2.2.cell 1
  clear hA hb1 hc
  have hch := lns_chain0 l
  have hln : (lns l 0 0).length ≤ 2097152 := by have := hch.length_le; omega
  have hpos := hch.pos
  have hat := hch.at line.toNat (by omega)
  rw [show ((line.toNat : Nat) : Int) = line by omega] at hat
  have hsv := line_V hB hv line.toNat (by omega)
  rw [show ((line.toNat : Nat) : Int) = line by omega] at hsv
  have hcs : Cs (seg l (rdLn (lns l 0 0) line)) (chars (seg l (rdLn (lns l 0 0) line))) := V.chars hsv
  have hsl : (seg l (rdLn (lns l 0 0) line)).length ≤ 1048576 := by unfold seg; rw [List.length_drop, List.length_take]; omega
  have hbs : Bytes (seg l (rdLn (lns l 0 0) line)) := fun y hy => hB y (List.mem_of_mem_take (List.mem_of_mem_drop hy))
  have hsgl : ((seg l (rdLn (lns l 0 0) line)).length : Int) = (rdLn (lns l 0 0) line).f1 - (rdLn (lns l 0 0) line).f0 := by unfold seg; rw [List.length_drop, List.length_take]; omega
  obtain ⟨g, hsz⟩ := hcs.good hbs
  have hor := off_range char g
  have x0 : 0 ≤ (rdLn (lns l 0 0) line).f0 := hat.1
  have x1 : (rdLn (lns l 0 0) line).f0 ≤ (rdLn (lns l 0 0) line).f1 := hat.2.1
  have x2 : (rdLn (lns l 0 0) line).f1 ≤ l.length := by have := hat.2.2.1; have := hat.2.2.2.1; omega
  rw [hsz, hsgl] at hor
  have hseg : seg l (rdLn (lns l 0 0) line) = (l.take (rdLn (lns l 0 0) line).f1.toNat).drop (rdLn (lns l 0 0) line).f0.toNat := rfl
  have HSEG := Aside0.mk hseg
  clear hat hsv hch hseg hsgl hsz g
  generalize chars (seg l (rdLn (lns l 0 0) line)) = r at *
  generalize seg l (rdLn (lns l 0 0) line) = sg at *
  obtain ⟨L, hL⟩ : ∃ L, L = lns l 0 0 := ⟨_, rfl⟩
  have HLE := Aside0.mk hL
  rw [← hL] at hln hpos hlt hor x0 x1 x2 HSEG ⊢
  clear hL
  have HRO := Aside0.mk (ROffset_f char h1 hbs hsl hcs (Nat.lt_succ_self _))
  have HCS := Aside0.mk hcs
  have HBS := Aside0.mk hbs
  clear hcs hbs
  have d0 : decide (line < 0) = false := decide_eq_false (by omega)
  have d1 : decide (char < 0) = false := decide_eq_false (by omega)
  have d2 : decide ((L.length : Int) ≤ line) = false := decide_eq_false (by omega)
  obtain ⟨x, hx⟩ : ∃ x, x = rdLn L line := ⟨_, rfl⟩
  have HX := Aside0.mk hx
  rw [← hx] at hor x0 x1 x2 HSEG ⊢
  clear hx
  go_enter Try.func84, Try.ntmps84
  go_upto_region 3 with fail
  go_cut [26] from 11 (fun s26 W => s26 = .bool false ∧ Aside0 (Sta w W (fun W => IsBlk W w.heap.size (.cells #[.int .i64 line, .int .i64 char] 25) ∧ RMapAt W m a A c l)))
  case first =>
    go_region_held3 (fun wx => wx.cell? ⟨w.heap.size, 0, none⟩ = some (.int .i64 line) ∧ wx.cell? ⟨m, 1, none⟩ = some (.pointer (some ⟨a, 0, none⟩))) (go_keep) (first | (go_at_call 109; refine (RCount_ok a L _ (HLE.out ▸ (HS.out.step (by repeat (first | exact Below.refl _ _ | apply below_alloc | apply pw_below_drewN | apply below_drew1))).now.2.1)).mono ?_; rintro e w' ⟨rfl, rfl⟩))
    go_wp2
    go_meet
    exact ⟨rfl, ⟨HS.out.step (by repeat (first | exact Below.refl _ _ | apply below_alloc | apply pw_below_drewN | apply below_drew1))⟩⟩
  case rest =>
  clear HS cb cc cm
  obtain ⟨rfl, HS⟩ := hcut
  obtain ⟨w5, hw5⟩ : ∃ w5 : World, w5 = wc := ⟨wc, rfl⟩
  subst hw5
  have cb : w5.cell? ⟨w.heap.size, 0, none⟩ = some (.int .i64 line) := HS.out.now.1.cell 0
  have cm : w5.cell? ⟨m, 1, none⟩ = some (.pointer (some ⟨a, 0, none⟩)) := HS.out.now.2.2.2.cell 1
  go_upto_region 5 with fail
  go_cut [6, 7, 8] from 11 (fun s6 s7 s8 W => ∃ b7, s7 = .pointer (some ⟨b7, 0, none⟩) ∧ s8 = .int .i64 0 ∧ Aside0 (Sta w W (fun W => SpBox W b7 x ∧ IsBlk W w.heap.size (.cells #[.int .i64 line, .int .i64 char] 25) ∧ RMapAt W m a A c l)))
  case first =>
    have n1 := blk_lt HS.out.now.1
    have n2 := blk_lt HS.out.now.2.2.2
    have HS5 := HS
    have e1 : ¬ (w5.heap.size = w.heap.size) := by omega
    have e2 : ¬ (w.heap.size = w5.heap.size) := by omega
    have e3 : ¬ (w5.heap.size = m) := by omega
    have e4 : ¬ (m = w5.heap.size) := by omega
    have e5 : ¬ (w5.heap.size + 1 = w.heap.size) := by omega
    have e6 : ¬ (w.heap.size = w5.heap.size + 1) := by omega
    have e7 : ¬ (w5.heap.size + 1 = m) := by omega
    have e8 : ¬ (m = w5.heap.size + 1) := by omega
    go_region_held3 (fun wx => wx.cell? ⟨w.heap.size, 0, none⟩ = some (.int .i64 line) ∧ wx.cell? ⟨m, 1, none⟩ = some (.pointer (some ⟨a, 0, none⟩))) (go_keep) (first | (go_at_call 107; refine (RLine_ok a L line _ (HLE.out ▸ (HS.out.step (by repeat (first | exact Below.refl _ _ | apply below_alloc | apply pw_below_drewN | apply below_drew1))).now.2.1) h0 hlt hln).mono ?_; rintro e w6 ⟨rfl, hb⟩; rw [← HX.out]; obtain ⟨hbc, hbf⟩ := bcell hb; have z0 := hbc w5.heap.size 0; have z1 := hbc w5.heap.size 1; have y0 := hbf w5.heap.size 0; have y1 := hbf w5.heap.size 1; have z2 := hbc (w5.heap.size + 1) 0; have z3 := hbc (w5.heap.size + 1) 1; have y2 := hbf (w5.heap.size + 1) 0; have y3 := hbf (w5.heap.size + 1) 1; simp at z0 z1 y0 y1 z2 z3 y2 y3; (try (have za0 := cell_alloc1 z0; have za1 := cell_alloc1 z1; have ya0 := froz_alloc1 z0 y0; have ya1 := froz_alloc1 z1 y1; have q0 := Nat.ne_of_lt (World.block_lt_of_cell? _ _ z0); have q1 := Ne.symm q0)); clear hbc hbf; have HBC := Aside0.mk hb; have HBZ := Aside0.mk hb.size; have m_ := Aside0.mk (HS.out.call (by repeat (first | exact Below.refl _ _ | apply below_alloc | apply pw_below_drewN | apply below_drew1)) hb); clear HS hb ; have HS := m_; clear m_; have cb : w6.cell? ⟨w.heap.size, 0, none⟩ = some (.int .i64 line) := HS.out.now.1.cell 0; have cm : w6.cell? ⟨m, 1, none⟩ = some (.pointer (some ⟨a, 0, none⟩)) := HS.out.now.2.2.2.cell 1; have cb1 := cell_alloc1 cb; have cb2 := cell_alloc2 cb; have cm1 := cell_alloc1 cm; have cm2 := cell_alloc2 cm; have qb := World.block_lt_of_cell? _ _ cb; have qm := World.block_lt_of_cell? _ _ cm; have qb1 := Nat.ne_of_lt qb; have qb2 := Ne.symm qb1; have qb3 := Nat.ne_of_lt (Nat.lt_succ_of_lt qb); have qb4 := Ne.symm qb3; have qm1 := Nat.ne_of_lt qm; have qm2 := Ne.symm qm1; have qm3 := Nat.ne_of_lt (Nat.lt_succ_of_lt qm); have qm4 := Ne.symm qm3))
    all_goals
      have hbz := HBZ.out
      simp at hbz
      clear HBZ HS
      go_wp2
      go_meet
      refine ⟨_, rfl, rfl, ⟨(HS5.out.step ?_).add ⟨?_, ?_⟩ (keeps_sp _ _)⟩⟩
      · repeat' (first | exact below_step (by repeat (first | exact Below.refl _ _ | apply below_alloc | apply pw_below_drewN | apply below_drew1)) HBC.out | apply below_alloc | apply below_drew1 | apply Below.setCell | (simp; done) | (simp; omega))
      · first | (go_simp; done) | (simp [*]; done) | exact (sp_two ((World.cell?_setCell_other _ _ _ _ (by simp)).trans ((World.cell?_setCell_other _ _ _ _ (by simp)).trans (z0 (Nat.lt_succ_of_lt (Nat.lt_succ_self _))))) ((World.cell?_setCell_other _ _ _ _ (by simp)).trans ((World.cell?_setCell_other _ _ _ _ (by simp)).trans (z1 (Nat.lt_succ_of_lt (Nat.lt_succ_self _)))))).1
      · first | (go_simp; done) | (simp [*]; done) | exact (sp_two ((World.cell?_setCell_other _ _ _ _ (by simp)).trans ((World.cell?_setCell_other _ _ _ _ (by simp)).trans (z0 (Nat.lt_succ_of_lt (Nat.lt_succ_self _))))) ((World.cell?_setCell_other _ _ _ _ (by simp)).trans ((World.cell?_setCell_other _ _ _ _ (by simp)).trans (z1 (Nat.lt_succ_of_lt (Nat.lt_succ_self _)))))).2
  case rest =>
    clear cb cm HS
    obtain ⟨b7, rfl, rfl, HS⟩ := hcut
    have cb : wc.cell? ⟨w.heap.size, 1, none⟩ = some (.int .i64 char) := HS.out.now.2.1.cell 1
    have cm : wc.cell? ⟨m, 0, none⟩ = some (.slice A l.length c) := HS.out.now.2.2.2.2.cell 0
    have s0 : wc.cell? ⟨b7, 0, none⟩ = some (.int .i64 x.f0) := HS.out.now.1.1
    have s1 : wc.cell? ⟨b7, 1, none⟩ = some (.int .i64 x.f1) := HS.out.now.1.2
    obtain ⟨B, d, hcut, hsg, hsd⟩ := cut_seg _ A c l x.f0 x.f1 HS.out.now.2.2.2.1 HC.out x0 x1 x2
    rw [← HSEG.out] at hcut hsg hsd
    have HSG := Aside0.mk hsg
    have HSD := Aside0.mk hsd
    clear hsg hsd
    have wr : wrap64 (x.f0 + off r char) = x.f0 + off r char := by unfold wrap64; omega
    go_upto_region 6 with fail
    go_cut [9, 10] from 11 (fun s9 s10 W => s9 = .int .i64 (off r char) ∧ s10 = .int .i64 0 ∧ Aside0 (Sta w W (fun W => SpBox W b7 x ∧ IsBlk W w.heap.size (.cells #[.int .i64 line, .int .i64 char] 25) ∧ RMapAt W m a A c l)))
    case first =>
      go_region_held3 (fun wx => wx.cell? ⟨w.heap.size, 1, none⟩ = some (.int .i64 char) ∧ wx.cell? ⟨m, 0, none⟩ = some (.slice A l.length c) ∧ wx.cell? ⟨b7, 0, none⟩ = some (.int .i64 x.f0) ∧ wx.cell? ⟨b7, 1, none⟩ = some (.int .i64 x.f1)) (go_keep) (first | (go_at_call 110; refine (colophonref02_Offset.calls _ B d sg char _ _ _ (Kd.C_below HSG.out (by repeat (first | exact Below.refl _ _ | apply below_alloc | apply pw_below_drewN | apply below_drew1))) HSD.out HRO.out).mono ?_; rintro e w8 ⟨rfl, hb⟩; have m_ := Aside0.mk (HS.out.call (by repeat (first | exact Below.refl _ _ | apply below_alloc | apply pw_below_drewN | apply below_drew1)) hb); clear HS hb ; have HS := m_; clear m_; have cb : w8.cell? ⟨w.heap.size, 1, none⟩ = some (.int .i64 char) := HS.out.now.2.1.cell 1; have cm : w8.cell? ⟨m, 0, none⟩ = some (.slice A l.length c) := HS.out.now.2.2.2.2.cell 0; have s0 : w8.cell? ⟨b7, 0, none⟩ = some (.int .i64 x.f0) := HS.out.now.1.1; have s1 : w8.cell? ⟨b7, 1, none⟩ = some (.int .i64 x.f1) := HS.out.now.1.2))
      go_wp2
      go_meet
      exact ⟨rfl, rfl, HS⟩
    case rest =>
      clear cb cm s0 s1 HS
      obtain ⟨rfl, rfl, HS⟩ := hcut
      have s0 : wc.cell? ⟨b7, 0, none⟩ = some (.int .i64 x.f0) := HS.out.now.1.1
      go_wp2
      go_ret2
      exact ⟨rfl, HS.out.bel⟩
end Go.Proofs.Ytjebkpcekkkbkaa.B

/-
  The document's map of places: Pos, End.
-/
namespace Go.Proofs.Ytjebkpcekkkbkaa.B
open Go.RowKit Go.Shelf Go.Proofs Go.Proofs.YtjebkpcekkkbkaaW.PrintWords Go.Proofs.YtjebkpcekkkbkaaW.PrintLast Go.Proofs.YtjebkpcekkkbkaaW.PrintMore Go.Proofs.Ytjebkpcekkkbkaa.FBase
theorem flo_stop : ∀ {p q : List (Int × Int)} (k : Int), Good (p ++ q) → sz p ≤ k → (∀ x q', q = x :: q' → k < sz p + x.1) → flo (p ++ q) k = sz p
  | [], [], k, _, _, _ => by simp [flo, sz]
  | [], x :: q, k, _, _, h => by
    have := h x q rfl
    simp only [sz] at this
    simp only [List.nil_append, flo, sz]
    rw [if_pos (by omega)]
  | x :: p, q, k, hg, h0, h => by
    have hp : 0 ≤ sz p := sz_nonneg (fun y hy => hg y (by simp [hy]))
    simp only [sz] at h0
    have ih := flo_stop (p := p) (q := q) (k - x.1) (Good.tail (r := p ++ q) hg) (by omega) (fun y q' e => by have := h y q' e; simp only [sz] at this; omega)
    simp only [List.cons_append, flo, sz]
    rw [if_neg (by omega), ih]
theorem sz_app2 : ∀ (a b : List (Int × Int)), sz (a ++ b) = sz a + sz b
  | [], b => by simp [sz]
  | x :: a, b => by simp only [List.cons_append, sz, sz_app2 a b]; omega
theorem sz_zero : ∀ {q : List (Int × Int)}, Good q → sz q ≤ 0 → q = []
  | [], _, _ => rfl
  | x :: q, h, h0 => by have := h.head; have := sz_nonneg h.tail; simp only [sz] at h0; omega
theorem rest_next (l : List Int) (hB : Bytes l) (f1 n : Int) (q : List (Int × Int)) (h0 : 0 ≤ n) (h1 : n < f1) (h2 : f1 ≤ l.length) (hcs : Cs ((l.take f1.toNat).drop n.toNat) q) :
    ∃ x q', q = x :: q' ∧ 1 ≤ x.1 ∧ n + x.1 ≤ f1 ∧ (∃ d1, dec (l.drop n.toNat) = (d1, x.1, 0)) ∧ Cs ((l.take f1.toNat).drop (n + x.1).toNat) q' := by
  have hb : Bytes ((l.take f1.toNat).drop n.toNat) := fun y hy => hB y (List.mem_of_mem_take (List.mem_of_mem_drop hy))
  have hlen : ((l.take f1.toNat).drop n.toNat).length = f1.toNat - n.toNat := by rw [List.length_drop, List.length_take]; omega
  have hspl : l.drop n.toNat = (l.take f1.toNat).drop n.toNat ++ l.drop f1.toNat := by
    conv => lhs; rw [← List.take_append_drop f1.toNat l]
    rw [List.drop_append_of_le_length (by rw [List.length_take]; omega)]
  obtain ⟨hg, -⟩ := hcs.good hb
  obtain ⟨hd, z, x, q', e, rfl, hl, hd0, hd1, -, hz, -, -⟩ := hcs.open hb (fun e => by rw [e] at hlen; simp at hlen; omega)
  have hle : hd.length ≤ f1.toNat - n.toNat := by rw [← hlen, e, List.length_append]; omega
  refine ⟨x, q', rfl, (Good.head hg).1, by omega, ⟨(dec hd).1, ?_⟩, ?_⟩
  · rw [hspl, e, List.append_assoc, dec_hd hd0, ← hd1, ← hd0]
  · rw [show (n + x.1).toNat = n.toNat + hd.length by omega, ← List.drop_drop, e, List.drop_left]
    exact hz
set_option maxRecDepth 100000 in
set_option maxHeartbeats 2000000 in
theorem RPos_ok (m : Nat) (l : List Int) (at_ : Int) (r : Nat) (w : World) (hM : IsRMap w m l) (hs : l.length ≤ 1048576) (hB : Bytes l) (hv : V l) (h0 : 0 ≤ at_) (h1 : at_ ≤ l.length) (hf : FindAt (lns l 0 0) at_ r) :
    Calls Try.prog 83 #[.pointer (some ⟨m, 0, none⟩), .int .i64 at_] w fun e w' => e = .returned (.tuple #[.agg #[.int .i64 r, .int .i64 (ufl (chars (seg l (rdLn (lns l 0 0) r))) (at_ - (rdLn (lns l 0 0) r).f0))], .int .i64 0]) ∧ Below w.heap.size w w' := by
  obtain ⟨a, A, c, hc, hA⟩ := hM
  have HC := Aside0.mk hc
  have hb1 := below_alloc (Below.refl _ w) (.cells #[.int .i64 0, .int .i64 0] 25)
  have HS : Aside0 (Sta w (w.alloc (.cells #[.int .i64 0, .int .i64 0] 25)) (fun W => IsBlk W w.heap.size (.cells #[.int .i64 0, .int .i64 0] 25) ∧ RMapAt W m a A c l)) := ⟨⟨hb1, ⟨blk_new w _, keeps_rmapAt m a A c l _ _ hA hb1⟩, keeps_and (keeps_blk _ _) (keeps_rmapAt _ _ _ _ _)⟩⟩
  have cm1 : (w.alloc (.cells #[.int .i64 0, .int .i64 0] 25)).cell? ⟨m, 1, none⟩ = some (.pointer (some ⟨a, 0, none⟩)) := HS.out.now.2.2.2.cell 1
  clear hA hb1 hc
  have hch := lns_chain0 l
  have hln : (lns l 0 0).length ≤ 2097152 := by have := hch.length_le; omega
  have hr := hf.1
  have hfl := hf.from_le hch h0
  obtain ⟨x0, x1, x2, hcs, g, hsz⟩ := line_is l hB hv r hr
  have hsl : (seg l (rdLn (lns l 0 0) r)).length ≤ 1048576 := by unfold seg; rw [List.length_drop, List.length_take]; omega
  have hbs : Bytes (seg l (rdLn (lns l 0 0) r)) := fun y hy => hB y (List.mem_of_mem_take (List.mem_of_mem_drop hy))
  obtain ⟨q', hq', hqu⟩ := cs_take hcs hbs (at_ - (rdLn (lns l 0 0) r).f0)
  have hfr := flo_range (at_ - (rdLn (lns l 0 0) r).f0) g (by omega)
  have hcs2 : Cs ((l.take (rdLn (lns l 0 0) r).f1.toNat).drop (rdLn (lns l 0 0) r).f0.toNat) (chars (seg l (rdLn (lns l 0 0) r))) := hcs
  have HF := Aside0.mk hf
  have HCH := Aside0.mk hch
  clear hch hf hcs hsl
  generalize chars (seg l (rdLn (lns l 0 0) r)) = rs at *
  rw [show seg l (rdLn (lns l 0 0) r) = (l.take (rdLn (lns l 0 0) r).f1.toNat).drop (rdLn (lns l 0 0) r).f0.toNat from rfl] at hq' hbs
  obtain ⟨L, hL⟩ : ∃ L, L = lns l 0 0 := ⟨_, rfl⟩
  have HLE := Aside0.mk hL
  rw [← hL] at hln hr HF HCH hfl x0 x1 x2 hsz hq' hbs hqu hfr hcs2 ⊢
  clear hL
  obtain ⟨x, hx⟩ : ∃ x, x = rdLn L r := ⟨_, rfl⟩
  have HX := Aside0.mk hx
  rw [← hx] at hfl x0 x1 x2 hsz hq' hbs hqu hfr hcs2 ⊢
  clear hx
  obtain ⟨nn, hnn⟩ : ∃ nn, nn = x.f0 + flo rs (at_ - x.f0) := ⟨_, rfl⟩
  have hnr : x.f0 ≤ nn ∧ nn ≤ x.f1 := by omega
  obtain ⟨hn0, hn1⟩ := hnr
  obtain ⟨B, d, hcut, hsg, hsd⟩ := cut_seg _ A c l x.f0 nn HS.out.now.2.2.1 HC.out x0 hn0 (by omega)
  have hsgq : (l.take nn.toNat).drop x.f0.toNat = ((l.take x.f1.toNat).drop x.f0.toNat).take (flo rs (at_ - x.f0)).toNat := by
    rw [show (flo rs (at_ - x.f0)).toNat = nn.toNat - x.f0.toNat by omega, ← List.drop_take, List.take_take, show min nn.toNat x.f1.toNat = nn.toNat by omega]
  rw [← hsgq] at hq'
  have hsgl : ((l.take nn.toNat).drop x.f0.toNat).length ≤ 1048576 := by rw [List.length_drop, List.length_take]; omega
  have hof := ROf_f (y := (l.take nn.toNat).drop x.f0.toNat) (fun y hy => hB y (List.mem_of_mem_take (List.mem_of_mem_drop hy))) hsgl hq' (Nat.lt_succ_self _)
  rw [hqu] at hof
  clear hq' hqu hsgq hsgl hbs
  generalize (l.take nn.toNat).drop x.f0.toNat = sg at *
  generalize hfe : flo rs (at_ - x.f0) = fl at *
  generalize ufl rs (at_ - x.f0) = uu at *
  have m_ := Aside0.mk (HS.out.add hsg (keeps_C _ _ _ _))
  clear HS
  have HS := m_
  clear m_
  have HSD := Aside0.mk hsd
  have HOF := Aside0.mk hof
  have HFE := Aside0.mk hfe
  have HG := Aside0.mk g
  have HR := Aside0.mk hcs2
  clear hsg hsd hof hfe hfr hcs2 g
  go_enter Try.func83, Try.ntmps83
  go_wp2_with (first | (go_at_call 106; refine (RFind_is a L 0 l.length at_ r _ (HLE.out ▸ (HS.out.step (by repeat (first | exact Below.refl _ _ | apply below_alloc | apply pw_below_drewN | apply below_drew1))).now.2.2.1) HCH.out h0 h1 hln HF.out).mono ?_; rintro e w' ⟨rfl, rfl⟩) | (go_at_call 107; refine (RLine_ok a L (r : Int) _ (HLE.out ▸ (HS.out.step (by repeat (first | exact Below.refl _ _ | apply below_alloc | apply pw_below_drewN | apply below_drew1))).now.2.2.1) (by omega) (by omega) hln).mono ?_; rintro e w2 ⟨rfl, hb⟩; rw [← HX.out]; have m_ := Aside0.mk (HS.out.call (by repeat (first | exact Below.refl _ _ | apply below_alloc | apply pw_below_drewN | apply below_drew1)) hb); clear HS hb ; have HS := m_; clear m_))
  have tc := two_cells w2 x.f0 x.f1 x.f2 44
  obtain ⟨b9, hb9⟩ : ∃ b9, b9 = w2.heap.size + 1 := ⟨_, rfl⟩
  rw [← hb9] at tc
  have m_ := Aside0.mk ((HS.out.step (below_alloc (below_alloc (Below.refl _ w2) (.cells #[.int .i64 x.f0, .int .i64 x.f2] 44)) (.cells #[.int .i64 x.f0, .int .i64 x.f1] 44))).add (show SpBox _ b9 x from ⟨tc.2.2.1, tc.2.2.2⟩) (keeps_sp _ _))
  clear HS tc
  have HS := m_
  clear m_
  simp only [← hb9]
  clear hb9
  go_loopw [11] (fun s11 W => ∃ n : Int, s11 = .int .i64 n ∧ x.f0 ≤ n ∧ n ≤ x.f1 ∧ n ≤ at_ ∧ Aside0 (∃ p q, p ++ q = rs ∧ sz p = n - x.f0 ∧ Cs ((l.take x.f1.toNat).drop n.toNat) q) ∧ Aside0 (Sta w W (fun W => SpBox W b9 x ∧ Kd.C (Kd.int .u8) W B sg.length sg ∧ IsBlk W w.heap.size (.cells #[.int .i64 0, .int .i64 0] 25) ∧ RMapAt W m a A c l))) (fun s11 _ => (x.f1 - intOf s11).toNat)
  case atStart => exact ⟨x.f0, rfl, Int.le_refl _, x1, hfl, ⟨[], rs, rfl, by simp [sz], HR.out⟩, HS⟩
  case round =>
    clear HS
    obtain ⟨n, rfl, m0, m1, m2, HPQ, HS⟩ := hrel
    obtain ⟨p, q, hpq, hp, hcq⟩ := HPQ.out
    have s0 : wr.cell? ⟨b9, 0, none⟩ = some (.int .i64 x.f0) := HS.out.now.1.1
    have s1 : wr.cell? ⟨b9, 1, none⟩ = some (.int .i64 x.f1) := HS.out.now.1.2
    have cm : wr.cell? ⟨m, 0, none⟩ = some (.slice A l.length c) := HS.out.now.2.2.2.2.2.cell 0
    by_cases hlt2 : n < x.f1
    · obtain ⟨xx, q2, e, hx1, hx2, ⟨d1, hd⟩, hcq'⟩ := rest_next l hB x.f1 n q (by omega) hlt2 x2 hcq
      have hD := RDecode_f hB (i := n) (by omega) (by omega) (Nat.le_refl 61)
      rw [hd] at hD
      have HD := Aside0.mk hD
      have hw := w64 (n + xx.1) (by omega) (by omega)
      obtain ⟨z, hz⟩ : ∃ z, z = xx.1 := ⟨_, rfl⟩
      by_cases hgt : at_ < n + z
      · have hst := flo_stop (p := p) (q := q) (at_ - x.f0) (by rw [hpq]; exact HG.out) (by omega) (fun y q3 e3 => by rw [e] at e3; cases e3; omega)
        rw [hpq, HFE.out] at hst
        have hst2 : n = nn := by omega
        rw [← hz] at HD hx1 hx2 hw
        clear hpq hp hcq hd hcq' e hD hz HPQ hst hnn
        have e9 : n = nn := by omega
        subst e9
        go_upto_region 10 with (go_at_call 82; refine (colophonref01_Decode.calls 61 A c l n _ _ _ _ (HS.out.step (by repeat (first | exact Below.refl _ _ | apply below_alloc | apply pw_below_drewN | apply below_drew1))).now.2.2.2.2.1 HC.out HD.out).mono ?_; rintro e w3 ⟨rfl, hb⟩; have m_ := Aside0.mk (HS.out.call (by repeat (first | exact Below.refl _ _ | apply below_alloc | apply pw_below_drewN | apply below_drew1)) hb); clear HS hb ; have HS := m_; clear m_; have s0 : w3.cell? ⟨b9, 0, none⟩ = some (.int .i64 x.f0) := HS.out.now.1.1; have s1 : w3.cell? ⟨b9, 1, none⟩ = some (.int .i64 x.f1) := HS.out.now.1.2; have cm : w3.cell? ⟨m, 0, none⟩ = some (.slice A l.length c) := HS.out.now.2.2.2.2.2.cell 0)
        go_cut [15, 16] from 17 (fun s15 s16 W => s15 = .int .i64 uu ∧ s16 = .int .i64 0 ∧ Aside0 (Sta w W (fun W => SpBox W b9 x ∧ Kd.C (Kd.int .u8) W B sg.length sg ∧ IsBlk W w.heap.size (.cells #[.int .i64 0, .int .i64 0] 25) ∧ RMapAt W m a A c l)))
        case first =>
          go_region_held3 (fun wx => wx.cell? ⟨m, 0, none⟩ = some (.slice A l.length c) ∧ wx.cell? ⟨b9, 0, none⟩ = some (.int .i64 x.f0)) (go_keep) (first | (go_at_call 108; refine (colophonref02_Of.calls _ B d sg uu 0 _ (HS.out.step (by repeat (first | exact Below.refl _ _ | apply below_alloc | apply pw_below_drewN | apply below_drew1))).now.2.1 HSD.out HOF.out).mono ?_; rintro e w4 ⟨rfl, hb⟩; have m_ := Aside0.mk (HS.out.call (by repeat (first | exact Below.refl _ _ | apply below_alloc | apply pw_below_drewN | apply below_drew1)) hb); clear HS hb ; have HS := m_; clear m_; have s0 : w4.cell? ⟨b9, 0, none⟩ = some (.int .i64 x.f0) := HS.out.now.1.1; have s1 : w4.cell? ⟨b9, 1, none⟩ = some (.int .i64 x.f1) := HS.out.now.1.2; have cm : w4.cell? ⟨m, 0, none⟩ = some (.slice A l.length c) := HS.out.now.2.2.2.2.2.cell 0))
          go_wp2
          go_meet
          exact ⟨rfl, rfl, HS⟩
        case rest =>
          clear HS
          obtain ⟨rfl, rfl, HS⟩ := hcut
          have k0 := HS.out.now.2.2.1.cell 0
          have k1 := HS.out.now.2.2.1.cell 1
          have k2 := HS.out.now.2.2.1.frozen 0
          have k3 := HS.out.now.2.2.1.frozen 1
          go_wp2
          refine bodyPost_ret (v := .tuple #[.agg #[.int .i64 r, .int .i64 uu], .int .i64 0]) (by simp [results, Try.results83, go_sem, *]) rfl ⟨rfl, ?_⟩
          have hS := HS.out.bel
          repeat (first | exact hS | apply below_alloc | apply pw_below_drewN | apply below_drew1 | refine Below.setCell ?_ (by simp) _)
      · have HN := Aside0.mk (show ∃ p q, p ++ q = rs ∧ sz p = (n + xx.1) - x.f0 ∧ Cs ((l.take x.f1.toNat).drop (n + xx.1).toNat) q from ⟨p ++ [xx], q2, by rw [← hpq, e, List.append_assoc]; rfl, by rw [sz_app2, hp]; simp only [sz]; omega, hcq'⟩)
        rw [← hz] at HN HD hx1 hx2 hw
        clear hpq hp hcq hd hcq' e hD hz HPQ hnn hn0 hn1 hcut
        go_wp2_with (go_at_call 82; refine (colophonref01_Decode.calls 61 A c l n _ _ _ _ (HS.out.step (by repeat (first | exact Below.refl _ _ | apply below_alloc | apply pw_below_drewN | apply below_drew1))).now.2.2.2.2.1 HC.out HD.out).mono ?_; rintro e w3 ⟨rfl, hb⟩; have m_ := Aside0.mk (HS.out.call (by repeat (first | exact Below.refl _ _ | apply below_alloc | apply pw_below_drewN | apply below_drew1)) hb); clear HS hb ; have HS := m_; clear m_; have s0 : w3.cell? ⟨b9, 0, none⟩ = some (.int .i64 x.f0) := HS.out.now.1.1; have s1 : w3.cell? ⟨b9, 1, none⟩ = some (.int .i64 x.f1) := HS.out.now.1.2; have cm : w3.cell? ⟨m, 0, none⟩ = some (.slice A l.length c) := HS.out.now.2.2.2.2.2.cell 0)
        go_roundw
        case measure => simp [intOf]; omega
        case rel => exact ⟨n + z, by simp [hw], by omega, by omega, by omega, HN, HS⟩
    · have hq0 : q = [] := sz_zero (fun y hy => HG.out y (by rw [← hpq]; simp [hy])) (by have := sz_app2 p q; rw [hpq] at this; omega)
      have hst := flo_stop (p := p) (q := q) (at_ - x.f0) (by rw [hpq]; exact HG.out) (by omega) (fun y q3 e3 => by rw [hq0] at e3; cases e3)
      rw [hpq, HFE.out] at hst
      have hst2 : n = nn := by omega
      clear hpq hp hcq HPQ hst hnn hq0
      have e9 : n = nn := by omega
      subst e9
      go_upto_region 10 with (go_at_call 82; refine (colophonref01_Decode.calls 61 A c l n _ _ _ _ (HS.out.step (by repeat (first | exact Below.refl _ _ | apply below_alloc | apply pw_below_drewN | apply below_drew1))).now.2.2.2.2.1 HC.out HD.out).mono ?_; rintro e w3 ⟨rfl, hb⟩; have m_ := Aside0.mk (HS.out.call (by repeat (first | exact Below.refl _ _ | apply below_alloc | apply pw_below_drewN | apply below_drew1)) hb); clear HS hb ; have HS := m_; clear m_; have s0 : w3.cell? ⟨b9, 0, none⟩ = some (.int .i64 x.f0) := HS.out.now.1.1; have s1 : w3.cell? ⟨b9, 1, none⟩ = some (.int .i64 x.f1) := HS.out.now.1.2; have cm : w3.cell? ⟨m, 0, none⟩ = some (.slice A l.length c) := HS.out.now.2.2.2.2.2.cell 0)
      go_cut [15, 16] from 17 (fun s15 s16 W => s15 = .int .i64 uu ∧ s16 = .int .i64 0 ∧ Aside0 (Sta w W (fun W => SpBox W b9 x ∧ Kd.C (Kd.int .u8) W B sg.length sg ∧ IsBlk W w.heap.size (.cells #[.int .i64 0, .int .i64 0] 25) ∧ RMapAt W m a A c l)))
      case first =>
        go_region_held3 (fun wx => wx.cell? ⟨m, 0, none⟩ = some (.slice A l.length c) ∧ wx.cell? ⟨b9, 0, none⟩ = some (.int .i64 x.f0)) (go_keep) (first | (go_at_call 108; refine (colophonref02_Of.calls _ B d sg uu 0 _ (HS.out.step (by repeat (first | exact Below.refl _ _ | apply below_alloc | apply pw_below_drewN | apply below_drew1))).now.2.1 HSD.out HOF.out).mono ?_; rintro e w4 ⟨rfl, hb⟩; have m_ := Aside0.mk (HS.out.call (by repeat (first | exact Below.refl _ _ | apply below_alloc | apply pw_below_drewN | apply below_drew1)) hb); clear HS hb ; have HS := m_; clear m_; have s0 : w4.cell? ⟨b9, 0, none⟩ = some (.int .i64 x.f0) := HS.out.now.1.1; have s1 : w4.cell? ⟨b9, 1, none⟩ = some (.int .i64 x.f1) := HS.out.now.1.2; have cm : w4.cell? ⟨m, 0, none⟩ = some (.slice A l.length c) := HS.out.now.2.2.2.2.2.cell 0))
        go_wp2
        go_meet
        exact ⟨rfl, rfl, HS⟩
      case rest =>
        clear HS
        obtain ⟨rfl, rfl, HS⟩ := hcut
        have k0 := HS.out.now.2.2.1.cell 0
        have k1 := HS.out.now.2.2.1.cell 1
        have k2 := HS.out.now.2.2.1.frozen 0
        have k3 := HS.out.now.2.2.1.frozen 1
        go_wp2
        refine bodyPost_ret (v := .tuple #[.agg #[.int .i64 r, .int .i64 uu], .int .i64 0]) (by simp [results, Try.results83, go_sem, *]) rfl ⟨rfl, ?_⟩
        have hS := HS.out.bel
        repeat (first | exact hS | apply below_alloc | apply pw_below_drewN | apply below_drew1 | refine Below.setCell ?_ (by simp) _)
theorem RPos_is (m : Nat) (l : List Int) (at_ : Int) (w : World) (hM : IsRMap w m l) (hs : l.length ≤ 1048576) (hB : Bytes l) (hv : V l) (h0 : 0 ≤ at_) (h1 : at_ ≤ l.length) :
    Calls Try.prog 83 #[.pointer (some ⟨m, 0, none⟩), .int .i64 at_] w fun e w' => e = .returned (.tuple #[.agg #[.int .i64 (fnd l at_), .int .i64 (pch l at_)], .int .i64 0]) ∧ Below w.heap.size w w' :=
  RPos_ok m l at_ (fnd l at_) w hM hs hB hv h0 h1 (fnd_is l at_)
theorem ROff_is (m : Nat) (l : List Int) (line char : Int) (w : World) (hM : IsRMap w m l) (hs : l.length ≤ 1048576) (hB : Bytes l) (hv : V l) (h0 : 0 ≤ line) (h1 : 0 ≤ char) (h1b : char ≤ 9223372036854775807) :
    Calls Try.prog 84 #[.pointer (some ⟨m, 0, none⟩), .agg #[.int .i64 line, .int .i64 char]] w fun e w' => e = .returned (.tuple #[.int .i64 (poff l line char), .int .i64 0]) ∧ Below w.heap.size w w' := by
  unfold poff
  by_cases h : ((lns l 0 0).length : Int) ≤ line
  · rw [if_pos h]
    exact ROff_far m l line char w hM h0 h1 h
  · rw [if_neg h]
    exact ROff_in m l line char w hM hs hB hv h0 h1 h1b (by omega)
end Go.Proofs.Ytjebkpcekkkbkaa.B

/-
  Plain laws of places: how great a place may be.
-/
namespace Go.Proofs.Ytjebkpcekkkbkaa.B
open Go.RowKit Go.Shelf Go.Proofs Go.Proofs.YtjebkpcekkkbkaaW.PrintWords Go.Proofs.YtjebkpcekkkbkaaW.PrintLast Go.Proofs.YtjebkpcekkkbkaaW.PrintMore Go.Proofs.Ytjebkpcekkkbkaa.FBase
theorem un_le : ∀ {r : List (Int × Int)}, Good r → un r ≤ 2 * sz r
  | [], _ => by simp [un, sz]
  | x :: r, h => by have := h.head; have := un_le h.tail; simp only [un, sz]; omega
theorem pch_range (l : List Int) (hB : Bytes l) (hv : V l) (n : Int) : 0 ≤ pch l n ∧ pch l n ≤ 2 * l.length := by
  have h := (fnd_is l n).1
  obtain ⟨a, b, c, _, g, hsz⟩ := line_is l hB hv _ h
  have h1 := ufl_range (n - (rdLn (lns l 0 0) (fnd l n : Nat)).f0) g
  have h2 := un_le g
  unfold pch
  omega
end Go.Proofs.Ytjebkpcekkkbkaa.B

/-
  edit and its reference: what Span, Range, is answer.
-/
namespace Go.Proofs.Ytjebkpcekkkbkaa.B
open Go.RowKit Go.Shelf Go.Proofs Go.Proofs.YtjebkpcekkkbkaaW.PrintWords Go.Proofs.YtjebkpcekkkbkaaW.PrintLast Go.Proofs.YtjebkpcekkkbkaaW.PrintMore Go.Proofs.Ytjebkpcekkkbkaa.FBase
theorem IsRMap.below {W W1 : World} {m : Nat} {l : List Int} (h : IsRMap W m l) (hb : Below W.heap.size W W1) : IsRMap W1 m l := keeps_rmap m l W W1 h hb
noncomputable def msp (l : List Int) (x0 x1 x2 x3 : Int) : Int × Int × Int :=
  if x0 < 0 ∨ x1 < 0 then (0, 0, 9) else if x2 < 0 ∨ x3 < 0 then (0, 0, 9) else if poff l x2 x3 < poff l x0 x1 then (0, 0, 2) else (poff l x0 x1, poff l x2 x3, 0)
theorem esp_msp (l : List Int) (x0 x1 x2 x3 : Int) : ((msp l x0 x1 x2 x3).2.2 = 2 → esp l false x0 x1 x2 x3 = (0, 0, 150)) ∧ ((msp l x0 x1 x2 x3).2.2 ≠ 2 → esp l false x0 x1 x2 x3 = msp l x0 x1 x2 x3) ∧ ((msp l x0 x1 x2 x3).2.2 ≠ 0 → (msp l x0 x1 x2 x3).1 = 0 ∧ (msp l x0 x1 x2 x3).2.1 = 0) := by
  unfold msp esp
  by_cases c1 : x0 < 0 ∨ x1 < 0
  · simp [c1]
  · by_cases c2 : x2 < 0 ∨ x3 < 0
    · simp [c1, c2]
    · by_cases c3 : poff l x2 x3 < poff l x0 x1 <;> simp [c1, c2, c3]
noncomputable def isPb (l : List Int) (n : Int) : Bool := poff l (fnd l n) (pch l n) == n
theorem isPb_iff (l : List Int) (n : Int) : isPb l n = true ↔ IsP l n := by
  unfold isPb IsP
  exact beq_iff_eq
theorem MSpan_is (m : Nat) (l : List Int) (x0 x1 x2 x3 : Int) (w : World) (hM : IsMap w m l) (hs : l.length ≤ 1048576) (hB : Bytes l) (hv : V l) (h1 : x1 ≤ 9223372036854775807) (h3 : x3 ≤ 9223372036854775807) :
    Calls Try.prog 26 #[.pointer (some ⟨m, 0, none⟩), .agg #[.int .i64 x0, .int .i64 x1, .int .i64 x2, .int .i64 x3]] w fun e w' => e = .returned (.tuple #[.agg #[.int .i64 (msp l x0 x1 x2 x3).1, .int .i64 (msp l x0 x1 x2 x3).2.1], .int .i64 (msp l x0 x1 x2 x3).2.2]) ∧ Below w.heap.size w w' := by
  unfold msp
  by_cases c1 : x0 < 0 ∨ x1 < 0
  · rw [if_pos c1]
    exact MSpan_e1 _ x0 x1 x2 x3 0 9 w (fun W hW => MOffset_neg m l x0 x1 W (IsMap.below hM hW) c1) (by decide)
  · rw [if_neg c1]
    by_cases c2 : x2 < 0 ∨ x3 < 0
    · rw [if_pos c2]
      exact MSpan_e2 _ x0 x1 x2 x3 _ 0 9 w (fun W hW => MOffset_is m l x0 x1 W (IsMap.below hM hW) hs hB hv (by omega) (by omega) h1) (fun W hW => MOffset_neg m l x2 x3 W (IsMap.below hM hW) c2) (by decide)
    · rw [if_neg c2]
      by_cases c3 : poff l x2 x3 < poff l x0 x1
      · rw [if_pos c3]
        exact MSpan_rev _ x0 x1 x2 x3 _ _ w (fun W hW => MOffset_is m l x0 x1 W (IsMap.below hM hW) hs hB hv (by omega) (by omega) h1) (fun W hW => MOffset_is m l x2 x3 W (IsMap.below hM hW) hs hB hv (by omega) (by omega) h3) c3
      · rw [if_neg c3]
        exact MSpan_ok _ x0 x1 x2 x3 _ _ w (fun W hW => MOffset_is m l x0 x1 W (IsMap.below hM hW) hs hB hv (by omega) (by omega) h1) (fun W hW => MOffset_is m l x2 x3 W (IsMap.below hM hW) hs hB hv (by omega) (by omega) h3) (Int.not_lt.1 c3)
theorem MRange_is (m : Nat) (l : List Int) (n k : Int) (w : World) (hM : IsMap w m l) (hs : l.length ≤ 1048576) (hB : Bytes l) (hv : V l) (h0 : 0 ≤ n) (h1 : n ≤ k) (h2 : k ≤ l.length) :
    Calls Try.prog 53 #[.pointer (some ⟨m, 0, none⟩), .agg #[.int .i64 n, .int .i64 k]] w fun e w' => e = .returned (.tuple #[.agg #[.int .i64 (fnd l n), .int .i64 (pch l n), .int .i64 (fnd l k), .int .i64 (pch l k)], .int .i64 0]) ∧ Below w.heap.size w w' :=
  MRange_ok _ n k _ _ _ _ w (fun W hW => MPos_is m l n W (IsMap.below hM hW) hs hB hv h0 (by omega)) (fun W hW => MPos_is m l k W (IsMap.below hM hW) hs hB hv (by omega) h2) h1
theorem RRange_is (m : Nat) (l : List Int) (n k : Int) (w : World) (hM : IsRMap w m l) (hs : l.length ≤ 1048576) (hB : Bytes l) (hv : V l) (h0 : 0 ≤ n) (h1 : n ≤ k) (h2 : k ≤ l.length) :
    Calls Try.prog 57 #[.pointer (some ⟨m, 0, none⟩), .agg #[.int .i64 n, .int .i64 k]] w fun e w' => e = .returned (.tuple #[.agg #[.int .i64 (fnd l n), .int .i64 (pch l n), .int .i64 (fnd l k), .int .i64 (pch l k)], .int .i64 0]) ∧ Below w.heap.size w w' :=
  RRange_ok _ n k _ _ _ _ w (fun W hW => RPos_is m l n W (IsRMap.below hM hW) hs hB hv h0 (by omega)) (fun W hW => RPos_is m l k W (IsRMap.below hM hW) hs hB hv (by omega) h2) h1
set_option maxRecDepth 100000 in
set_option maxHeartbeats 1000000 in
theorem Mis_is (m : Nat) (l : List Int) (n : Int) (w : World) (hM : IsMap w m l) (hs : l.length ≤ 1048576) (hB : Bytes l) (hv : V l) (h0 : 0 ≤ n) (h1 : n ≤ l.length) :
    Calls Try.prog 52 #[.pointer (some ⟨m, 0, none⟩), .int .i64 n] w fun e w' => e = .returned (.bool (isPb l n)) ∧ Below w.heap.size w w' := by
  have HS := Aside0.mk ((Sta.start w).only hM (keeps_map _ _))
  have HBY := Aside0.mk hB
  have HV := Aside0.mk hv
  have hp := pch_range l hB hv n
  have hu : isPb l n = (poff l (fnd l n) (pch l n) == n) := rfl
  obtain ⟨a, ha⟩ : ∃ a : Int, (fnd l n : Int) = a := ⟨_, rfl⟩
  obtain ⟨ca, hca⟩ : ∃ ca, pch l n = ca := ⟨_, rfl⟩
  have a0 : 0 ≤ a := by omega
  rw [ha, hca] at hu
  rw [hca] at hp
  obtain ⟨o, ho⟩ : ∃ o, poff l a ca = o := ⟨_, rfl⟩
  rw [ho] at hu
  rw [hu]
  obtain ⟨ca0, ca2⟩ := hp
  have ca1 : ca ≤ 9223372036854775807 := by omega
  have HA := Aside0.mk ha
  have HCA := Aside0.mk hca
  have HO := Aside0.mk ho
  clear hM hB hv hu ha hca ho
  go_enter Try.func52, Try.ntmps52
  go_wp2_with (first | (go_at_call 80; refine (MPos_is m l n _ (HS.out.step (by repeat (first | exact Below.refl _ _ | apply below_alloc | apply pw_below_drewN | apply below_drew1))).now hs HBY.out HV.out h0 h1).mono ?_; rintro e w1 ⟨rfl, hb⟩; rw [HA.out, HCA.out]; have m_ := Aside0.mk (HS.out.call (by repeat (first | exact Below.refl _ _ | apply below_alloc | apply pw_below_drewN | apply below_drew1)) hb); clear HS hb ; have HS := m_; clear m_) | (go_at_call 62; refine (MOffset_is m l a ca _ (HS.out.step (by repeat (first | exact Below.refl _ _ | apply below_alloc | apply pw_below_drewN | apply below_drew1))).now hs HBY.out HV.out a0 ca0 ca1).mono ?_; rintro e w2 ⟨rfl, hb⟩; rw [HO.out]; have m_ := Aside0.mk (HS.out.call (by repeat (first | exact Below.refl _ _ | apply below_alloc | apply pw_below_drewN | apply below_drew1)) hb); clear HS hb ; have HS := m_; clear m_))
  go_ret
  exact ⟨rfl, (HS.out.step (by repeat (first | exact Below.refl _ _ | apply below_alloc | apply pw_below_drewN | apply below_drew1))).bel⟩
set_option maxRecDepth 100000 in
set_option maxHeartbeats 1000000 in
theorem Ris_is (m : Nat) (l : List Int) (n : Int) (w : World) (hM : IsRMap w m l) (hs : l.length ≤ 1048576) (hB : Bytes l) (hv : V l) (h0 : 0 ≤ n) (h1 : n ≤ l.length) :
    Calls Try.prog 56 #[.pointer (some ⟨m, 0, none⟩), .int .i64 n] w fun e w' => e = .returned (.bool (isPb l n)) ∧ Below w.heap.size w w' := by
  have HS := Aside0.mk ((Sta.start w).only hM (keeps_rmap _ _))
  have HBY := Aside0.mk hB
  have HV := Aside0.mk hv
  have hp := pch_range l hB hv n
  have hu : isPb l n = (poff l (fnd l n) (pch l n) == n) := rfl
  obtain ⟨a, ha⟩ : ∃ a : Int, (fnd l n : Int) = a := ⟨_, rfl⟩
  obtain ⟨ca, hca⟩ : ∃ ca, pch l n = ca := ⟨_, rfl⟩
  have a0 : 0 ≤ a := by omega
  rw [ha, hca] at hu
  rw [hca] at hp
  obtain ⟨o, ho⟩ : ∃ o, poff l a ca = o := ⟨_, rfl⟩
  rw [ho] at hu
  rw [hu]
  obtain ⟨ca0, ca2⟩ := hp
  have ca1 : ca ≤ 9223372036854775807 := by omega
  have HA := Aside0.mk ha
  have HCA := Aside0.mk hca
  have HO := Aside0.mk ho
  clear hM hB hv hu ha hca ho
  go_enter Try.func56, Try.ntmps56
  go_wp2_with (first | (go_at_call 83; refine (RPos_is m l n _ (HS.out.step (by repeat (first | exact Below.refl _ _ | apply below_alloc | apply pw_below_drewN | apply below_drew1))).now hs HBY.out HV.out h0 h1).mono ?_; rintro e w1 ⟨rfl, hb⟩; rw [HA.out, HCA.out]; have m_ := Aside0.mk (HS.out.call (by repeat (first | exact Below.refl _ _ | apply below_alloc | apply pw_below_drewN | apply below_drew1)) hb); clear HS hb ; have HS := m_; clear m_) | (go_at_call 84; refine (ROff_is m l a ca _ (HS.out.step (by repeat (first | exact Below.refl _ _ | apply below_alloc | apply pw_below_drewN | apply below_drew1))).now hs HBY.out HV.out a0 ca0 ca1).mono ?_; rintro e w2 ⟨rfl, hb⟩; rw [HO.out]; have m_ := Aside0.mk (HS.out.call (by repeat (first | exact Below.refl _ _ | apply below_alloc | apply pw_below_drewN | apply below_drew1)) hb); clear HS hb ; have HS := m_; clear m_))
  go_ret
  exact ⟨rfl, (HS.out.step (by repeat (first | exact Below.refl _ _ | apply below_alloc | apply pw_below_drewN | apply below_drew1))).bel⟩
end Go.Proofs.Ytjebkpcekkkbkaa.B
