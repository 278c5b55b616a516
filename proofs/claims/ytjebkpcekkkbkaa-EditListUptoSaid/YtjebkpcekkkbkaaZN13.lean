/-
  Chapter 15's statements: works.
-/
import Derived.RangeFuncNested
import Derived.RangeFuncBound
import Derived.RangeFuncCalls
import Derived.RangeFuncLeaves
import Derived.RangeFuncBox
import Derived.Shelf.Abstract
import Derived.Shelf.RegionOpen
import Derived.OwnWalkIn
import Derived.TacticsInMore
import Derived.LoopNIn
import Derived.LoopIn
import Derived.Test.YtjebkpcekkkbkaaProg
import Derived.Below
import Derived.Deep.Draws
import Derived.Deep.AppendLies
import Derived.Maps.AppendAt
import Derived.OwnWalk
import Derived.Laws.BytesArg
import Derived.Laws.MakeOwn
import Derived.Laws.OwnMore
import Derived.Deep.OwnRows
import Derived.Tactics
import Derived.Lib.ConvBytes
import Derived.Laws.Slices
import Derived.WalkKit
import Derived.KernelRfl
import Derived.RowKit3
import Derived.Deep.LoopGhost
import Derived.Deep.QuietTactic
import Derived.BigQuiet
import Derived.WideLaws
import Derived.Deep.DeepCutAuto
import Derived.Deep.CutBlock
import Derived.Deep.RegionHeld3
import Derived.Laws.Rows
import Derived.Lib.AppendStr
import Derived.ArgAppend
import Derived.Laws.IdiomCopy
import Derived.OrdersHeld
import Derived.Laws.BitsLemmas
import Derived.RowKit
import Derived.Test.YtjebkpcekkkbkaaWWords
import Derived.Test.YtjebkpcekkkbkaaWLast
import Derived.Test.YtjebkpcekkkbkaaWTab
import Derived.Test.YtjebkpcekkkbkaaWFour
import Derived.Test.YtjebkpcekkkbkaaWQPut
import Derived.Test.YtjebkpcekkkbkaaWApart
import Derived.Test.YtjebkpcekkkbkaaWArr
import Derived.Test.YtjebkpcekkkbkaaWZeros
import Derived.Test.YtjebkpcekkkbkaaWFoot
import Derived.Test.YtjebkpcekkkbkaaWKept
import Derived.Test.YtjebkpcekkkbkaaWShare
import Derived.Test.YtjebkpcekkkbkaaWN
import Derived.Test.YtjebkpcekkkbkaaWFootNe
import Derived.Test.YtjebkpcekkkbkaaWAt
import Derived.Test.YtjebkpcekkkbkaaWEqStruct
import Derived.Test.YtjebkpcekkkbkaaWRepsOne
import Derived.Test.YtjebkpcekkkbkaaWInv
import Derived.Test.YtjebkpcekkkbkaaWInvWords
import Derived.Test.YtjebkpcekkkbkaaWGuard
import Derived.Test.YtjebkpcekkkbkaaWNEv
import Derived.Test.YtjebkpcekkkbkaaWMore
import Derived.Deep.DeepFit
import Derived.Test.YtjebkpcekkkbkaaBulk
import Derived.ChangeShapes
import Derived.WalkMore
import Derived.WalkSpells
import Derived.Deep.CutRange
import Derived.IntWalk
import Derived.Lib.SlBytesConst
import Derived.Test.YtjebkpcekkkbkaaZN134
set_option linter.unusedSimpArgs false
set_option linter.unusedVariables false
/-
  Chapter 15's statements: what they share.
-/
namespace Go.Proofs.Ytjebkpcekkkbkaa.B
open Go.RowKit Go.Shelf Go.Proofs Go.Proofs.YtjebkpcekkkbkaaW.PrintWords Go.Proofs.YtjebkpcekkkbkaaW.PrintLast Go.Proofs.YtjebkpcekkkbkaaW.PrintMore Go.Proofs.Ytjebkpcekkkbkaa.FBase
set_option linter.unusedVariables false
set_option linter.unusedSimpArgs false

theorem One_at (A : Option Addr) (c : Nat) (l : List Int) (n : Nat) (hn1 : l.length = n) (wh : Bool) (x0 x1 x2 x3 : Int) (s : ByteArray) (w : World) (hr : Kd.C (Kd.int .u8) w A n l) (hc : n ≤ c) (hn : A = none → c = 0) (hB : Bytes l) (hs : n ≤ 1048576) (hs2 : s.size ≤ 140737488351232) (hx1 : x1 ≤ 9223372036854775807) (hx3 : x3 ≤ 9223372036854775807) :
    Calls Try.prog 23 #[.slice A n c, .agg #[.bool wh, .int .i64 x0, .int .i64 x1, .int .i64 x2, .int .i64 x3, .string s]] w fun e w' => ∃ v : Value, e = .returned (.tuple #[v, .int .i64 (ech l (bytesOf s) wh x0 x1 x2 x3).2.2.2]) ∧ Kd.R (Kd.int .u8) 5 w' w.heap.size (fun _ => True) v (ech l (bytesOf s) wh x0 x1 x2 x3).2.2.1 ∧ Below w.heap.size w w' := by
  subst hn1
  exact One_is A c l wh x0 x1 x2 x3 s w hr hc hn hB hs hs2 hx1 hx3

set_option maxRecDepth 100000 in
set_option maxHeartbeats 2000000 in
/-- makes, where it holds. -/
theorem makes_ok (sb s want : ByteArray) (wh : Bool) (x0 x1 x2 x3 : Int) (w : World) (hs : sb.size ≤ 1048576) (hs2 : s.size ≤ 140737488351232) (hx1 : x1 ≤ 9223372036854775807) (hx3 : x3 ≤ 9223372036854775807) (her : (ech (bytesOf sb) (bytesOf s) wh x0 x1 x2 x3).2.2.2 = 0) (hwa : strOfNums (ech (bytesOf sb) (bytesOf s) wh x0 x1 x2 x3).2.2.1 = want) :
    Calls Try.prog 32 #[.string sb, .agg #[.bool wh, .int .i64 x0, .int .i64 x1, .int .i64 x2, .int .i64 x3, .string s], .string want] w fun e w' => e = .returned (.bool true) ∧ Below w.heap.size w w' := by
  have HS := Aside0.mk ((Sta.start w).step (below_alloc (Below.refl _ w) (.cells #[.bool wh, .int .i64 x0, .int .i64 x1, .int .i64 x2, .int .i64 x3, .string s] 29)))
  have c0 : (w.alloc (.cells #[.bool wh, .int .i64 x0, .int .i64 x1, .int .i64 x2, .int .i64 x3, .string s] 29)).cell? ⟨w.heap.size, 0, none⟩ = some (.bool wh) := (blk_cell (blk_new w _) 0).trans rfl
  have c1 : (w.alloc (.cells #[.bool wh, .int .i64 x0, .int .i64 x1, .int .i64 x2, .int .i64 x3, .string s] 29)).cell? ⟨w.heap.size, 1, none⟩ = some (.int .i64 x0) := (blk_cell (blk_new w _) 1).trans rfl
  have c2 : (w.alloc (.cells #[.bool wh, .int .i64 x0, .int .i64 x1, .int .i64 x2, .int .i64 x3, .string s] 29)).cell? ⟨w.heap.size, 2, none⟩ = some (.int .i64 x1) := (blk_cell (blk_new w _) 2).trans rfl
  have c3 : (w.alloc (.cells #[.bool wh, .int .i64 x0, .int .i64 x1, .int .i64 x2, .int .i64 x3, .string s] 29)).cell? ⟨w.heap.size, 3, none⟩ = some (.int .i64 x2) := (blk_cell (blk_new w _) 3).trans rfl
  have c4 : (w.alloc (.cells #[.bool wh, .int .i64 x0, .int .i64 x1, .int .i64 x2, .int .i64 x3, .string s] 29)).cell? ⟨w.heap.size, 4, none⟩ = some (.int .i64 x3) := (blk_cell (blk_new w _) 4).trans rfl
  have c5 : (w.alloc (.cells #[.bool wh, .int .i64 x0, .int .i64 x1, .int .i64 x2, .int .i64 x3, .string s] 29)).cell? ⟨w.heap.size, 5, none⟩ = some (.string s) := (blk_cell (blk_new w _) 5).trans rfl
  have d0 : (Lib.bytesWorld (w.alloc (.cells #[.bool wh, .int .i64 x0, .int .i64 x1, .int .i64 x2, .int .i64 x3, .string s] 29)) 5 sb).cell? ⟨w.heap.size, 0, none⟩ = some (.bool wh) := cell_below c0 (bytes_step (Below.refl _ _))
  have d1 : (Lib.bytesWorld (w.alloc (.cells #[.bool wh, .int .i64 x0, .int .i64 x1, .int .i64 x2, .int .i64 x3, .string s] 29)) 5 sb).cell? ⟨w.heap.size, 1, none⟩ = some (.int .i64 x0) := cell_below c1 (bytes_step (Below.refl _ _))
  have d2 : (Lib.bytesWorld (w.alloc (.cells #[.bool wh, .int .i64 x0, .int .i64 x1, .int .i64 x2, .int .i64 x3, .string s] 29)) 5 sb).cell? ⟨w.heap.size, 2, none⟩ = some (.int .i64 x1) := cell_below c2 (bytes_step (Below.refl _ _))
  have d3 : (Lib.bytesWorld (w.alloc (.cells #[.bool wh, .int .i64 x0, .int .i64 x1, .int .i64 x2, .int .i64 x3, .string s] 29)) 5 sb).cell? ⟨w.heap.size, 3, none⟩ = some (.int .i64 x2) := cell_below c3 (bytes_step (Below.refl _ _))
  have d4 : (Lib.bytesWorld (w.alloc (.cells #[.bool wh, .int .i64 x0, .int .i64 x1, .int .i64 x2, .int .i64 x3, .string s] 29)) 5 sb).cell? ⟨w.heap.size, 4, none⟩ = some (.int .i64 x3) := cell_below c4 (bytes_step (Below.refl _ _))
  have d5 : (Lib.bytesWorld (w.alloc (.cells #[.bool wh, .int .i64 x0, .int .i64 x1, .int .i64 x2, .int .i64 x3, .string s] 29)) 5 sb).cell? ⟨w.heap.size, 5, none⟩ = some (.string s) := cell_below c5 (bytes_step (Below.refl _ _))
  have kb := fun W : World => print_bytes (P := Try.prog) 9 22 5 Try.underlying9 Try.underlying22 Try.underlying5 sb W
  obtain ⟨out, hout⟩ : ∃ o, (ech (bytesOf sb) (bytesOf s) wh x0 x1 x2 x3).2.2.1 = o := ⟨_, rfl⟩
  rw [hout] at hwa
  have HB1 := Aside0.mk (bytesOf_B sb)
  have HER := Aside0.mk her
  have HEO := Aside0.mk hout
  have HWA := Aside0.mk hwa
  clear her hout hwa
  go_enter Try.func32, Try.ntmps32
  go_wp2_with (go_at_call 23; refine (One_at _ _ (bytesOf sb) sb.size (bytesOf_length sb) wh x0 x1 x2 x3 s _ (bytes_at _ _ sb _ (by simp) (by omega)) (grownCap_ge _ _ _ _) (fun e => nomatch e) HB1.out hs hs2 hx1 hx3).mono ?_; rintro e w1 ⟨v, rfl, hR, hb⟩; rw [HER.out]; rw [HEO.out] at hR; obtain ⟨A2, cc2, rfl, hl2, hn2, hC2⟩ := Ap.read (.inr hR); have ks := Kd.C_string (P := Try.prog) (w := w1) (src := 22) (dst := 9) (e := 5) (c := cc2) Try.underlying22 Try.underlying5 Try.underlying9 hC2; rw [HWA.out] at ks; clear hR hl2 hn2 hC2; have m_ := Aside0.mk (HS.out.call (by repeat (first | exact Below.refl _ _ | apply below_alloc | apply pw_below_drewN | apply below_drew1 | apply bytes_step)) hb); clear HS hb ; have HS := m_; clear m_)
  go_ret
  exact ⟨rfl, (HS.out.step (by repeat (first | exact Below.refl _ _ | apply below_alloc | apply pw_below_drewN | apply below_drew1 | apply bytes_step))).bel⟩

theorem abc_lns : lns [97, 10, 98, 10, 99] 0 0 = [⟨0, 1, 2⟩, ⟨2, 3, 4⟩, ⟨4, 5, 5⟩] := by simp [lns]
theorem abc_B : Bytes [97, 10, 98, 10, 99] := by intro x hx; simp at hx; omega
theorem abc_V : V [97, 10, 98, 10, 99] := (csF_ok 40 (r := [(1, 1), (1, 1), (1, 1), (1, 1), (1, 1)]) (by decide +kernel)).v
theorem abc_chk : (chk [97, 10, 98, 10, 99]).2 = 0 := (chk_V abc_B).2 abc_V
theorem abc_cs0 : Cs (seg [97, 10, 98, 10, 99] ⟨0, 1, 2⟩) [(1, 1)] := csF_ok 40 (by decide +kernel)
theorem abc_cs1 : Cs (seg [97, 10, 98, 10, 99] ⟨2, 3, 4⟩) [(1, 1)] := csF_ok 40 (by decide +kernel)
theorem abc_cs2 : Cs (seg [97, 10, 98, 10, 99] ⟨4, 5, 5⟩) [(1, 1)] := csF_ok 40 (by decide +kernel)
theorem axyc_lns : lns [97, 10, 120, 121, 10, 99] 0 0 = [⟨0, 1, 2⟩, ⟨2, 4, 5⟩, ⟨5, 6, 6⟩] := by simp [lns]
theorem axyc_cs1 : Cs (seg [97, 10, 120, 121, 10, 99] ⟨2, 4, 5⟩) [(1, 1), (1, 1)] := csF_ok 40 (by decide +kernel)
theorem abc_at_1_0 : poff [97, 10, 98, 10, 99] 1 0 = 2 := by rw [poff_of abc_lns]; first | (rw [if_pos (by decide)]; rfl) | (rw [if_neg (by decide), show rdLn [⟨0, 1, 2⟩, ⟨2, 3, 4⟩, ⟨4, 5, 5⟩] 1 = ⟨2, 3, 4⟩ from rfl, chars_is abc_cs1]; rfl)
theorem abc_at_1_1 : poff [97, 10, 98, 10, 99] 1 1 = 3 := by rw [poff_of abc_lns]; first | (rw [if_pos (by decide)]; rfl) | (rw [if_neg (by decide), show rdLn [⟨0, 1, 2⟩, ⟨2, 3, 4⟩, ⟨4, 5, 5⟩] 1 = ⟨2, 3, 4⟩ from rfl, chars_is abc_cs1]; rfl)
theorem abc_at_0_5 : poff [97, 10, 98, 10, 99] 0 5 = 1 := by rw [poff_of abc_lns]; first | (rw [if_pos (by decide)]; rfl) | (rw [if_neg (by decide), show rdLn [⟨0, 1, 2⟩, ⟨2, 3, 4⟩, ⟨4, 5, 5⟩] 0 = ⟨0, 1, 2⟩ from rfl, chars_is abc_cs0]; rfl)
theorem abc_at_2_0 : poff [97, 10, 98, 10, 99] 2 0 = 4 := by rw [poff_of abc_lns]; first | (rw [if_pos (by decide)]; rfl) | (rw [if_neg (by decide), show rdLn [⟨0, 1, 2⟩, ⟨2, 3, 4⟩, ⟨4, 5, 5⟩] 2 = ⟨4, 5, 5⟩ from rfl, chars_is abc_cs2]; rfl)
theorem abc_of_2 : fnd [97, 10, 98, 10, 99] 2 = (1 : Nat) ∧ pch [97, 10, 98, 10, 99] 2 = 0 := by
  have h : fnd [97, 10, 98, 10, 99] 2 = 1 := fnd_eq (by rw [abc_lns]; exact findB_ok (by decide))
  refine ⟨h, ?_⟩
  unfold pch
  rw [h, abc_lns, show rdLn [⟨0, 1, 2⟩, ⟨2, 3, 4⟩, ⟨4, 5, 5⟩] ((1 : Nat) : Int) = ⟨2, 3, 4⟩ from rfl, chars_is abc_cs1]
  rfl
theorem abc_of_3 : fnd [97, 10, 98, 10, 99] 3 = (1 : Nat) ∧ pch [97, 10, 98, 10, 99] 3 = 1 := by
  have h : fnd [97, 10, 98, 10, 99] 3 = 1 := fnd_eq (by rw [abc_lns]; exact findB_ok (by decide))
  refine ⟨h, ?_⟩
  unfold pch
  rw [h, abc_lns, show rdLn [⟨0, 1, 2⟩, ⟨2, 3, 4⟩, ⟨4, 5, 5⟩] ((1 : Nat) : Int) = ⟨2, 3, 4⟩ from rfl, chars_is abc_cs1]
  rfl
theorem abc_is_2 : isPb [97, 10, 98, 10, 99] 2 = true := by
  unfold isPb
  rw [abc_of_2.1, abc_of_2.2]
  exact beq_iff_eq.mpr abc_at_1_0
theorem abc_is_3 : isPb [97, 10, 98, 10, 99] 3 = true := by
  unfold isPb
  rw [abc_of_3.1, abc_of_3.2]
  exact beq_iff_eq.mpr abc_at_1_1
theorem axyc_at_1_0 : poff [97, 10, 120, 121, 10, 99] 1 0 = 2 := by rw [poff_of axyc_lns]; first | (rw [if_pos (by decide)]; rfl) | (rw [if_neg (by decide), show rdLn [⟨0, 1, 2⟩, ⟨2, 4, 5⟩, ⟨5, 6, 6⟩] 1 = ⟨2, 4, 5⟩ from rfl, chars_is axyc_cs1]; rfl)
theorem axyc_at_1_2 : poff [97, 10, 120, 121, 10, 99] 1 2 = 4 := by rw [poff_of axyc_lns]; first | (rw [if_pos (by decide)]; rfl) | (rw [if_neg (by decide), show rdLn [⟨0, 1, 2⟩, ⟨2, 4, 5⟩, ⟨5, 6, 6⟩] 1 = ⟨2, 4, 5⟩ from rfl, chars_is axyc_cs1]; rfl)
theorem axyc_of_2 : fnd [97, 10, 120, 121, 10, 99] 2 = (1 : Nat) ∧ pch [97, 10, 120, 121, 10, 99] 2 = 0 := by
  have h : fnd [97, 10, 120, 121, 10, 99] 2 = 1 := fnd_eq (by rw [axyc_lns]; exact findB_ok (by decide))
  refine ⟨h, ?_⟩
  unfold pch
  rw [h, axyc_lns, show rdLn [⟨0, 1, 2⟩, ⟨2, 4, 5⟩, ⟨5, 6, 6⟩] ((1 : Nat) : Int) = ⟨2, 4, 5⟩ from rfl, chars_is axyc_cs1]
  rfl
theorem axyc_of_4 : fnd [97, 10, 120, 121, 10, 99] 4 = (1 : Nat) ∧ pch [97, 10, 120, 121, 10, 99] 4 = 2 := by
  have h : fnd [97, 10, 120, 121, 10, 99] 4 = 1 := fnd_eq (by rw [axyc_lns]; exact findB_ok (by decide))
  refine ⟨h, ?_⟩
  unfold pch
  rw [h, axyc_lns, show rdLn [⟨0, 1, 2⟩, ⟨2, 4, 5⟩, ⟨5, 6, 6⟩] ((1 : Nat) : Int) = ⟨2, 4, 5⟩ from rfl, chars_is axyc_cs1]
  rfl
theorem axyc_is_2 : isPb [97, 10, 120, 121, 10, 99] 2 = true := by
  unfold isPb
  rw [axyc_of_2.1, axyc_of_2.2]
  exact beq_iff_eq.mpr axyc_at_1_0
theorem axyc_is_4 : isPb [97, 10, 120, 121, 10, 99] 4 = true := by
  unfold isPb
  rw [axyc_of_4.1, axyc_of_4.2]
  exact beq_iff_eq.mpr axyc_at_1_2
end Go.Proofs.Ytjebkpcekkkbkaa.B

namespace Go.Proofs.Ytjebkpcekkkbkaa.B
open Go.RowKit Go.Shelf Go.Proofs Go.Proofs.YtjebkpcekkkbkaaW.PrintWords Go.Proofs.YtjebkpcekkkbkaaW.PrintLast Go.Proofs.YtjebkpcekkkbkaaW.PrintMore Go.Proofs.Ytjebkpcekkkbkaa.FBase
set_option linter.unusedVariables false
set_option linter.unusedSimpArgs false

/-- []byte("..") of a constant. -/
theorem lit_mark (W : World) (g : Nat) (l : List Int) (cs : Array Value) (t : TypeId) (fr : Nat × Nat) (hg : W.heap.size = g) (hcs : cs.toList = l.map (Value.int .u8)) (hn : l.length ≤ 9223372036854775807) : Kd.C (Kd.int .u8) (W.alloc (.cells cs t fr)) (some ⟨g, 0, none⟩) l.length l := by
  subst hg
  refine Kd.C_of_reads (d := 0) ⟨rfl, hn, fun _ => ⟨_, rfl, fun j hj => ?_⟩⟩
  rw [show (⟨W.heap.size, 0, none⟩ : Addr).add j = ⟨W.heap.size, j, none⟩ by simp [Addr.add]; omega, cell_of_row _ _ j cs t fr (blk_new W _), ← Array.getElem?_toList, hcs]
  simp [List.getD, hj]
theorem conv_lit (w : World) (C : Array Value) (n c : Nat) : (convert 22 22 (.slice (some ⟨w.heap.size, 0, none⟩) n c)).run Try.prog (w.alloc (.cells C 5)) = .ok (.slice (some ⟨w.heap.size, 0, none⟩) n c) (w.alloc (.cells C 5 (C.size, C.size + 1))) :=
  Lib.run_convert_bytes_const (P := Try.prog) w 22 5 C n c Try.underlying22 Try.underlying5
theorem conv_lit2 (w : World) (o : Obj) (C : Array Value) (n c : Nat) : (convert 22 22 (.slice (some ⟨w.heap.size + 1, 0, none⟩) n c)).run Try.prog ((w.alloc o).alloc (.cells C 5)) = .ok (.slice (some ⟨w.heap.size + 1, 0, none⟩) n c) ((w.alloc o).alloc (.cells C 5 (C.size, C.size + 1))) := by
  have h := conv_lit (w.alloc o) C n c
  rw [World.size_alloc] at h
  exact h
theorem conv_lit3 (w : World) (o o' : Obj) (C : Array Value) (n c : Nat) : (convert 22 22 (.slice (some ⟨w.heap.size + 1 + 1, 0, none⟩) n c)).run Try.prog (((w.alloc o).alloc o').alloc (.cells C 5)) = .ok (.slice (some ⟨w.heap.size + 1 + 1, 0, none⟩) n c) (((w.alloc o).alloc o').alloc (.cells C 5 (C.size, C.size + 1))) := by
  have h := conv_lit2 (w.alloc o) o' C n c
  rw [World.size_alloc] at h
  exact h

theorem works_e1 : ech [97, 10, 98, 10, 99] (bytesOf ⟨#[120, 121]⟩) false 1 0 1 1 = (2, 3, [97, 10, 120, 121, 10, 99], 0) := by
  have hb : bytesOf ⟨#[120, 121]⟩ = [120, 121] := rfl
  have hx : (chk [120, 121]).2 = 0 := by decide +kernel
  rw [hb, ech_ok abc_chk hx (esp_at (by decide) (by decide) (by decide) (by decide) abc_at_1_0 abc_at_1_1 (by decide)) (by decide)]
  rfl
theorem works_e2 : ech [97, 10, 98, 10, 99] (bytesOf ⟨#[]⟩) false 0 5 2 0 = (1, 4, [97, 99], 0) := by
  have hb : bytesOf ⟨#[]⟩ = [] := rfl
  rw [hb, ech_ok abc_chk rfl (esp_at (by decide) (by decide) (by decide) (by decide) abc_at_0_5 abc_at_2_0 (by decide)) (by decide)]
  rfl
theorem works_m1 (w : World) : Calls Try.prog 32 #[.string ⟨#[97, 10, 98, 10, 99]⟩, .agg #[.bool false, .int .i64 1, .int .i64 0, .int .i64 1, .int .i64 1, .string ⟨#[120, 121]⟩], .string ⟨#[97, 10, 120, 121, 10, 99]⟩] w fun e w' => e = .returned (.bool true) ∧ Below w.heap.size w w' :=
  makes_ok ⟨#[97, 10, 98, 10, 99]⟩ ⟨#[120, 121]⟩ ⟨#[97, 10, 120, 121, 10, 99]⟩ false 1 0 1 1 w (by decide) (by decide) (by decide) (by decide)
    (by rw [show bytesOf ⟨#[97, 10, 98, 10, 99]⟩ = [97, 10, 98, 10, 99] from rfl, works_e1]) (by rw [show bytesOf ⟨#[97, 10, 98, 10, 99]⟩ = [97, 10, 98, 10, 99] from rfl, works_e1]; rfl)
theorem works_m2 (w : World) : Calls Try.prog 32 #[.string ⟨#[97, 10, 98, 10, 99]⟩, .agg #[.bool false, .int .i64 0, .int .i64 5, .int .i64 2, .int .i64 0, .string ⟨#[]⟩], .string ⟨#[97, 99]⟩] w fun e w' => e = .returned (.bool true) ∧ Below w.heap.size w w' :=
  makes_ok ⟨#[97, 10, 98, 10, 99]⟩ ⟨#[]⟩ ⟨#[97, 99]⟩ false 0 5 2 0 w (by decide) (by decide) (by decide) (by decide)
    (by rw [show bytesOf ⟨#[97, 10, 98, 10, 99]⟩ = [97, 10, 98, 10, 99] from rfl, works_e2]) (by rw [show bytesOf ⟨#[97, 10, 98, 10, 99]⟩ = [97, 10, 98, 10, 99] from rfl, works_e2]; rfl)
theorem works_B3 : Bytes [97, 10, 66, 10, 99] := by intro x hx; simp at hx; omega
theorem works_back (g : Nat) (w : World) (hr : Kd.C (Kd.int .u8) w (some ⟨g, 0, none⟩) 5 [97, 10, 98, 10, 99]) :
    Calls Try.prog 24 #[.slice (some ⟨g, 0, none⟩) 5 5, .agg #[.bool false, .int .i64 1, .int .i64 0, .int .i64 1, .int .i64 1, .string ⟨#[120, 121]⟩]] w fun e w' => e = .returned (.tuple #[.agg #[.bool false, .int .i64 1, .int .i64 0, .int .i64 1, .int .i64 2, .string ⟨#[98]⟩], .int .i64 0]) ∧ Below w.heap.size w w' := by
  have h := Back_ok (some ⟨g, 0, none⟩) 5 [97, 10, 98, 10, 99] false 1 0 1 1 ⟨#[120, 121]⟩ w hr (by decide) (fun e => nomatch e) abc_B (by decide) (by decide) (by decide) (by decide) rfl (by rw [works_e1]) (by rw [works_e1]; exact axyc_is_2) (by rw [works_e1]; exact axyc_is_4)
  rw [works_e1] at h
  have e1 : ((2 : Int) + (({ data := #[120, 121] } : ByteArray).size : Int)) = 4 := rfl
  simp only [e1] at h
  rw [axyc_of_2.1, axyc_of_2.2, axyc_of_4.1, axyc_of_4.2] at h
  exact h
theorem works_dif : IsDiff [97, 10, 98, 10, 99] [97, 10, 66, 10, 99] 2 2 := by
  refine ⟨(isPb_iff _ _).1 abc_is_2, by decide, by decide, rfl, fun n h1 h2 h3 h4 => ?_, (isPb_iff _ _).1 abc_is_3, rfl, fun n h1 h2 h3 h4 => ?_⟩
  · have : n = 3 ∨ n = 4 ∨ n = 5 := by simp at h2; omega
    rcases this with rfl | rfl | rfl <;> exact absurd h4 (by decide)
  · have : n = 3 := by simp at h2; omega
    subst this
    exact absurd h4 (by decide)
theorem works_diff (g g' : Nat) (w : World) (hr : Kd.C (Kd.int .u8) w (some ⟨g, 0, none⟩) 5 [97, 10, 98, 10, 99]) (hr2 : Kd.C (Kd.int .u8) w (some ⟨g', 0, none⟩) 5 [97, 10, 66, 10, 99]) :
    Calls Try.prog 18 #[.slice (some ⟨g, 0, none⟩) 5 5, .slice (some ⟨g', 0, none⟩) 5 5] w fun e w' => e = .returned (.tuple #[.agg #[.bool false, .int .i64 1, .int .i64 0, .int .i64 1, .int .i64 1, .string ⟨#[66]⟩], .int .i64 0]) ∧ Below w.heap.size w w' := by
  have h3 : (chk [97, 10, 66, 10, 99]).2 = 0 := by decide +kernel
  refine (Diff_ok (some ⟨g, 0, none⟩) (some ⟨g', 0, none⟩) 5 5 [97, 10, 98, 10, 99] [97, 10, 66, 10, 99] w hr (by decide) hr2 (by decide) (fun e => nomatch e) abc_B works_B3 (by decide) (by decide) abc_chk h3 (by decide)).mono ?_
  rintro e w' ⟨⟨f, t, hd, rfl⟩, hb⟩
  obtain ⟨rfl, rfl⟩ := hd.uniq works_dif
  refine ⟨?_, hb⟩
  have e2 : ((([97, 10, 98, 10, 99] : List Int).length - 2 : Nat) : Int) = 3 := rfl
  rw [e2]
  have a1 := abc_of_2.1
  have a2 := abc_of_2.2
  have a3 := abc_of_3.1
  have a4 := abc_of_3.2
  rw [show ((2 : Nat) : Int) = 2 from rfl, a1, a2, a3, a4]
  rfl

set_option maxRecDepth 100000 in
set_option maxHeartbeats 4000000 in
theorem works15_ok (w : World) : Calls Try.prog 21 #[] w fun e w' => e = .returned (.bool true) ∧ Below w.heap.size w w' := by
  have HS := Aside0.mk (Sta.start w)
  have t1 := True.intro
  go_enter Try.func21, Try.ntmps21
  have kc := conv_lit
  have kc2 := conv_lit2
  have kc3 := conv_lit3
  go_upto_region 3 with (first | (have _t := t1; go_at_call 30; refine (colophonlaw15_at.calls 1 0 1 1 ⟨#[120, 121]⟩ _ _ _ _ _ _ _ rfl).mono ?_; rintro e w1 ⟨rfl, hb⟩; have hL := Kd.C_below (lit_mark w _ [97, 10, 98, 10, 99] #[.int .u8 97, .int .u8 10, .int .u8 98, .int .u8 10, .int .u8 99] 5 (5, 6) rfl rfl (by decide)) hb; have m_ := Aside0.mk ((HS.out.call (by repeat (first | exact Below.refl _ _ | apply below_alloc | apply pw_below_drewN | apply below_drew1 | apply bytes_step)) hb).add hL (keeps_C _ _ _ _)); clear HS hb hL; have HS := m_; clear m_; clear t1 _t) | (go_at_call 24; refine (works_back _ _ (HS.out.step (by repeat (first | exact Below.refl _ _ | apply below_alloc | apply pw_below_drewN | apply below_drew1 | apply bytes_step))).now.1).mono ?_; rintro e w2 ⟨rfl, hb⟩; have m_ := Aside0.mk (HS.out.call (by repeat (first | exact Below.refl _ _ | apply below_alloc | apply pw_below_drewN | apply below_drew1 | apply bytes_step)) hb); clear HS hb ; have HS := m_; clear m_) | (go_at_call 18; refine (works_diff _ _ _ (Kd.C_below (lit_mark (w2.alloc (.cells #[.bool false, .int .i64 1, .int .i64 0, .int .i64 1, .int .i64 2, .string ⟨#[98]⟩] 29)) _ [97, 10, 98, 10, 99] #[.int .u8 97, .int .u8 10, .int .u8 98, .int .u8 10, .int .u8 99] 5 (5, 6) (by simp) rfl (by decide)) (below_alloc (Below.refl _ _) _)) (lit_mark _ _ [97, 10, 66, 10, 99] #[.int .u8 97, .int .u8 10, .int .u8 66, .int .u8 10, .int .u8 99] 5 (5, 6) (by simp) rfl (by decide))).mono ?_; rintro e w3 ⟨rfl, hb⟩; have hbx := IsBlk.below (IsBlk.below (IsBlk.below (blk_new w2 (.cells #[.bool false, .int .i64 1, .int .i64 0, .int .i64 1, .int .i64 2, .string ⟨#[98]⟩] 29)) (below_alloc (Below.refl _ _) _)) (below_alloc (Below.refl _ _) _)) hb; have m_ := Aside0.mk ((HS.out.call (by repeat (first | exact Below.refl _ _ | apply below_alloc | apply pw_below_drewN | apply below_drew1 | apply bytes_step)) hb).add hbx (keeps_blk _ _)); clear HS hb hbx; have HS := m_; clear m_))
  have m_ := Aside0.mk ((HS.out.step (below_alloc (Below.refl _ w3) (.cells #[.bool false, .int .i64 1, .int .i64 0, .int .i64 1, .int .i64 1, .string ⟨#[66]⟩] 29))).add (blk_new w3 (.cells #[.bool false, .int .i64 1, .int .i64 0, .int .i64 1, .int .i64 1, .string ⟨#[66]⟩] 29)) (keeps_blk _ _))
  clear HS kc kc2 kc3
  have HS := m_
  clear m_
  generalize w3.alloc (.cells #[.bool false, .int .i64 1, .int .i64 0, .int .i64 1, .int .i64 1, .string ⟨#[66]⟩] 29) = W5 at HS ⊢
  generalize w3.heap.size = g3 at HS ⊢
  generalize w2.heap.size = g1 at HS ⊢
  have p0 : W5.cell? ⟨g1, 0, none⟩ = some (.bool false) := HS.out.now.2.1.cell 0
  have q0 : W5.cell? ⟨g3, 0, none⟩ = some (.bool false) := HS.out.now.1.cell 0
  have p1 : W5.cell? ⟨g1, 1, none⟩ = some (.int .i64 1) := HS.out.now.2.1.cell 1
  have q1 : W5.cell? ⟨g3, 1, none⟩ = some (.int .i64 1) := HS.out.now.1.cell 1
  have p2 : W5.cell? ⟨g1, 2, none⟩ = some (.int .i64 0) := HS.out.now.2.1.cell 2
  have q2 : W5.cell? ⟨g3, 2, none⟩ = some (.int .i64 0) := HS.out.now.1.cell 2
  have p3 : W5.cell? ⟨g1, 3, none⟩ = some (.int .i64 1) := HS.out.now.2.1.cell 3
  have q3 : W5.cell? ⟨g3, 3, none⟩ = some (.int .i64 1) := HS.out.now.1.cell 3
  have p4 : W5.cell? ⟨g1, 4, none⟩ = some (.int .i64 2) := HS.out.now.2.1.cell 4
  have q4 : W5.cell? ⟨g3, 4, none⟩ = some (.int .i64 1) := HS.out.now.1.cell 4
  have p5 : W5.cell? ⟨g1, 5, none⟩ = some (.string ⟨#[98]⟩) := HS.out.now.2.1.cell 5
  have q5 : W5.cell? ⟨g3, 5, none⟩ = some (.string ⟨#[66]⟩) := HS.out.now.1.cell 5
  have t2 := True.intro
  have t3 := True.intro
  have t4 := True.intro
  have t5 := True.intro
  have t6 := True.intro
  have t7 := True.intro
  have q1_ : ∀ W : World, (binOp .eql 29 (.agg #[.bool false, .int .i64 1, .int .i64 0, .int .i64 1, .int .i64 2, .string ⟨#[98]⟩]) (.agg #[.bool false, .int .i64 1, .int .i64 0, .int .i64 1, .int .i64 2, .string ⟨#[98]⟩])).run Try.prog W = .ok (.bool true) W := fun _ => by kernel_rfl
  have q3_ : ∀ W : World, (binOp .eql 29 (.agg #[.bool false, .int .i64 1, .int .i64 0, .int .i64 1, .int .i64 1, .string ⟨#[66]⟩]) (.agg #[.bool false, .int .i64 1, .int .i64 0, .int .i64 1, .int .i64 1, .string ⟨#[66]⟩])).run Try.prog W = .ok (.bool true) W := fun _ => by kernel_rfl
  go_region_held3 (fun wx => wx.cell? ⟨g1, 0, none⟩ = some (.bool false) ∧ wx.cell? ⟨g1, 1, none⟩ = some (.int .i64 1) ∧ wx.cell? ⟨g1, 2, none⟩ = some (.int .i64 0) ∧ wx.cell? ⟨g1, 3, none⟩ = some (.int .i64 1) ∧ wx.cell? ⟨g1, 4, none⟩ = some (.int .i64 2) ∧ wx.cell? ⟨g1, 5, none⟩ = some (.string ⟨#[98]⟩) ∧ wx.cell? ⟨g3, 0, none⟩ = some (.bool false) ∧ wx.cell? ⟨g3, 1, none⟩ = some (.int .i64 1) ∧ wx.cell? ⟨g3, 2, none⟩ = some (.int .i64 0) ∧ wx.cell? ⟨g3, 3, none⟩ = some (.int .i64 1) ∧ wx.cell? ⟨g3, 4, none⟩ = some (.int .i64 1) ∧ wx.cell? ⟨g3, 5, none⟩ = some (.string ⟨#[66]⟩)) (go_keep) (first | (have _t := t2; go_at_call 30; refine (colophonlaw15_at.calls 1 0 1 1 ⟨#[120, 121]⟩ _ _ _ _ _ _ _ rfl).mono ?_; rintro e w6 ⟨rfl, hb⟩; have m_ := Aside0.mk (HS.out.call (by repeat (first | exact Below.refl _ _ | apply below_alloc | apply pw_below_drewN | apply below_drew1 | apply bytes_step)) hb); clear HS hb ; have HS := m_; clear m_; have p0 : w6.cell? ⟨g1, 0, none⟩ = some (.bool false) := HS.out.now.2.1.cell 0; have q0 : w6.cell? ⟨g3, 0, none⟩ = some (.bool false) := HS.out.now.1.cell 0; have p1 : w6.cell? ⟨g1, 1, none⟩ = some (.int .i64 1) := HS.out.now.2.1.cell 1; have q1 : w6.cell? ⟨g3, 1, none⟩ = some (.int .i64 1) := HS.out.now.1.cell 1; have p2 : w6.cell? ⟨g1, 2, none⟩ = some (.int .i64 0) := HS.out.now.2.1.cell 2; have q2 : w6.cell? ⟨g3, 2, none⟩ = some (.int .i64 0) := HS.out.now.1.cell 2; have p3 : w6.cell? ⟨g1, 3, none⟩ = some (.int .i64 1) := HS.out.now.2.1.cell 3; have q3 : w6.cell? ⟨g3, 3, none⟩ = some (.int .i64 1) := HS.out.now.1.cell 3; have p4 : w6.cell? ⟨g1, 4, none⟩ = some (.int .i64 2) := HS.out.now.2.1.cell 4; have q4 : w6.cell? ⟨g3, 4, none⟩ = some (.int .i64 1) := HS.out.now.1.cell 4; have p5 : w6.cell? ⟨g1, 5, none⟩ = some (.string ⟨#[98]⟩) := HS.out.now.2.1.cell 5; have q5 : w6.cell? ⟨g3, 5, none⟩ = some (.string ⟨#[66]⟩) := HS.out.now.1.cell 5; clear t2 _t) | (have _t := t3; go_at_call 32; refine (works_m1 _).mono ?_; rintro e w6 ⟨rfl, hb⟩; have m_ := Aside0.mk (HS.out.call (by repeat (first | exact Below.refl _ _ | apply below_alloc | apply pw_below_drewN | apply below_drew1 | apply bytes_step)) hb); clear HS hb ; have HS := m_; clear m_; have p0 : w6.cell? ⟨g1, 0, none⟩ = some (.bool false) := HS.out.now.2.1.cell 0; have q0 : w6.cell? ⟨g3, 0, none⟩ = some (.bool false) := HS.out.now.1.cell 0; have p1 : w6.cell? ⟨g1, 1, none⟩ = some (.int .i64 1) := HS.out.now.2.1.cell 1; have q1 : w6.cell? ⟨g3, 1, none⟩ = some (.int .i64 1) := HS.out.now.1.cell 1; have p2 : w6.cell? ⟨g1, 2, none⟩ = some (.int .i64 0) := HS.out.now.2.1.cell 2; have q2 : w6.cell? ⟨g3, 2, none⟩ = some (.int .i64 0) := HS.out.now.1.cell 2; have p3 : w6.cell? ⟨g1, 3, none⟩ = some (.int .i64 1) := HS.out.now.2.1.cell 3; have q3 : w6.cell? ⟨g3, 3, none⟩ = some (.int .i64 1) := HS.out.now.1.cell 3; have p4 : w6.cell? ⟨g1, 4, none⟩ = some (.int .i64 2) := HS.out.now.2.1.cell 4; have q4 : w6.cell? ⟨g3, 4, none⟩ = some (.int .i64 1) := HS.out.now.1.cell 4; have p5 : w6.cell? ⟨g1, 5, none⟩ = some (.string ⟨#[98]⟩) := HS.out.now.2.1.cell 5; have q5 : w6.cell? ⟨g3, 5, none⟩ = some (.string ⟨#[66]⟩) := HS.out.now.1.cell 5; clear t3 _t) | (have _t := t4; go_at_call 30; refine (colophonlaw15_at.calls 0 5 2 0 ⟨#[]⟩ _ _ _ _ _ _ _ rfl).mono ?_; rintro e w6 ⟨rfl, hb⟩; have m_ := Aside0.mk (HS.out.call (by repeat (first | exact Below.refl _ _ | apply below_alloc | apply pw_below_drewN | apply below_drew1 | apply bytes_step)) hb); clear HS hb ; have HS := m_; clear m_; have p0 : w6.cell? ⟨g1, 0, none⟩ = some (.bool false) := HS.out.now.2.1.cell 0; have q0 : w6.cell? ⟨g3, 0, none⟩ = some (.bool false) := HS.out.now.1.cell 0; have p1 : w6.cell? ⟨g1, 1, none⟩ = some (.int .i64 1) := HS.out.now.2.1.cell 1; have q1 : w6.cell? ⟨g3, 1, none⟩ = some (.int .i64 1) := HS.out.now.1.cell 1; have p2 : w6.cell? ⟨g1, 2, none⟩ = some (.int .i64 0) := HS.out.now.2.1.cell 2; have q2 : w6.cell? ⟨g3, 2, none⟩ = some (.int .i64 0) := HS.out.now.1.cell 2; have p3 : w6.cell? ⟨g1, 3, none⟩ = some (.int .i64 1) := HS.out.now.2.1.cell 3; have q3 : w6.cell? ⟨g3, 3, none⟩ = some (.int .i64 1) := HS.out.now.1.cell 3; have p4 : w6.cell? ⟨g1, 4, none⟩ = some (.int .i64 2) := HS.out.now.2.1.cell 4; have q4 : w6.cell? ⟨g3, 4, none⟩ = some (.int .i64 1) := HS.out.now.1.cell 4; have p5 : w6.cell? ⟨g1, 5, none⟩ = some (.string ⟨#[98]⟩) := HS.out.now.2.1.cell 5; have q5 : w6.cell? ⟨g3, 5, none⟩ = some (.string ⟨#[66]⟩) := HS.out.now.1.cell 5; clear t4 _t) | (have _t := t5; go_at_call 32; refine (works_m2 _).mono ?_; rintro e w6 ⟨rfl, hb⟩; have m_ := Aside0.mk (HS.out.call (by repeat (first | exact Below.refl _ _ | apply below_alloc | apply pw_below_drewN | apply below_drew1 | apply bytes_step)) hb); clear HS hb ; have HS := m_; clear m_; have p0 : w6.cell? ⟨g1, 0, none⟩ = some (.bool false) := HS.out.now.2.1.cell 0; have q0 : w6.cell? ⟨g3, 0, none⟩ = some (.bool false) := HS.out.now.1.cell 0; have p1 : w6.cell? ⟨g1, 1, none⟩ = some (.int .i64 1) := HS.out.now.2.1.cell 1; have q1 : w6.cell? ⟨g3, 1, none⟩ = some (.int .i64 1) := HS.out.now.1.cell 1; have p2 : w6.cell? ⟨g1, 2, none⟩ = some (.int .i64 0) := HS.out.now.2.1.cell 2; have q2 : w6.cell? ⟨g3, 2, none⟩ = some (.int .i64 0) := HS.out.now.1.cell 2; have p3 : w6.cell? ⟨g1, 3, none⟩ = some (.int .i64 1) := HS.out.now.2.1.cell 3; have q3 : w6.cell? ⟨g3, 3, none⟩ = some (.int .i64 1) := HS.out.now.1.cell 3; have p4 : w6.cell? ⟨g1, 4, none⟩ = some (.int .i64 2) := HS.out.now.2.1.cell 4; have q4 : w6.cell? ⟨g3, 4, none⟩ = some (.int .i64 1) := HS.out.now.1.cell 4; have p5 : w6.cell? ⟨g1, 5, none⟩ = some (.string ⟨#[98]⟩) := HS.out.now.2.1.cell 5; have q5 : w6.cell? ⟨g3, 5, none⟩ = some (.string ⟨#[66]⟩) := HS.out.now.1.cell 5; clear t5 _t) | (have _t := t6; go_at_call 30; refine (colophonlaw15_at.calls 1 0 1 2 ⟨#[98]⟩ _ _ _ _ _ _ _ rfl).mono ?_; rintro e w6 ⟨rfl, hb⟩; have m_ := Aside0.mk (HS.out.call (by repeat (first | exact Below.refl _ _ | apply below_alloc | apply pw_below_drewN | apply below_drew1 | apply bytes_step)) hb); clear HS hb ; have HS := m_; clear m_; have p0 : w6.cell? ⟨g1, 0, none⟩ = some (.bool false) := HS.out.now.2.1.cell 0; have q0 : w6.cell? ⟨g3, 0, none⟩ = some (.bool false) := HS.out.now.1.cell 0; have p1 : w6.cell? ⟨g1, 1, none⟩ = some (.int .i64 1) := HS.out.now.2.1.cell 1; have q1 : w6.cell? ⟨g3, 1, none⟩ = some (.int .i64 1) := HS.out.now.1.cell 1; have p2 : w6.cell? ⟨g1, 2, none⟩ = some (.int .i64 0) := HS.out.now.2.1.cell 2; have q2 : w6.cell? ⟨g3, 2, none⟩ = some (.int .i64 0) := HS.out.now.1.cell 2; have p3 : w6.cell? ⟨g1, 3, none⟩ = some (.int .i64 1) := HS.out.now.2.1.cell 3; have q3 : w6.cell? ⟨g3, 3, none⟩ = some (.int .i64 1) := HS.out.now.1.cell 3; have p4 : w6.cell? ⟨g1, 4, none⟩ = some (.int .i64 2) := HS.out.now.2.1.cell 4; have q4 : w6.cell? ⟨g3, 4, none⟩ = some (.int .i64 1) := HS.out.now.1.cell 4; have p5 : w6.cell? ⟨g1, 5, none⟩ = some (.string ⟨#[98]⟩) := HS.out.now.2.1.cell 5; have q5 : w6.cell? ⟨g3, 5, none⟩ = some (.string ⟨#[66]⟩) := HS.out.now.1.cell 5; clear t6 _t) | (have _t := t7; go_at_call 30; refine (colophonlaw15_at.calls 1 0 1 1 ⟨#[66]⟩ _ _ _ _ _ _ _ rfl).mono ?_; rintro e w6 ⟨rfl, hb⟩; have m_ := Aside0.mk (HS.out.call (by repeat (first | exact Below.refl _ _ | apply below_alloc | apply pw_below_drewN | apply below_drew1 | apply bytes_step)) hb); clear HS hb ; have HS := m_; clear m_; have p0 : w6.cell? ⟨g1, 0, none⟩ = some (.bool false) := HS.out.now.2.1.cell 0; have q0 : w6.cell? ⟨g3, 0, none⟩ = some (.bool false) := HS.out.now.1.cell 0; have p1 : w6.cell? ⟨g1, 1, none⟩ = some (.int .i64 1) := HS.out.now.2.1.cell 1; have q1 : w6.cell? ⟨g3, 1, none⟩ = some (.int .i64 1) := HS.out.now.1.cell 1; have p2 : w6.cell? ⟨g1, 2, none⟩ = some (.int .i64 0) := HS.out.now.2.1.cell 2; have q2 : w6.cell? ⟨g3, 2, none⟩ = some (.int .i64 0) := HS.out.now.1.cell 2; have p3 : w6.cell? ⟨g1, 3, none⟩ = some (.int .i64 1) := HS.out.now.2.1.cell 3; have q3 : w6.cell? ⟨g3, 3, none⟩ = some (.int .i64 1) := HS.out.now.1.cell 3; have p4 : w6.cell? ⟨g1, 4, none⟩ = some (.int .i64 2) := HS.out.now.2.1.cell 4; have q4 : w6.cell? ⟨g3, 4, none⟩ = some (.int .i64 1) := HS.out.now.1.cell 4; have p5 : w6.cell? ⟨g1, 5, none⟩ = some (.string ⟨#[98]⟩) := HS.out.now.2.1.cell 5; have q5 : w6.cell? ⟨g3, 5, none⟩ = some (.string ⟨#[66]⟩) := HS.out.now.1.cell 5; clear t7 _t))
  go_wp2
  go_ret
  exact ⟨rfl, (HS.out.step (by repeat (first | exact Below.refl _ _ | apply below_alloc | apply pw_below_drewN | apply below_drew1 | apply bytes_step))).bel⟩
end Go.Proofs.Ytjebkpcekkkbkaa.B
