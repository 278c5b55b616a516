/-
  The row of EditDiff, in its full form: for every input the call answers true, and the input reads as it did.
-/
import Derived.RangeFuncNested
import Derived.RangeFuncBound
import Derived.RangeFuncCalls
import Derived.RangeFuncLeaves
import Derived.RangeFuncBox
import Derived.Shelf.Abstract
import Derived.Shelf.RegionOpen
import Derived.OwnWalkIn
import Derived.TacticsInMore
import Derived.LoopNIn
import Derived.LoopIn
import Derived.Test.YtjebkpcekkkbkaaProg
import Derived.Below
import Derived.Deep.Draws
import Derived.Deep.AppendLies
import Derived.Maps.AppendAt
import Derived.OwnWalk
import Derived.Laws.BytesArg
import Derived.Laws.MakeOwn
import Derived.Laws.OwnMore
import Derived.Deep.OwnRows
import Derived.Tactics
import Derived.Lib.ConvBytes
import Derived.Laws.Slices
import Derived.WalkKit
import Derived.KernelRfl
import Derived.RowKit3
import Derived.Deep.LoopGhost
import Derived.Deep.QuietTactic
import Derived.BigQuiet
import Derived.WideLaws
import Derived.Deep.DeepCutAuto
import Derived.Deep.CutBlock
import Derived.Deep.RegionHeld3
import Derived.Laws.Rows
import Derived.Lib.AppendStr
import Derived.ArgAppend
import Derived.Laws.IdiomCopy
import Derived.OrdersHeld
import Derived.Laws.BitsLemmas
import Derived.RowKit
import Derived.Test.YtjebkpcekkkbkaaWWords
import Derived.Test.YtjebkpcekkkbkaaWLast
import Derived.Test.YtjebkpcekkkbkaaWTab
import Derived.Test.YtjebkpcekkkbkaaWFour
import Derived.Test.YtjebkpcekkkbkaaWQPut
import Derived.Test.YtjebkpcekkkbkaaWApart
import Derived.Test.YtjebkpcekkkbkaaWArr
import Derived.Test.YtjebkpcekkkbkaaWZeros
import Derived.Test.YtjebkpcekkkbkaaWFoot
import Derived.Test.YtjebkpcekkkbkaaWKept
import Derived.Test.YtjebkpcekkkbkaaWShare
import Derived.Test.YtjebkpcekkkbkaaWN
import Derived.Test.YtjebkpcekkkbkaaWFootNe
import Derived.Test.YtjebkpcekkkbkaaWAt
import Derived.Test.YtjebkpcekkkbkaaWEqStruct
import Derived.Test.YtjebkpcekkkbkaaWRepsOne
import Derived.Test.YtjebkpcekkkbkaaWInv
import Derived.Test.YtjebkpcekkkbkaaWInvWords
import Derived.Test.YtjebkpcekkkbkaaWGuard
import Derived.Test.YtjebkpcekkkbkaaWNEv
import Derived.Test.YtjebkpcekkkbkaaWMore
import Derived.Deep.DeepFit
import Derived.Test.YtjebkpcekkkbkaaBulk
import Derived.ChangeShapes
import Derived.WalkMore
import Derived.WalkSpells
import Derived.Deep.CutRange
import Derived.IntWalk
import Derived.Lib.SlBytesConst
import Derived.Sort.QuietIn
import Derived.Lib.SmallJoins
import Derived.WideKeyArgs
import Derived.OpenShut
import Derived.Deep.Slices
import Derived.Test.YtjebkpcekkkbkaaWSized
import Derived.ProofKit
import Derived.ShutString
import Derived.ChangeOld
import Derived.SizedLaws
import Derived.JoinedCond
import Derived.Test.YtjebkpcekkkbkaaZN13
set_option linter.unusedSimpArgs false
set_option linter.unusedVariables false
/-
  EditNothing, walked.
-/
namespace Go.Proofs.Ytjebkpcekkkbkaa.B
open Go.RowKit Go.Shelf Go.Proofs Go.Proofs.YtjebkpcekkkbkaaW.PrintWords Go.Proofs.YtjebkpcekkkbkaaW.PrintLast Go.Proofs.YtjebkpcekkkbkaaW.PrintMore Go.Proofs.Ytjebkpcekkkbkaa.FBase
theorem eq_f (l : List Int) (hl : l.length ≤ 1048576) : colophonref00_EqBytes.f (l.length + 1) l l = some true := by
  rw [EqBytes_f l l hl (Nat.lt_succ_self _)]
  simp
end Go.Proofs.Ytjebkpcekkkbkaa.B



/-
  A quiet region (loads and calls that leave the memory as it is) in the body of a range over a function: one walk in the order of the text serves every order.
-/
namespace Go.Proofs.Ytjebkpcekkkbkaa.B
open Go Go.RowKit Go.Proofs.YtjebkpcekkkbkaaW.PrintWords Go.Proofs.YtjebkpcekkkbkaaW.PrintLast Go.Proofs.YtjebkpcekkkbkaaW.PrintMore Go.Proofs.Ytjebkpcekkkbkaa.FBase
theorem quiet_drawn {P : Program} {f : FuncId} {args : Array Value} {v : Value} {n : Nat} {w : World} (h : Calls P f args (w.drewN n) fun e w' => e = .returned v ∧ Drawn0 (w.drewN n) w') : Calls P f args (w.drewN n) fun e w' => e = .returned v ∧ ∃ m, w' = w.drewN m :=
  h.mono fun e w' ⟨he, m, hm⟩ => ⟨he, n + m, by rw [← World.drewN_drewN]; first | exact hm | exact hm.symm⟩
section
variable {F : Fence} {n : Nat} {P : Program} {ops : Array Oper} {C : World → Prop} {md : Region.Mode}
end
end Go.Proofs.Ytjebkpcekkkbkaa.B





/-
  The reference's Diff, walked.
-/
namespace Go.Proofs.Ytjebkpcekkkbkaa.B
open Go.RowKit Go.Shelf Go.Proofs Go.Proofs.YtjebkpcekkkbkaaW.PrintWords Go.Proofs.YtjebkpcekkkbkaaW.PrintLast Go.Proofs.YtjebkpcekkkbkaaW.PrintMore Go.Proofs.Ytjebkpcekkkbkaa.FBase
structure StaW (w : World) (S : World → Prop) where
  W : World
  h : Sta w W S
theorem wp_region_sta {P : Program} {w0 : World} {S : World → Prop} {id : Nat} {Q : Exit → Act → World → Prop} {a : Act} {w : World} {l : List Oper} (hm : P.follows .mixedOrders = true) (hB : Region.lexB .any l.toArray = true) (hS : Sta w0 w S)
    (h : wpQuiet P l.toArray (fun w' => ∃ n : StaW w0 S, w' = n.W) (fun a' => ∀ w', (∃ n : StaW w0 S, w' = n.W) → Q .normal a' w') l a) : (Code.region id l.toArray true).wp P Q a w :=
  wp_region_quiet (C := fun w' => ∃ n : StaW w0 S, w' = n.W) hm hB ⟨⟨_, hS.step (below_drew1 (Below.refl _ _))⟩, rfl⟩ (by simpa using h)
structure Fr (a b : List Int) (k f : Nat) : Prop where
  p : IsP a f
  la : f ≤ a.length
  lb : f ≤ b.length
  pre : a.take f = b.take f
  most : ∀ j : Nat, f < j → j < k → ¬ IsP a j
theorem Fr.yes {a b : List Int} {k f : Nat} (h : Fr a b k f) (h1 : k ≤ a.length) (h2 : k ≤ b.length) (h3 : a.take k = b.take k) (h4 : IsP a k) : Fr a b (k + 1) k :=
  ⟨h4, h1, h2, h3, fun j h5 h6 => absurd h6 (by omega)⟩
theorem Fr.no {a b : List Int} {k f : Nat} (h : Fr a b k f) (h4 : ¬ IsP a k) : Fr a b (k + 1) f :=
  ⟨h.p, h.la, h.lb, h.pre, fun j h5 h6 => by
    rcases Nat.lt_or_ge j k with h7 | h7
    · exact h.most j h5 h7
    · obtain rfl : j = k := by omega
      exact h4⟩
theorem isdiff_of {a b : List Int} {n f k : Nat} (h : Fr a b n f) (hn : ¬ (n ≤ a.length ∧ n ≤ b.length ∧ a.take n = b.take n)) (hfb : f ≤ b.length) (hfk : f ≤ k) (hka : k ≤ a.length)
    (hq : ∀ j, f ≤ j → j < k → ¬ (IsP a (j : Int) ∧ a.length - j ≤ b.length - f ∧ a.drop j = b.drop (b.length - (a.length - j)))) (hg : (IsP a (k : Int) ∧ a.length - k ≤ b.length - f ∧ a.drop k = b.drop (b.length - (a.length - k)))) : IsDiff a b f (a.length - k) := by
  obtain ⟨g1, g2, g3⟩ := hg
  refine ⟨h.p, by omega, by omega, h.pre, fun j h1 h2 h3 h4 hp => ?_, by rw [show a.length - (a.length - k) = k by omega]; exact g1, by rw [show a.length - (a.length - k) = k by omega]; exact g3, fun j h1 h2 h3 h4 hp => ?_⟩
  · rcases Nat.lt_or_ge j n with h7 | h7
    · exact h.most j h1 h7 hp
    · refine hn ⟨by omega, by omega, ?_⟩
      have := congrArg (List.take n) h4
      rw [List.take_take, List.take_take, Nat.min_eq_left h7] at this
      exact this
  · refine hq (a.length - j) (by omega) (by omega) ⟨hp, by omega, ?_⟩
    rw [show a.length - (a.length - j) = j by omega]
    exact h4
set_option maxRecDepth 100000 in
set_option maxHeartbeats 4000000 in
theorem RDiff_bad1 (A B : Option Addr) (c d : Nat) (a b : List Int) (w : World) (hr : Kd.C (Kd.int .u8) w A a.length a) (hc : a.length ≤ c) (hr2 : Kd.C (Kd.int .u8) w B b.length b) (hd : b.length ≤ d) (hn : A = none → c = 0) (hA : Bytes a) (hB : Bytes b) (hs : a.length ≤ 1048576) (hs2 : b.length ≤ 8192) (r : Int) (hk : (chk a).2 = r) (hz : r ≠ 0) :
    Calls Try.prog 19 #[.slice A a.length c, .slice B b.length d] w fun e w' => e = .returned (.tuple #[.agg #[.bool false, .int .i64 0, .int .i64 0, .int .i64 0, .int .i64 0, .string ⟨#[]⟩], .int .i64 r]) ∧ Below w.heap.size w w' := by
  have hb1 := below_alloc (Below.refl _ w) (.cells #[.bool false, .int .i64 0, .int .i64 0, .int .i64 0, .int .i64 0, .string ⟨#[]⟩] 29)
  have HS : Aside0 (Sta w (w.alloc (.cells #[.bool false, .int .i64 0, .int .i64 0, .int .i64 0, .int .i64 0, .string ⟨#[]⟩] 29)) (fun W => IsBlk W w.heap.size (.cells #[.bool false, .int .i64 0, .int .i64 0, .int .i64 0, .int .i64 0, .string ⟨#[]⟩] 29) ∧ Kd.C (Kd.int .u8) W A a.length a ∧ Kd.C (Kd.int .u8) W B b.length b)) := ⟨⟨hb1, ⟨blk_new w _, Kd.C_below hr hb1, Kd.C_below hr2 hb1⟩, keeps_and (keeps_blk _ _) (keeps_and (keeps_C _ _ _ _) (keeps_C _ _ _ _))⟩⟩
  clear hb1 hr hr2
  have n1 := blk_lt HS.out.now.1
  have k0 : (w.alloc (.cells #[.bool false, .int .i64 0, .int .i64 0, .int .i64 0, .int .i64 0, .string ⟨#[]⟩] 29)).cell? ⟨w.heap.size, 0, none⟩ = some (.bool false) := HS.out.now.1.cell 0
  have f0 := HS.out.now.1.frozen 0
  have k1 : (w.alloc (.cells #[.bool false, .int .i64 0, .int .i64 0, .int .i64 0, .int .i64 0, .string ⟨#[]⟩] 29)).cell? ⟨w.heap.size, 1, none⟩ = some (.int .i64 0) := HS.out.now.1.cell 1
  have f1 := HS.out.now.1.frozen 1
  have k2 : (w.alloc (.cells #[.bool false, .int .i64 0, .int .i64 0, .int .i64 0, .int .i64 0, .string ⟨#[]⟩] 29)).cell? ⟨w.heap.size, 2, none⟩ = some (.int .i64 0) := HS.out.now.1.cell 2
  have f2 := HS.out.now.1.frozen 2
  have k3 : (w.alloc (.cells #[.bool false, .int .i64 0, .int .i64 0, .int .i64 0, .int .i64 0, .string ⟨#[]⟩] 29)).cell? ⟨w.heap.size, 3, none⟩ = some (.int .i64 0) := HS.out.now.1.cell 3
  have f3 := HS.out.now.1.frozen 3
  have k4 : (w.alloc (.cells #[.bool false, .int .i64 0, .int .i64 0, .int .i64 0, .int .i64 0, .string ⟨#[]⟩] 29)).cell? ⟨w.heap.size, 4, none⟩ = some (.int .i64 0) := HS.out.now.1.cell 4
  have f4 := HS.out.now.1.frozen 4
  have k5 : (w.alloc (.cells #[.bool false, .int .i64 0, .int .i64 0, .int .i64 0, .int .i64 0, .string ⟨#[]⟩] 29)).cell? ⟨w.heap.size, 5, none⟩ = some (.string ⟨#[]⟩) := HS.out.now.1.cell 5
  have f5 := HS.out.now.1.frozen 5
  have HC := Aside0.mk hc
  have HD := Aside0.mk hd
  have HAY := Aside0.mk hA
  have HBY := Aside0.mk hB
  clear hc hd
  have hz1 : (r != 0) = true := bne_iff_ne.mpr hz
  have hkk := RCheck_f a hA hs (Nat.lt_succ_self _)
  rw [show chk a = ((chk a).1, r) from Prod.ext rfl hk] at hkk
  have HK := Aside0.mk hkk
  clear hkk hk hA hB
  go_enter Try.func19, Try.ntmps19
  go_wp2_with (go_at_call 54; refine (RMNew_err _ A c a _ _ _ (HS.out.step (by repeat (first | exact Below.refl _ _ | apply below_alloc | apply pw_below_drewN | apply below_drew1 | apply bytes_step))).now.2.1 HC.out HK.out hz).mono ?_; rintro e w2 ⟨rfl, hb⟩; have m_ := Aside0.mk (HS.out.call (by repeat (first | exact Below.refl _ _ | apply below_alloc | apply pw_below_drewN | apply below_drew1 | apply bytes_step)) hb); clear HS hb ; have HS := m_; clear m_; have n1 := blk_lt HS.out.now.1; have k0 : w2.cell? ⟨w.heap.size, 0, none⟩ = some (.bool false) := HS.out.now.1.cell 0; have f0 := HS.out.now.1.frozen 0; have k1 : w2.cell? ⟨w.heap.size, 1, none⟩ = some (.int .i64 0) := HS.out.now.1.cell 1; have f1 := HS.out.now.1.frozen 1; have k2 : w2.cell? ⟨w.heap.size, 2, none⟩ = some (.int .i64 0) := HS.out.now.1.cell 2; have f2 := HS.out.now.1.frozen 2; have k3 : w2.cell? ⟨w.heap.size, 3, none⟩ = some (.int .i64 0) := HS.out.now.1.cell 3; have f3 := HS.out.now.1.frozen 3; have k4 : w2.cell? ⟨w.heap.size, 4, none⟩ = some (.int .i64 0) := HS.out.now.1.cell 4; have f4 := HS.out.now.1.frozen 4; have k5 : w2.cell? ⟨w.heap.size, 5, none⟩ = some (.string ⟨#[]⟩) := HS.out.now.1.cell 5; have f5 := HS.out.now.1.frozen 5)
  first | rw [Exit.noGoto_ret] | skip
  refine bodyPost_ret (v := .tuple #[.agg #[.bool false, .int .i64 0, .int .i64 0, .int .i64 0, .int .i64 0, .string ⟨#[]⟩], .int .i64 r]) (results_ct (p := 4) (u := 5) (ty := 29) rfl _ _ w.heap.size 29 #[.bool false, .int .i64 0, .int .i64 0, .int .i64 0, .int .i64 0, .string ⟨#[]⟩] (0, 0) _ rfl ?_ Try.underlying29 rfl (by kernel_rfl)) rfl ⟨rfl, ?_⟩
  · show IsBlk _ w.heap.size _
    (repeat (with_reducible first | refine IsBlk.alloc ?_ _ | refine IsBlk.drewN ?_ _ | refine IsBlk.drew1 ?_))
    with_reducible refine blk6 (z0 := .bool false) (z1 := .int .i64 0) (z2 := .int .i64 0) (z3 := .int .i64 0) (z4 := .int .i64 0) (z5 := .string ⟨#[]⟩) ?_ _ _ _ _ _ _
    repeat (with_reducible first | exact HS.out.now.1 | refine IsBlk.alloc ?_ _ | refine IsBlk.drewN ?_ _ | refine IsBlk.drew1 ?_)
  · have hS := HS.out.bel
    (repeat (first | (with_reducible exact hS) | (with_reducible refine below_alloc ?_ _) | (with_reducible refine pw_below_drewN ?_ _) | (with_reducible refine below_drew1 ?_) | ((with_reducible refine Below.setCell ?_ ?_ _); rotate_left; (focus (first | (simp; done) | (simp; omega))))))
set_option maxRecDepth 100000 in
set_option maxHeartbeats 4000000 in
theorem RDiff_bad2 (A B : Option Addr) (c d : Nat) (a b : List Int) (w : World) (hr : Kd.C (Kd.int .u8) w A a.length a) (hc : a.length ≤ c) (hr2 : Kd.C (Kd.int .u8) w B b.length b) (hd : b.length ≤ d) (hn : A = none → c = 0) (hA : Bytes a) (hB : Bytes b) (hs : a.length ≤ 1048576) (hs2 : b.length ≤ 8192) (hl : (chk a).2 = 0) (r : Int) (hk : (chk b).2 = r) (hz : r ≠ 0) :
    Calls Try.prog 19 #[.slice A a.length c, .slice B b.length d] w fun e w' => e = .returned (.tuple #[.agg #[.bool false, .int .i64 0, .int .i64 0, .int .i64 0, .int .i64 0, .string ⟨#[]⟩], .int .i64 r]) ∧ Below w.heap.size w w' := by
  have hb1 := below_alloc (Below.refl _ w) (.cells #[.bool false, .int .i64 0, .int .i64 0, .int .i64 0, .int .i64 0, .string ⟨#[]⟩] 29)
  have HS : Aside0 (Sta w (w.alloc (.cells #[.bool false, .int .i64 0, .int .i64 0, .int .i64 0, .int .i64 0, .string ⟨#[]⟩] 29)) (fun W => IsBlk W w.heap.size (.cells #[.bool false, .int .i64 0, .int .i64 0, .int .i64 0, .int .i64 0, .string ⟨#[]⟩] 29) ∧ Kd.C (Kd.int .u8) W A a.length a ∧ Kd.C (Kd.int .u8) W B b.length b)) := ⟨⟨hb1, ⟨blk_new w _, Kd.C_below hr hb1, Kd.C_below hr2 hb1⟩, keeps_and (keeps_blk _ _) (keeps_and (keeps_C _ _ _ _) (keeps_C _ _ _ _))⟩⟩
  clear hb1 hr hr2
  have n1 := blk_lt HS.out.now.1
  have k0 : (w.alloc (.cells #[.bool false, .int .i64 0, .int .i64 0, .int .i64 0, .int .i64 0, .string ⟨#[]⟩] 29)).cell? ⟨w.heap.size, 0, none⟩ = some (.bool false) := HS.out.now.1.cell 0
  have f0 := HS.out.now.1.frozen 0
  have k1 : (w.alloc (.cells #[.bool false, .int .i64 0, .int .i64 0, .int .i64 0, .int .i64 0, .string ⟨#[]⟩] 29)).cell? ⟨w.heap.size, 1, none⟩ = some (.int .i64 0) := HS.out.now.1.cell 1
  have f1 := HS.out.now.1.frozen 1
  have k2 : (w.alloc (.cells #[.bool false, .int .i64 0, .int .i64 0, .int .i64 0, .int .i64 0, .string ⟨#[]⟩] 29)).cell? ⟨w.heap.size, 2, none⟩ = some (.int .i64 0) := HS.out.now.1.cell 2
  have f2 := HS.out.now.1.frozen 2
  have k3 : (w.alloc (.cells #[.bool false, .int .i64 0, .int .i64 0, .int .i64 0, .int .i64 0, .string ⟨#[]⟩] 29)).cell? ⟨w.heap.size, 3, none⟩ = some (.int .i64 0) := HS.out.now.1.cell 3
  have f3 := HS.out.now.1.frozen 3
  have k4 : (w.alloc (.cells #[.bool false, .int .i64 0, .int .i64 0, .int .i64 0, .int .i64 0, .string ⟨#[]⟩] 29)).cell? ⟨w.heap.size, 4, none⟩ = some (.int .i64 0) := HS.out.now.1.cell 4
  have f4 := HS.out.now.1.frozen 4
  have k5 : (w.alloc (.cells #[.bool false, .int .i64 0, .int .i64 0, .int .i64 0, .int .i64 0, .string ⟨#[]⟩] 29)).cell? ⟨w.heap.size, 5, none⟩ = some (.string ⟨#[]⟩) := HS.out.now.1.cell 5
  have f5 := HS.out.now.1.frozen 5
  have HC := Aside0.mk hc
  have HD := Aside0.mk hd
  have HAY := Aside0.mk hA
  have HBY := Aside0.mk hB
  clear hc hd
  have hz1 : (r != 0) = true := bne_iff_ne.mpr hz
  have hkk := RCheck_f a hA hs (Nat.lt_succ_self _)
  rw [show chk a = ((chk a).1, 0) from Prod.ext rfl hl] at hkk
  have HK := Aside0.mk hkk
  have hkb := RCheck_f b hB (by omega) (Nat.lt_succ_self _)
  rw [show chk b = ((chk b).1, r) from Prod.ext rfl hk] at hkb
  have HKB := Aside0.mk hkb
  clear hkk hkb hk hl hA hB
  go_enter Try.func19, Try.ntmps19
  go_wp2_with (first | (go_at_call 54; refine (RMNew_ok _ A c a _ _ (HS.out.step (by repeat (first | exact Below.refl _ _ | apply below_alloc | apply pw_below_drewN | apply below_drew1 | apply bytes_step))).now.2.1 HC.out HK.out hs).mono ?_; rintro e w2 ⟨m, rfl, hM, hb⟩; have m_ := Aside0.mk ((HS.out.call (by repeat (first | exact Below.refl _ _ | apply below_alloc | apply pw_below_drewN | apply below_drew1 | apply bytes_step)) hb).add hM (keeps_rmap _ _)); clear HS hb hM; have HS := m_; clear m_) | (go_at_call 55; refine (colophonref01_Check.calls _ B d b _ _ _ (HS.out.step (by repeat (first | exact Below.refl _ _ | apply below_alloc | apply pw_below_drewN | apply below_drew1 | apply bytes_step))).now.2.2.2 HD.out HKB.out).mono ?_; rintro e w3 ⟨rfl, hb⟩; have m_ := Aside0.mk (HS.out.call (by repeat (first | exact Below.refl _ _ | apply below_alloc | apply pw_below_drewN | apply below_drew1 | apply bytes_step)) hb); clear HS hb ; have HS := m_; clear m_; have n1 := blk_lt HS.out.now.2.1; have k0 : w3.cell? ⟨w.heap.size, 0, none⟩ = some (.bool false) := HS.out.now.2.1.cell 0; have f0 := HS.out.now.2.1.frozen 0; have k1 : w3.cell? ⟨w.heap.size, 1, none⟩ = some (.int .i64 0) := HS.out.now.2.1.cell 1; have f1 := HS.out.now.2.1.frozen 1; have k2 : w3.cell? ⟨w.heap.size, 2, none⟩ = some (.int .i64 0) := HS.out.now.2.1.cell 2; have f2 := HS.out.now.2.1.frozen 2; have k3 : w3.cell? ⟨w.heap.size, 3, none⟩ = some (.int .i64 0) := HS.out.now.2.1.cell 3; have f3 := HS.out.now.2.1.frozen 3; have k4 : w3.cell? ⟨w.heap.size, 4, none⟩ = some (.int .i64 0) := HS.out.now.2.1.cell 4; have f4 := HS.out.now.2.1.frozen 4; have k5 : w3.cell? ⟨w.heap.size, 5, none⟩ = some (.string ⟨#[]⟩) := HS.out.now.2.1.cell 5; have f5 := HS.out.now.2.1.frozen 5))
  first | rw [Exit.noGoto_ret] | skip
  refine bodyPost_ret (v := .tuple #[.agg #[.bool false, .int .i64 0, .int .i64 0, .int .i64 0, .int .i64 0, .string ⟨#[]⟩], .int .i64 r]) (results_ct (p := 4) (u := 5) (ty := 29) rfl _ _ w.heap.size 29 #[.bool false, .int .i64 0, .int .i64 0, .int .i64 0, .int .i64 0, .string ⟨#[]⟩] (0, 0) _ rfl ?_ Try.underlying29 rfl (by kernel_rfl)) rfl ⟨rfl, ?_⟩
  · show IsBlk _ w.heap.size _
    (repeat (with_reducible first | refine IsBlk.alloc ?_ _ | refine IsBlk.drewN ?_ _ | refine IsBlk.drew1 ?_))
    with_reducible refine blk6 (z0 := .bool false) (z1 := .int .i64 0) (z2 := .int .i64 0) (z3 := .int .i64 0) (z4 := .int .i64 0) (z5 := .string ⟨#[]⟩) ?_ _ _ _ _ _ _
    repeat (with_reducible first | exact HS.out.now.2.1 | refine IsBlk.alloc ?_ _ | refine IsBlk.drewN ?_ _ | refine IsBlk.drew1 ?_)
  · have hS := HS.out.bel
    (repeat (first | (with_reducible exact hS) | (with_reducible refine below_alloc ?_ _) | (with_reducible refine pw_below_drewN ?_ _) | (with_reducible refine below_drew1 ?_) | ((with_reducible refine Below.setCell ?_ ?_ _); rotate_left; (focus (first | (simp; done) | (simp; omega))))))
set_option maxRecDepth 100000 in
set_option maxHeartbeats 4000000 in
theorem RDiff_ok (A B : Option Addr) (c d : Nat) (a b : List Int) (w : World) (hr : Kd.C (Kd.int .u8) w A a.length a) (hc : a.length ≤ c) (hr2 : Kd.C (Kd.int .u8) w B b.length b) (hd : b.length ≤ d) (hn : A = none → c = 0) (hA : Bytes a) (hB : Bytes b) (hs : a.length ≤ 1048576) (hs2 : b.length ≤ 8192) (hl : (chk a).2 = 0) (ht : (chk b).2 = 0) :
    Calls Try.prog 19 #[.slice A a.length c, .slice B b.length d] w fun e w' => (∃ f t : Nat, IsDiff a b f t ∧ e = .returned (.tuple #[.agg #[.bool false, .int .i64 (fnd a f : Int), .int .i64 (pch a f), .int .i64 (fnd a ((a.length - t : Nat) : Int) : Int), .int .i64 (pch a ((a.length - t : Nat) : Int)), .string (strOfNums ((b.take (b.length - t)).drop f))], .int .i64 0])) ∧ Below w.heap.size w w' := by
  have HR1 := Aside0.mk hr
  have HR2 := Aside0.mk hr2
  have hb1 := below_alloc (Below.refl _ w) (.cells #[.bool false, .int .i64 0, .int .i64 0, .int .i64 0, .int .i64 0, .string ⟨#[]⟩] 29)
  have HS : Aside0 (Sta w (w.alloc (.cells #[.bool false, .int .i64 0, .int .i64 0, .int .i64 0, .int .i64 0, .string ⟨#[]⟩] 29)) (fun W => IsBlk W w.heap.size (.cells #[.bool false, .int .i64 0, .int .i64 0, .int .i64 0, .int .i64 0, .string ⟨#[]⟩] 29) ∧ Kd.C (Kd.int .u8) W A a.length a ∧ Kd.C (Kd.int .u8) W B b.length b)) := ⟨⟨hb1, ⟨blk_new w _, Kd.C_below hr hb1, Kd.C_below hr2 hb1⟩, keeps_and (keeps_blk _ _) (keeps_and (keeps_C _ _ _ _) (keeps_C _ _ _ _))⟩⟩
  clear hb1 hr hr2
  have n1 := blk_lt HS.out.now.1
  have k0 : (w.alloc (.cells #[.bool false, .int .i64 0, .int .i64 0, .int .i64 0, .int .i64 0, .string ⟨#[]⟩] 29)).cell? ⟨w.heap.size, 0, none⟩ = some (.bool false) := HS.out.now.1.cell 0
  have f0 := HS.out.now.1.frozen 0
  have k1 : (w.alloc (.cells #[.bool false, .int .i64 0, .int .i64 0, .int .i64 0, .int .i64 0, .string ⟨#[]⟩] 29)).cell? ⟨w.heap.size, 1, none⟩ = some (.int .i64 0) := HS.out.now.1.cell 1
  have f1 := HS.out.now.1.frozen 1
  have k2 : (w.alloc (.cells #[.bool false, .int .i64 0, .int .i64 0, .int .i64 0, .int .i64 0, .string ⟨#[]⟩] 29)).cell? ⟨w.heap.size, 2, none⟩ = some (.int .i64 0) := HS.out.now.1.cell 2
  have f2 := HS.out.now.1.frozen 2
  have k3 : (w.alloc (.cells #[.bool false, .int .i64 0, .int .i64 0, .int .i64 0, .int .i64 0, .string ⟨#[]⟩] 29)).cell? ⟨w.heap.size, 3, none⟩ = some (.int .i64 0) := HS.out.now.1.cell 3
  have f3 := HS.out.now.1.frozen 3
  have k4 : (w.alloc (.cells #[.bool false, .int .i64 0, .int .i64 0, .int .i64 0, .int .i64 0, .string ⟨#[]⟩] 29)).cell? ⟨w.heap.size, 4, none⟩ = some (.int .i64 0) := HS.out.now.1.cell 4
  have f4 := HS.out.now.1.frozen 4
  have k5 : (w.alloc (.cells #[.bool false, .int .i64 0, .int .i64 0, .int .i64 0, .int .i64 0, .string ⟨#[]⟩] 29)).cell? ⟨w.heap.size, 5, none⟩ = some (.string ⟨#[]⟩) := HS.out.now.1.cell 5
  have f5 := HS.out.now.1.frozen 5
  have HC := Aside0.mk hc
  have HD := Aside0.mk hd
  have HAY := Aside0.mk hA
  have HBY := Aside0.mk hB
  clear hc hd
  have hv := (chk_V hA).1 hl
  have hkk := RCheck_f a hA hs (Nat.lt_succ_self _)
  rw [show chk a = ((chk a).1, 0) from Prod.ext rfl hl] at hkk
  have HK := Aside0.mk hkk
  have hkb := RCheck_f b hB (by omega) (Nat.lt_succ_self _)
  rw [show chk b = ((chk b).1, 0) from Prod.ext rfl ht] at hkb
  have HKB := Aside0.mk hkb
  have HV := Aside0.mk hv
  have g9 : decide (8192 < (b.length : Int)) = false := decide_eq_false (by omega)
  clear hkk hkb hl ht hA hB hv
  go_enter Try.func19, Try.ntmps19
  go_upto_block 0 with (first | (go_at_call 54; refine (RMNew_ok _ A c a _ _ (HS.out.step (by repeat (first | exact Below.refl _ _ | apply below_alloc | apply pw_below_drewN | apply below_drew1 | apply bytes_step))).now.2.1 HC.out HK.out hs).mono ?_; rintro e w2 ⟨m, rfl, hM, hb⟩; have m_ := Aside0.mk ((HS.out.call (by repeat (first | exact Below.refl _ _ | apply below_alloc | apply pw_below_drewN | apply below_drew1 | apply bytes_step)) hb).add hM (keeps_rmap _ _)); clear HS hb hM; have HS := m_; clear m_) | (go_at_call 55; refine (colophonref01_Check.calls _ B d b _ _ _ (HS.out.step (by repeat (first | exact Below.refl _ _ | apply below_alloc | apply pw_below_drewN | apply below_drew1 | apply bytes_step))).now.2.2.2 HD.out HKB.out).mono ?_; rintro e w3 ⟨rfl, hb⟩; have m_ := Aside0.mk (HS.out.call (by repeat (first | exact Below.refl _ _ | apply below_alloc | apply pw_below_drewN | apply below_drew1 | apply bytes_step)) hb); clear HS hb ; have HS := m_; clear m_; have n1 := blk_lt HS.out.now.2.1; have k0 : w3.cell? ⟨w.heap.size, 0, none⟩ = some (.bool false) := HS.out.now.2.1.cell 0; have f0 := HS.out.now.2.1.frozen 0; have k1 : w3.cell? ⟨w.heap.size, 1, none⟩ = some (.int .i64 0) := HS.out.now.2.1.cell 1; have f1 := HS.out.now.2.1.frozen 1; have k2 : w3.cell? ⟨w.heap.size, 2, none⟩ = some (.int .i64 0) := HS.out.now.2.1.cell 2; have f2 := HS.out.now.2.1.frozen 2; have k3 : w3.cell? ⟨w.heap.size, 3, none⟩ = some (.int .i64 0) := HS.out.now.2.1.cell 3; have f3 := HS.out.now.2.1.frozen 3; have k4 : w3.cell? ⟨w.heap.size, 4, none⟩ = some (.int .i64 0) := HS.out.now.2.1.cell 4; have f4 := HS.out.now.2.1.frozen 4; have k5 : w3.cell? ⟨w.heap.size, 5, none⟩ = some (.string ⟨#[]⟩) := HS.out.now.2.1.cell 5; have f5 := HS.out.now.2.1.frozen 5))
  go_cut [10, 11] from 16 (fun s10 s11 W => ∃ f k : Nat, s10 = .int .i64 f ∧ s11 = .int .i64 k ∧ f ≤ a.length ∧ f ≤ b.length ∧ Aside0 (Fr a b k f) ∧ Aside0 (¬ (k ≤ a.length ∧ k ≤ b.length ∧ a.take k = b.take k)) ∧ Aside0 (Sta w W (fun W => IsRMap W m a ∧ IsBlk W w.heap.size (.cells #[.bool false, .int .i64 0, .int .i64 0, .int .i64 0, .int .i64 0, .string ⟨#[]⟩] 29) ∧ Kd.C (Kd.int .u8) W A a.length a ∧ Kd.C (Kd.int .u8) W B b.length b)))
  case first =>
    go_wp2
    go_loopw [10, 11] (fun s10 s11 W => ∃ f k : Nat, s10 = .int .i64 f ∧ s11 = .int .i64 k ∧ k ≤ a.length + 1 ∧ f ≤ a.length ∧ Aside0 (Fr a b k f) ∧ Aside0 (Sta w W (fun W => IsRMap W m a ∧ IsBlk W w.heap.size (.cells #[.bool false, .int .i64 0, .int .i64 0, .int .i64 0, .int .i64 0, .string ⟨#[]⟩] 29) ∧ Kd.C (Kd.int .u8) W A a.length a ∧ Kd.C (Kd.int .u8) W B b.length b))) (fun _ s11 _ => a.length + 1 - (intOf s11).toNat)
    case atStart => exact ⟨0, 0, rfl, rfl, by omega, Nat.zero_le _, ⟨⟨isP_0 HAY.out HV.out, Nat.zero_le _, Nat.zero_le _, rfl, fun j h1 h2 => absurd h2 (by omega)⟩⟩, HS⟩
    case round =>
      clear HS
      obtain ⟨f, k, rfl, rfl, hk1, hfa, HF, HS⟩ := hrel
      by_cases h1 : k ≤ a.length
      · have u1 : decide (k ≤ a.length) = true := decide_eq_true h1
        by_cases h2 : k ≤ b.length
        · have u2 : decide (k ≤ b.length) = true := decide_eq_true h2
          obtain ⟨E1, hP1, hp1⟩ := cut_pre w A c a (k : Int) HR1.out HC.out (by omega) (by omega)
          obtain ⟨E2, hP2, hp2⟩ := cut_pre w B d b (k : Int) HR2.out HD.out (by omega) (by omega)
          rw [Int.toNat_natCast] at E1 E2 hP1 hP2 hp1 hp2
          have lp : (a.take k).length = k := by rw [List.length_take]; omega
          have heq := EqBytes_f (a.take k) (b.take k) (by omega) (Nat.lt_succ_self _)
          by_cases h3 : a.take k = b.take k
          · have HF1 : Aside0 (isPb a (k : Int) = true → Fr a b (k + 1) k) := ⟨fun h => HF.out.yes h1 h2 h3 ((isPb_iff _ _).1 h)⟩
            have HF0 : Aside0 (isPb a (k : Int) = false → Fr a b (k + 1) f) := ⟨fun h => HF.out.no (fun h' => by rw [(isPb_iff _ _).2 h'] at h; cases h)⟩
            rw [decide_eq_true h3] at heq
            generalize a.take k = p at *
            generalize b.take k = q at *
            have HP1 : Aside0 (∀ W, Below w.heap.size w W → Kd.C (Kd.int .u8) W A p.length p) := ⟨fun W hW => Kd.C_below hP1 hW⟩
            have HP2 : Aside0 (∀ W, Below w.heap.size w W → Kd.C (Kd.int .u8) W B q.length q) := ⟨fun W hW => Kd.C_below hP2 hW⟩
            have HLP1 := Aside0.mk hp1
            have HLP2 := Aside0.mk hp2
            have HEP := Aside0.mk heq
            clear hP1 hP2 hp1 hp2 heq lp h3
            go_wp2
            go_quiet ((go_at_call 20; exact quiet_drawn (colophonref00_EqBytes.calls _ A c p B d q true _ (HP1.out _ (HS.out.step (by repeat (first | exact Below.refl _ _ | apply below_alloc | apply pw_below_drewN | apply below_drew1 | apply bytes_step))).bel) HLP1.out (HP2.out _ (HS.out.step (by repeat (first | exact Below.refl _ _ | apply below_alloc | apply pw_below_drewN | apply below_drew1 | apply bytes_step))).bel) HLP2.out HEP.out)))
            cases hi : isPb a (k : Int) with
            | true =>
              have HI := Aside0.mk hi
              have HF2 := Aside0.mk (HF1.out hi)
              clear hi HF1 HF0
              go_wp2_with (go_at_call 56; refine (Ris_is m a (k : Int) _ (HS.out.step (by repeat (first | exact Below.refl _ _ | apply below_alloc | apply pw_below_drewN | apply below_drew1 | apply bytes_step))).now.1 hs HAY.out HV.out (by omega) (by omega)).mono ?_; rintro e w5 ⟨rfl, hb⟩; rw [HI.out]; have m_ := Aside0.mk (HS.out.call (by repeat (first | exact Below.refl _ _ | apply below_alloc | apply pw_below_drewN | apply below_drew1 | apply bytes_step)) hb); clear HS hb ; have HS := m_; clear m_)
              go_roundw
              case measure => simp [intOf]; omega
              case rel => exact ⟨k, k + 1, rfl, by simp, by omega, h1, HF2, HS⟩
            | false =>
              have HI := Aside0.mk hi
              have HF2 := Aside0.mk (HF0.out hi)
              clear hi HF1 HF0
              go_wp2_with (go_at_call 56; refine (Ris_is m a (k : Int) _ (HS.out.step (by repeat (first | exact Below.refl _ _ | apply below_alloc | apply pw_below_drewN | apply below_drew1 | apply bytes_step))).now.1 hs HAY.out HV.out (by omega) (by omega)).mono ?_; rintro e w5 ⟨rfl, hb⟩; rw [HI.out]; have m_ := Aside0.mk (HS.out.call (by repeat (first | exact Below.refl _ _ | apply below_alloc | apply pw_below_drewN | apply below_drew1 | apply bytes_step)) hb); clear HS hb ; have HS := m_; clear m_)
              go_roundw
              case measure => simp [intOf]; omega
              case rel => exact ⟨f, k + 1, rfl, by simp, by omega, hfa, HF2, HS⟩
          · have HN : Aside0 (¬ (k ≤ a.length ∧ k ≤ b.length ∧ a.take k = b.take k)) := ⟨fun h => h3 h.2.2⟩
            rw [decide_eq_false h3] at heq
            generalize hp_ : a.take k = p at E1 hP1 hp1 heq lp h3
            generalize hq_ : b.take k = q at E2 hP2 hp2 heq h3
            clear hp_ hq_
            have HP1 : Aside0 (∀ W, Below w.heap.size w W → Kd.C (Kd.int .u8) W A p.length p) := ⟨fun W hW => Kd.C_below hP1 hW⟩
            have HP2 : Aside0 (∀ W, Below w.heap.size w W → Kd.C (Kd.int .u8) W B q.length q) := ⟨fun W hW => Kd.C_below hP2 hW⟩
            have HLP1 := Aside0.mk hp1
            have HLP2 := Aside0.mk hp2
            have HEP := Aside0.mk heq
            clear hP1 hP2 hp1 hp2 heq lp h3
            go_wp2
            go_quiet ((go_at_call 20; exact quiet_drawn (colophonref00_EqBytes.calls _ A c p B d q false _ (HP1.out _ (HS.out.step (by repeat (first | exact Below.refl _ _ | apply below_alloc | apply pw_below_drewN | apply below_drew1 | apply bytes_step))).bel) HLP1.out (HP2.out _ (HS.out.step (by repeat (first | exact Below.refl _ _ | apply below_alloc | apply pw_below_drewN | apply below_drew1 | apply bytes_step))).bel) HLP2.out HEP.out)))
            go_wp2
            go_meet
            exact ⟨f, k, rfl, rfl, hfa, HF.out.lb, HF, HN, ⟨HS.out.step (by repeat (first | exact Below.refl _ _ | apply below_alloc | apply pw_below_drewN | apply below_drew1 | apply bytes_step))⟩⟩
        · have u2 : decide (k ≤ b.length) = false := decide_eq_false h2
          have HN : Aside0 (¬ (k ≤ a.length ∧ k ≤ b.length ∧ a.take k = b.take k)) := ⟨fun h => h2 h.2.1⟩
          go_wp2
          go_quiet (fail)
          go_wp2
          go_meet
          exact ⟨f, k, rfl, rfl, hfa, HF.out.lb, HF, HN, ⟨HS.out.step (by repeat (first | exact Below.refl _ _ | apply below_alloc | apply pw_below_drewN | apply below_drew1 | apply bytes_step))⟩⟩
      · have u1 : decide (k ≤ a.length) = false := decide_eq_false h1
        have HN : Aside0 (¬ (k ≤ a.length ∧ k ≤ b.length ∧ a.take k = b.take k)) := ⟨fun h => h1 h.1⟩
        go_wp2
        go_quiet (fail)
        go_wp2
        go_meet
        exact ⟨f, k, rfl, rfl, hfa, HF.out.lb, HF, HN, ⟨HS.out.step (by repeat (first | exact Below.refl _ _ | apply below_alloc | apply pw_below_drewN | apply below_drew1 | apply bytes_step))⟩⟩
  case rest =>
    clear HS
    obtain ⟨f, n0, rfl, rfl, hfa, hfb, HF, HN, HS⟩ := hcut
    go_upto_block 2 with (fail)
    go_cut [12, 13] from 16 (fun s12 s13 W => ∃ k : Nat, s12 = .int .i64 k ∧ f ≤ k ∧ k ≤ a.length ∧ Aside0 (∀ j, f ≤ j → j < k → ¬ (IsP a (j : Int) ∧ a.length - j ≤ b.length - f ∧ a.drop j = b.drop (b.length - (a.length - j)))) ∧ Aside0 (IsP a (k : Int) ∧ a.length - k ≤ b.length - f ∧ a.drop k = b.drop (b.length - (a.length - k))) ∧ Aside0 (Sta w W (fun W => IsRMap W m a ∧ IsBlk W w.heap.size (.cells #[.bool false, .int .i64 0, .int .i64 0, .int .i64 0, .int .i64 0, .string ⟨#[]⟩] 29) ∧ Kd.C (Kd.int .u8) W A a.length a ∧ Kd.C (Kd.int .u8) W B b.length b)))
    case first =>
      go_wp2
      go_loopw [12, 13] (fun s12 s13 W => ∃ k : Nat, s12 = .int .i64 k ∧ f ≤ k ∧ k ≤ a.length ∧ Aside0 (∀ j, f ≤ j → j < k → ¬ (IsP a (j : Int) ∧ a.length - j ≤ b.length - f ∧ a.drop j = b.drop (b.length - (a.length - j)))) ∧ Aside0 (Sta w W (fun W => IsRMap W m a ∧ IsBlk W w.heap.size (.cells #[.bool false, .int .i64 0, .int .i64 0, .int .i64 0, .int .i64 0, .string ⟨#[]⟩] 29) ∧ Kd.C (Kd.int .u8) W A a.length a ∧ Kd.C (Kd.int .u8) W B b.length b))) (fun s12 _ _ => a.length - (intOf s12).toNat)
      case atStart => exact ⟨f, rfl, Nat.le_refl _, hfa, ⟨fun j h1 h2 => absurd h2 (by omega)⟩, HS⟩
      case round =>
        clear HS
        obtain ⟨k, rfl, hfk, hka, HQ, HS⟩ := hrel
        have v1 : IntKind.i64.wrap ((a.length : Int) - k) = (a.length : Int) - k := IntWalk.i64_in _ (by omega)
        have v2 : IntKind.i64.wrap ((b.length : Int) - f) = (b.length : Int) - f := IntWalk.i64_in _ (by omega)
        have v3 : IntKind.i64.wrap ((b.length : Int) - ((a.length : Int) - k)) = (b.length : Int) - ((a.length : Int) - k) := IntWalk.i64_in _ (by omega)
        have end_ : k = a.length → (IsP a (k : Int) ∧ a.length - k ≤ b.length - f ∧ a.drop k = b.drop (b.length - (a.length - k))) := fun h => by
          subst h
          refine ⟨isP_end HAY.out HV.out, by omega, by simp⟩
        have more : ¬ (IsP a (k : Int) ∧ a.length - k ≤ b.length - f ∧ a.drop k = b.drop (b.length - (a.length - k))) → k < a.length ∧ ∀ j, f ≤ j → j < k + 1 → ¬ (IsP a (j : Int) ∧ a.length - j ≤ b.length - f ∧ a.drop j = b.drop (b.length - (a.length - j))) := fun h => by
          refine ⟨Nat.lt_of_le_of_ne hka (fun e => h (end_ e)), fun j h1 h2 => ?_⟩
          rcases Nat.lt_or_ge j k with h7 | h7
          · exact HQ.out j h1 h7
          · obtain rfl : j = k := by omega
            exact h
        clear end_
        cases hi : isPb a (k : Int) with
        | false =>
          obtain ⟨hlt, hm⟩ := more (fun h => by rw [(isPb_iff _ _).2 h.1] at hi; cases hi)
          have HQ2 := Aside0.mk hm
          have HI := Aside0.mk hi
          clear hi hm more
          go_wp2
          haveI : Nonempty (StaW w (fun W => IsRMap W m a ∧ IsBlk W w.heap.size (.cells #[.bool false, .int .i64 0, .int .i64 0, .int .i64 0, .int .i64 0, .string ⟨#[]⟩] 29) ∧ Kd.C (Kd.int .u8) W A a.length a ∧ Kd.C (Kd.int .u8) W B b.length b)) := ⟨⟨_, HS.out⟩⟩
          refine wp_region_sta (by kernel_rfl) (by kernel_rfl) HS.out ?_
          repeat (go_big_quiet_step ((go_at_call 56; rename_i nn; refine (Ris_is m a (k : Int) _ nn.h.now.1 hs HAY.out HV.out (by omega) (by omega)).mono ?_; rintro e w5 ⟨rfl, hb⟩; rw [HI.out]; exact ⟨rfl, ⟨w5, nn.h.call (Below.refl _ _) hb⟩, rfl⟩)))
          refine wpQuiet_nil ?_
          rintro _ ⟨nq, rfl⟩
          have HS2 := Aside0.mk nq.h
          clear HS
          have HS := HS2
          clear HS2
          generalize nq.W = W9 at HS ⊢
          go_wp2
          go_roundw
          case measure => simp [intOf]; omega
          case rel => exact ⟨k + 1, by simp, by omega, by omega, HQ2, HS⟩
        | true =>
          have HI := Aside0.mk hi
          have hip := (isPb_iff _ _).1 hi
          clear hi
          by_cases h2 : a.length - k ≤ b.length - f
          · have u2 : decide ((a.length : Int) - k ≤ (b.length : Int) - f) = true := decide_eq_true (by omega)
            obtain ⟨B4, d4, E1, hP1, hp1⟩ := cut_suf w A c a (k : Int) HR1.out HC.out (by omega) (by omega)
            obtain ⟨B5, d5, E2, hP2, hp2⟩ := cut_suf w B d b ((b.length : Int) - ((a.length : Int) - k)) HR2.out HD.out (by omega) (by omega)
            rw [Int.toNat_natCast] at E1 hP1 hp1
            rw [show ((b.length : Int) - ((a.length : Int) - k)).toNat = b.length - (a.length - k) by omega] at E2 hP2 hp2
            have lp : (a.drop k).length ≤ a.length := by rw [List.length_drop]; omega
            have heq := EqBytes_f (a.drop k) (b.drop (b.length - (a.length - k))) (by omega) (Nat.lt_succ_self _)
            by_cases h3 : a.drop k = b.drop (b.length - (a.length - k))
            · have HG : Aside0 (IsP a (k : Int) ∧ a.length - k ≤ b.length - f ∧ a.drop k = b.drop (b.length - (a.length - k))) := ⟨⟨hip, h2, h3⟩⟩
              rw [decide_eq_true h3] at heq
              generalize hp_ : a.drop k = p at E1 hP1 hp1 heq lp h3
              generalize hq_ : b.drop (b.length - (a.length - k)) = q at E2 hP2 hp2 heq h3
              clear hp_ hq_
              have HP1 : Aside0 (∀ W, Below w.heap.size w W → Kd.C (Kd.int .u8) W B4 p.length p) := ⟨fun W hW => Kd.C_below hP1 hW⟩
              have HP2 : Aside0 (∀ W, Below w.heap.size w W → Kd.C (Kd.int .u8) W B5 q.length q) := ⟨fun W hW => Kd.C_below hP2 hW⟩
              have HLP1 := Aside0.mk hp1
              have HLP2 := Aside0.mk hp2
              have HEP := Aside0.mk heq
              clear hP1 hP2 hp1 hp2 heq lp h3 more hip
              go_wp2
              haveI : Nonempty (StaW w (fun W => IsRMap W m a ∧ IsBlk W w.heap.size (.cells #[.bool false, .int .i64 0, .int .i64 0, .int .i64 0, .int .i64 0, .string ⟨#[]⟩] 29) ∧ Kd.C (Kd.int .u8) W A a.length a ∧ Kd.C (Kd.int .u8) W B b.length b)) := ⟨⟨_, HS.out⟩⟩
              refine wp_region_sta (by kernel_rfl) (by kernel_rfl) HS.out ?_
              repeat (go_big_quiet_step (first | (go_at_call 56; rename_i nn; refine (Ris_is m a (k : Int) _ nn.h.now.1 hs HAY.out HV.out (by omega) (by omega)).mono ?_; rintro e w5 ⟨rfl, hb⟩; rw [HI.out]; exact ⟨rfl, ⟨w5, nn.h.call (Below.refl _ _) hb⟩, rfl⟩) | (go_at_call 20; rename_i nn; refine (colophonref00_EqBytes.calls _ B4 d4 p B5 d5 q true _ (HP1.out _ nn.h.bel) HLP1.out (HP2.out _ nn.h.bel) HLP2.out HEP.out).mono ?_; rintro e wq ⟨rfl, hd⟩; exact ⟨rfl, ⟨wq, nn.h.call (Below.refl _ _) hd.below⟩, rfl⟩)))
              refine wpQuiet_nil ?_
              rintro _ ⟨nq, rfl⟩
              have HS2 := Aside0.mk nq.h
              clear HS
              have HS := HS2
              clear HS2
              generalize nq.W = W9 at HS ⊢
              go_wp2
              go_meet
              exact ⟨k, rfl, hfk, hka, HQ, HG, ⟨HS.out.step (by repeat (first | exact Below.refl _ _ | apply below_alloc | apply pw_below_drewN | apply below_drew1 | apply bytes_step))⟩⟩
            · obtain ⟨hlt, hm⟩ := more (fun h => h3 h.2.2)
              have HQ2 := Aside0.mk hm
              rw [decide_eq_false h3] at heq
              generalize hp_ : a.drop k = p at E1 hP1 hp1 heq lp h3
              generalize hq_ : b.drop (b.length - (a.length - k)) = q at E2 hP2 hp2 heq h3
              clear hp_ hq_
              have HP1 : Aside0 (∀ W, Below w.heap.size w W → Kd.C (Kd.int .u8) W B4 p.length p) := ⟨fun W hW => Kd.C_below hP1 hW⟩
              have HP2 : Aside0 (∀ W, Below w.heap.size w W → Kd.C (Kd.int .u8) W B5 q.length q) := ⟨fun W hW => Kd.C_below hP2 hW⟩
              have HLP1 := Aside0.mk hp1
              have HLP2 := Aside0.mk hp2
              have HEP := Aside0.mk heq
              clear hP1 hP2 hp1 hp2 heq lp h3 more hip hm
              go_wp2
              haveI : Nonempty (StaW w (fun W => IsRMap W m a ∧ IsBlk W w.heap.size (.cells #[.bool false, .int .i64 0, .int .i64 0, .int .i64 0, .int .i64 0, .string ⟨#[]⟩] 29) ∧ Kd.C (Kd.int .u8) W A a.length a ∧ Kd.C (Kd.int .u8) W B b.length b)) := ⟨⟨_, HS.out⟩⟩
              refine wp_region_sta (by kernel_rfl) (by kernel_rfl) HS.out ?_
              repeat (go_big_quiet_step (first | (go_at_call 56; rename_i nn; refine (Ris_is m a (k : Int) _ nn.h.now.1 hs HAY.out HV.out (by omega) (by omega)).mono ?_; rintro e w5 ⟨rfl, hb⟩; rw [HI.out]; exact ⟨rfl, ⟨w5, nn.h.call (Below.refl _ _) hb⟩, rfl⟩) | (go_at_call 20; rename_i nn; refine (colophonref00_EqBytes.calls _ B4 d4 p B5 d5 q false _ (HP1.out _ nn.h.bel) HLP1.out (HP2.out _ nn.h.bel) HLP2.out HEP.out).mono ?_; rintro e wq ⟨rfl, hd⟩; exact ⟨rfl, ⟨wq, nn.h.call (Below.refl _ _) hd.below⟩, rfl⟩)))
              refine wpQuiet_nil ?_
              rintro _ ⟨nq, rfl⟩
              have HS2 := Aside0.mk nq.h
              clear HS
              have HS := HS2
              clear HS2
              generalize nq.W = W9 at HS ⊢
              go_wp2
              go_roundw
              case measure => simp [intOf]; omega
              case rel => exact ⟨k + 1, by simp, by omega, by omega, HQ2, HS⟩
          · have u2 : decide ((a.length : Int) - k ≤ (b.length : Int) - f) = false := decide_eq_false (by omega)
            obtain ⟨hlt, hm⟩ := more (fun h => h2 h.2.1)
            have HQ2 := Aside0.mk hm
            clear hm more hip
            go_wp2
            haveI : Nonempty (StaW w (fun W => IsRMap W m a ∧ IsBlk W w.heap.size (.cells #[.bool false, .int .i64 0, .int .i64 0, .int .i64 0, .int .i64 0, .string ⟨#[]⟩] 29) ∧ Kd.C (Kd.int .u8) W A a.length a ∧ Kd.C (Kd.int .u8) W B b.length b)) := ⟨⟨_, HS.out⟩⟩
            refine wp_region_sta (by kernel_rfl) (by kernel_rfl) HS.out ?_
            repeat (go_big_quiet_step ((go_at_call 56; rename_i nn; refine (Ris_is m a (k : Int) _ nn.h.now.1 hs HAY.out HV.out (by omega) (by omega)).mono ?_; rintro e w5 ⟨rfl, hb⟩; rw [HI.out]; exact ⟨rfl, ⟨w5, nn.h.call (Below.refl _ _) hb⟩, rfl⟩)))
            refine wpQuiet_nil ?_
            rintro _ ⟨nq, rfl⟩
            have HS2 := Aside0.mk nq.h
            clear HS
            have HS := HS2
            clear HS2
            generalize nq.W = W9 at HS ⊢
            go_wp2
            go_roundw
            case measure => simp [intOf]; omega
            case rel => exact ⟨k + 1, by simp, by omega, by omega, HQ2, HS⟩
    case rest =>
      clear HS
      obtain ⟨k, rfl, hfk, hka, HQ, HG, HS⟩ := hcut
      obtain ⟨g1, g2, g3⟩ := HG.out
      have hdiff := isdiff_of HF.out HN.out hfb hfk hka HQ.out HG.out
      have lab : a.length - k ≤ b.length - f := g2
      obtain ⟨SB, sd, E2, hCs, hsd⟩ := cut_seg w B d b (f : Int) ((b.length : Int) - ((a.length : Int) - k)) HR2.out HD.out (by omega) (by omega) (by omega)
      rw [show ((b.length : Int) - ((a.length : Int) - k)).toNat = b.length - (a.length - k) by omega, Int.toNat_natCast] at E2 hCs hsd
      obtain ⟨seg, hseg⟩ : ∃ x, (b.take (b.length - (a.length - k))).drop f = x := ⟨_, rfl⟩
      rw [hseg] at E2 hCs hsd
      obtain ⟨ss, hss⟩ : ∃ ss, strOfNums seg = ss := ⟨_, rfl⟩
      have HSS := Aside0.mk hss
      obtain ⟨fa, hfa'⟩ : ∃ x : Int, (fnd a (f : Int) : Int) = x := ⟨_, rfl⟩
      obtain ⟨pa, hpa'⟩ : ∃ x : Int, pch a (f : Int) = x := ⟨_, rfl⟩
      obtain ⟨fb, hfb'⟩ : ∃ x : Int, (fnd a (k : Int) : Int) = x := ⟨_, rfl⟩
      obtain ⟨pb, hpb'⟩ : ∃ x : Int, pch a (k : Int) = x := ⟨_, rfl⟩
      have HPO : Aside0 (IsDiff a b f (a.length - k) ∧ Value.agg #[.bool false, .int .i64 fa, .int .i64 pa, .int .i64 fb, .int .i64 pb, .string ss] = .agg #[.bool false, .int .i64 (fnd a f : Int), .int .i64 (pch a f), .int .i64 (fnd a ((a.length - (a.length - k) : Nat) : Int) : Int), .int .i64 (pch a ((a.length - (a.length - k) : Nat) : Int)), .string (strOfNums ((b.take (b.length - (a.length - k))).drop f))]) := ⟨⟨hdiff, by rw [hseg, hss, show a.length - (a.length - k) = k by omega, hfa', hpa', hfb', hpb']⟩⟩
      have HFA := Aside0.mk hfa'
      have HPA := Aside0.mk hpa'
      have HFB := Aside0.mk hfb'
      have HPB := Aside0.mk hpb'
      have HCS : Aside0 (∀ W, Below w.heap.size w W → Kd.C (Kd.int .u8) W SB seg.length seg) := ⟨fun W hW => Kd.C_below hCs hW⟩
      clear hCs hdiff hseg hss hfa' hpa' hfb' hpb' HQ HG HF HN hsd g1 g2 g3
      go_upto_region 20 with (go_at_call 57; refine (RRange_is m a (f : Int) (k : Int) _ (HS.out.step (by repeat (first | exact Below.refl _ _ | apply below_alloc | apply pw_below_drewN | apply below_drew1 | apply bytes_step))).now.1 hs HAY.out HV.out (by omega) (by omega) (by omega)).mono ?_; rintro e w4 ⟨rfl, hb⟩; rw [HFA.out, HPA.out, HFB.out, HPB.out]; have m_ := Aside0.mk (HS.out.call (by repeat (first | exact Below.refl _ _ | apply below_alloc | apply pw_below_drewN | apply below_drew1 | apply bytes_step)) hb); clear HS hb ; have HS := m_; clear m_)
      have HKS : ∀ W : World, Kd.C (Kd.int .u8) W SB seg.length seg → (convert 22 9 (.slice SB seg.length sd)).run Try.prog W = .ok (.string ss) W := fun W h => by
        have h2 := Kd.C_string (P := Try.prog) (w := W) (src := 22) (dst := 9) (e := 5) (c := sd) Try.underlying22 Try.underlying5 Try.underlying9 h
        rw [HSS.out] at h2
        exact h2
      have HS9 := Aside0.mk ((HS.out.step (below_alloc (Below.refl w4.heap.size w4) (.cells #[.int .i64 fa, .int .i64 pa, .int .i64 fb, .int .i64 pb] 27))).add (blk_new w4 (.cells #[.int .i64 fa, .int .i64 pa, .int .i64 fb, .int .i64 pb] 27)) (keeps_blk _ _))
      have hg6 := blk_lt HS.out.now.2.1
      clear HS
      generalize w4.alloc (.cells #[.int .i64 fa, .int .i64 pa, .int .i64 fb, .int .i64 pb] 27) = W6 at HS9 ⊢
      generalize w4.heap.size = g6 at HS9 hg6 ⊢
      have HS := HS9
      clear HS9
      have n1 := blk_lt HS.out.now.2.2.1
      have k0 : W6.cell? ⟨w.heap.size, 0, none⟩ = some (.bool false) := HS.out.now.2.2.1.cell 0
      have f0 := HS.out.now.2.2.1.frozen 0
      have k1 : W6.cell? ⟨w.heap.size, 1, none⟩ = some (.int .i64 0) := HS.out.now.2.2.1.cell 1
      have f1 := HS.out.now.2.2.1.frozen 1
      have k2 : W6.cell? ⟨w.heap.size, 2, none⟩ = some (.int .i64 0) := HS.out.now.2.2.1.cell 2
      have f2 := HS.out.now.2.2.1.frozen 2
      have k3 : W6.cell? ⟨w.heap.size, 3, none⟩ = some (.int .i64 0) := HS.out.now.2.2.1.cell 3
      have f3 := HS.out.now.2.2.1.frozen 3
      have k4 : W6.cell? ⟨w.heap.size, 4, none⟩ = some (.int .i64 0) := HS.out.now.2.2.1.cell 4
      have f4 := HS.out.now.2.2.1.frozen 4
      have k5 : W6.cell? ⟨w.heap.size, 5, none⟩ = some (.string ⟨#[]⟩) := HS.out.now.2.2.1.cell 5
      have f5 := HS.out.now.2.2.1.frozen 5
      have z0 : W6.cell? ⟨g6, 0, none⟩ = some (.int .i64 fa) := HS.out.now.1.cell 0
      have z1 : W6.cell? ⟨g6, 1, none⟩ = some (.int .i64 pa) := HS.out.now.1.cell 1
      have z2 : W6.cell? ⟨g6, 2, none⟩ = some (.int .i64 fb) := HS.out.now.1.cell 2
      have z3 : W6.cell? ⟨g6, 3, none⟩ = some (.int .i64 pb) := HS.out.now.1.cell 3
      have e3 := Nat.ne_of_lt hg6
      have e4 := Ne.symm e3
      have ks0 := HKS W6 (HCS.out _ HS.out.bel)
      have ks1 := HKS W6.drew (Kd.C_drew (HCS.out _ HS.out.bel))
      have q9 : Below w.heap.size w ((((((W6.setCell ⟨w.heap.size, 0, none⟩ (.bool false)).setCell ⟨w.heap.size, 1, none⟩ (.int .i64 fa)).setCell ⟨w.heap.size, 2, none⟩ (.int .i64 pa)).setCell ⟨w.heap.size, 3, none⟩ (.int .i64 fb)).setCell ⟨w.heap.size, 4, none⟩ (.int .i64 pb)).setCell ⟨w.heap.size, 5, none⟩ (.string ss)) := ((((((HS.out.bel.setCell (Nat.le_refl _) _).setCell (Nat.le_refl _) _).setCell (Nat.le_refl _) _).setCell (Nat.le_refl _) _).setCell (Nat.le_refl _) _).setCell (Nat.le_refl _) _)
      have ks5 := HKS (((((((W6.setCell ⟨w.heap.size, 0, none⟩ (.bool false)).setCell ⟨w.heap.size, 1, none⟩ (.int .i64 fa)).setCell ⟨w.heap.size, 2, none⟩ (.int .i64 pa)).setCell ⟨w.heap.size, 3, none⟩ (.int .i64 fb)).setCell ⟨w.heap.size, 4, none⟩ (.int .i64 pb)).setCell ⟨w.heap.size, 5, none⟩ (.string ss)).drew) (Kd.C_drew (HCS.out _ q9))
      clear q9 HKS
      have v4 : IntKind.i64.wrap ((a.length : Int) - k) = (a.length : Int) - k := IntWalk.i64_in _ (by omega)
      have v5 : IntKind.i64.wrap ((b.length : Int) - ((a.length : Int) - k)) = (b.length : Int) - ((a.length : Int) - k) := IntWalk.i64_in _ (by omega)
      have v6 : (0 : Int) ≤ f := by omega
      have v7 : (f : Int) ≤ (b.length : Int) - ((a.length : Int) - k) := by omega
      go_region_held3 (fun wx => wx.cell? ⟨g6, 0, none⟩ = some (.int .i64 fa) ∧ wx.cell? ⟨g6, 1, none⟩ = some (.int .i64 pa) ∧ wx.cell? ⟨g6, 2, none⟩ = some (.int .i64 fb) ∧ wx.cell? ⟨g6, 3, none⟩ = some (.int .i64 pb) ∧ (convert 22 9 (.slice SB seg.length sd)).run Try.prog wx = .ok (.string ss) wx) (go_keep) (fail)
      all_goals
        go_wp2
        first | rw [Exit.noGoto_ret] | skip
        refine bodyPost_ret (v := .tuple #[.agg #[.bool false, .int .i64 fa, .int .i64 pa, .int .i64 fb, .int .i64 pb, .string ss], .int .i64 0]) (results_ct (p := 4) (u := 5) (ty := 29) rfl _ _ w.heap.size 29 #[.bool false, .int .i64 fa, .int .i64 pa, .int .i64 fb, .int .i64 pb, .string ss] (0, 0) _ rfl ?_ Try.underlying29 rfl (by kernel_rfl)) rfl ⟨⟨f, a.length - k, HPO.out.1, by rw [HPO.out.2]⟩, ?_⟩
        · show IsBlk _ w.heap.size _
          (repeat (with_reducible first | refine IsBlk.alloc ?_ _ | refine IsBlk.drewN ?_ _ | refine IsBlk.drew1 ?_))
          with_reducible refine blk6 (z0 := .bool false) (z1 := .int .i64 0) (z2 := .int .i64 0) (z3 := .int .i64 0) (z4 := .int .i64 0) (z5 := .string ⟨#[]⟩) ?_ _ _ _ _ _ _
          repeat (with_reducible first | exact HS.out.now.2.2.1 | refine IsBlk.alloc ?_ _ | refine IsBlk.drewN ?_ _ | refine IsBlk.drew1 ?_)
        · have hS := HS.out.bel
          (repeat (first | (with_reducible exact hS) | (with_reducible refine below_alloc ?_ _) | (with_reducible refine pw_below_drewN ?_ _) | (with_reducible refine below_drew1 ?_) | ((with_reducible refine Below.setCell ?_ ?_ _); rotate_left; (focus (first | (simp; done) | (simp; omega))))))
      
end Go.Proofs.Ytjebkpcekkkbkaa.B

/-
  EditDiff, walked.
-/
namespace Go.Proofs.Ytjebkpcekkkbkaa.B
open Go.RowKit Go.Shelf Go.Proofs Go.Proofs.YtjebkpcekkkbkaaW.PrintWords Go.Proofs.YtjebkpcekkkbkaaW.PrintLast Go.Proofs.YtjebkpcekkkbkaaW.PrintMore Go.Proofs.Ytjebkpcekkkbkaa.FBase
attribute [local go_sem] max2_int min2_int max_two min_two
theorem Diff_two (p q : List Int) (hA : Bytes p) (hB : Bytes q) (hp : p.length ≤ 1000) (hq : q.length ≤ 1000) : ∃ (wb : Bool) (y0 y1 y2 y3 : Int) (s : ByteArray) (r : Int),
    (∀ (A B : Option Addr) (c d : Nat) (w : World), Kd.C (Kd.int .u8) w A p.length p → p.length ≤ c → Kd.C (Kd.int .u8) w B q.length q → q.length ≤ d → (A = none → c = 0) → Calls Try.prog 18 #[.slice A p.length c, .slice B q.length d] w fun e w' => e = .returned (.tuple #[.agg #[.bool wb, .int .i64 y0, .int .i64 y1, .int .i64 y2, .int .i64 y3, .string s], .int .i64 r]) ∧ Below w.heap.size w w') ∧ (∀ (A B : Option Addr) (c d : Nat) (w : World), Kd.C (Kd.int .u8) w A p.length p → p.length ≤ c → Kd.C (Kd.int .u8) w B q.length q → q.length ≤ d → (A = none → c = 0) → Calls Try.prog 19 #[.slice A p.length c, .slice B q.length d] w fun e w' => e = .returned (.tuple #[.agg #[.bool wb, .int .i64 y0, .int .i64 y1, .int .i64 y2, .int .i64 y3, .string s], .int .i64 r]) ∧ Below w.heap.size w w') := by
  by_cases h1 : (chk p).2 = 0
  · by_cases h2 : (chk q).2 = 0
    · by_cases hex : ∃ f t, IsDiff p q f t
      · obtain ⟨f, t, hd⟩ := hex
        refine ⟨false, (fnd p f : Int), pch p f, (fnd p ((p.length - t : Nat) : Int) : Int), pch p ((p.length - t : Nat) : Int), strOfNums ((q.take (q.length - t)).drop f), 0, fun A B c d w hr hc hr2 hd2 hn => ?_, fun A B c d w hr hc hr2 hd2 hn => ?_⟩
        · refine (Diff_ok A B c d p q w hr hc hr2 hd2 hn hA hB (by omega) (by omega) h1 h2 (by omega)).mono ?_
          rintro e w' ⟨⟨f', t', h, rfl⟩, hb⟩
          obtain ⟨rfl, rfl⟩ := h.uniq hd
          exact ⟨rfl, hb⟩
        · refine (RDiff_ok A B c d p q w hr hc hr2 hd2 hn hA hB (by omega) (by omega) h1 h2).mono ?_
          rintro e w' ⟨⟨f', t', h, rfl⟩, hb⟩
          obtain ⟨rfl, rfl⟩ := h.uniq hd
          exact ⟨rfl, hb⟩
      · refine ⟨false, 0, 0, 0, 0, ⟨#[]⟩, 0, fun A B c d w hr hc hr2 hd2 hn => ?_, fun A B c d w hr hc hr2 hd2 hn => ?_⟩
        · refine (Diff_ok A B c d p q w hr hc hr2 hd2 hn hA hB (by omega) (by omega) h1 h2 (by omega)).mono ?_
          rintro e w' ⟨⟨f', t', h, rfl⟩, hb⟩
          exact absurd ⟨f', t', h⟩ hex
        · refine (RDiff_ok A B c d p q w hr hc hr2 hd2 hn hA hB (by omega) (by omega) h1 h2).mono ?_
          rintro e w' ⟨⟨f', t', h, rfl⟩, hb⟩
          exact absurd ⟨f', t', h⟩ hex
    · exact ⟨false, 0, 0, 0, 0, ⟨#[]⟩, (chk q).2, fun A B c d w hr hc hr2 hd2 hn => Diff_bad A B c d p q w hr hc hr2 hd2 hn hA hB (by omega) (by omega) _ (by rw [if_neg (by omega)]) h2,
        fun A B c d w hr hc hr2 hd2 hn => RDiff_bad2 A B c d p q w hr hc hr2 hd2 hn hA hB (by omega) (by omega) h1 _ rfl h2⟩
  · exact ⟨false, 0, 0, 0, 0, ⟨#[]⟩, (chk p).2, fun A B c d w hr hc hr2 hd2 hn => Diff_bad A B c d p q w hr hc hr2 hd2 hn hA hB (by omega) (by omega) _ (by rw [if_pos h1]) h1,
      fun A B c d w hr hc hr2 hd2 hn => RDiff_bad1 A B c d p q w hr hc hr2 hd2 hn hA hB (by omega) (by omega) _ rfl h1⟩
set_option maxRecDepth 100000 in
set_option maxHeartbeats 8000000 in
theorem EditDiff_ok (A B : Option Addr) (c d : Nat) (a b : List Int) (w : World) (hr : Kd.C (Kd.int .u8) w A a.length a) (hc : a.length ≤ c) (hr2 : Kd.C (Kd.int .u8) w B b.length b) (hd : b.length ≤ d) (hn : A = none → c = 0) (hA : Bytes a) (hB : Bytes b) (hs : a.length ≤ 140737488351232) (hs2 : b.length ≤ 140737488351232) :
    Calls Try.prog 3 #[.slice A a.length c, .slice B b.length d] w fun e w' => e = .returned (.bool true) ∧ Below w.heap.size w w' := by
  obtain ⟨M, hM, M1, M2⟩ : ∃ M : Nat, (if (300 : Int) < (a.length : Int) then (300 : Int) else (a.length : Int)) = (M : Int) ∧ M ≤ a.length ∧ M ≤ 300 := by
    by_cases h : (300 : Int) < (a.length : Int)
    · exact ⟨300, if_pos h, by omega, by omega⟩
    · exact ⟨a.length, if_neg h, by omega, by omega⟩
  obtain ⟨N, hN, N1, N2⟩ : ∃ M : Nat, (if (300 : Int) < (b.length : Int) then (300 : Int) else (b.length : Int)) = (M : Int) ∧ M ≤ b.length ∧ M ≤ 300 := by
    by_cases h : (300 : Int) < (b.length : Int)
    · exact ⟨300, if_pos h, by omega, by omega⟩
    · exact ⟨b.length, if_neg h, by omega, by omega⟩
  obtain ⟨X1, hP, hp⟩ := cut_pre w A c a (M : Int) hr hc (by omega) (by omega)
  obtain ⟨X2, hQ, hq⟩ := cut_pre w B d b (N : Int) hr2 hd (by omega) (by omega)
  rw [Int.toNat_natCast] at X1 X2 hP hQ hp hq
  have lp : (a.take M).length = M := by rw [List.length_take]; omega
  have lq : (b.take N).length = N := by rw [List.length_take]; omega
  have bp : Bytes (a.take M) := hA.take _
  have bq : Bytes (b.take N) := hB.take _
  generalize a.take M = p at *
  generalize b.take N = q at *
  obtain ⟨wb, y0, y1, y2, y3, s, r, hd1, hd2⟩ := Diff_two p q bp bq (by omega) (by omega)
  have HD1 := Aside0.mk hd1
  have HD2 := Aside0.mk hd2
  have HS := Aside0.mk (((Sta.start w).only hP (keeps_C _ _ _ _)).add hQ (keeps_C _ _ _ _))
  have HCp := Aside0.mk hp
  have HCq := Aside0.mk hq
  have HNA := Aside0.mk hn
  have hs6 : p.length ≤ 1048576 := by omega
  have hs7 : q.length ≤ 1048576 := by omega
  have HEP := Aside0.mk (eq_f p hs6)
  have HEQ := Aside0.mk (eq_f q hs7)
  have ca := True.intro
  have cb := True.intro
  have e1 := True.intro
  have e2 := True.intro
  clear hr hr2 hc hd hA hB hP hQ hp hq hd1 hd2 bp bq lp lq hn
  go_enter Try.func3, Try.ntmps3
  go_upto_region 1 with (fail)
  go_quiet (fail)
  have HS2 := Aside0.mk (HS.out.step (by repeat (first | exact Below.refl _ _ | apply below_alloc | apply pw_below_drewN | apply below_drew1 | apply bytes_step)))
  clear HS
  have HS := HS2
  clear HS2
  go_wp2_with (first | (have _t := ca; go_at_call 17; refine (Copy_ok A c p _ (HS.out.step (by repeat (first | exact Below.refl _ _ | apply below_alloc | apply pw_below_drewN | apply below_drew1 | apply bytes_step))).now.2 HCp.out hs6).mono ?_; rintro e w1 ⟨v, rfl, hR, hb⟩; obtain ⟨A2, k2, rfl, hl2, hn2, hC2⟩ := Ap.read (.inr hR); have HLA2 := Aside0.mk hl2; have HNA2 := Aside0.mk hn2; clear hR hl2 hn2; have m_ := Aside0.mk ((HS.out.call (by repeat (first | exact Below.refl _ _ | apply below_alloc | apply pw_below_drewN | apply below_drew1 | apply bytes_step)) hb).add hC2 (keeps_C _ _ _ _)); clear HS hb hC2; have HS := m_; clear m_; clear ca _t) | (have _t := cb; go_at_call 17; refine (Copy_ok B d q _ (HS.out.step (by repeat (first | exact Below.refl _ _ | apply below_alloc | apply pw_below_drewN | apply below_drew1 | apply bytes_step))).now.2.1 HCq.out hs7).mono ?_; rintro e w2 ⟨v, rfl, hR, hb⟩; obtain ⟨A3, k3, rfl, hl2, hn2, hC2⟩ := Ap.read (.inr hR); have HLA3 := Aside0.mk hl2; have HNA3 := Aside0.mk hn2; clear hR hl2 hn2; have m_ := Aside0.mk ((HS.out.call (by repeat (first | exact Below.refl _ _ | apply below_alloc | apply pw_below_drewN | apply below_drew1 | apply bytes_step)) hb).add hC2 (keeps_C _ _ _ _)); clear HS hb hC2; have HS := m_; clear m_; clear cb _t) | (go_at_call 18; refine (HD1.out A2 A3 k2 k3 _ (HS.out.step (by repeat (first | exact Below.refl _ _ | apply below_alloc | apply pw_below_drewN | apply below_drew1 | apply bytes_step))).now.2.1 HLA2.out (HS.out.step (by repeat (first | exact Below.refl _ _ | apply below_alloc | apply pw_below_drewN | apply below_drew1 | apply bytes_step))).now.1 HLA3.out HNA2.out).mono ?_; rintro e w3 ⟨rfl, hb⟩; have m_ := Aside0.mk (HS.out.call (by repeat (first | exact Below.refl _ _ | apply below_alloc | apply pw_below_drewN | apply below_drew1 | apply bytes_step)) hb); clear HS hb ; have HS := m_; clear m_) | (go_at_call 19; refine (HD2.out A B c d _ (HS.out.step (by repeat (first | exact Below.refl _ _ | apply below_alloc | apply pw_below_drewN | apply below_drew1 | apply bytes_step))).now.2.2.2 HCp.out (HS.out.step (by repeat (first | exact Below.refl _ _ | apply below_alloc | apply pw_below_drewN | apply below_drew1 | apply bytes_step))).now.2.2.1 HCq.out HNA.out).mono ?_; rintro e w4 ⟨rfl, hb⟩; have hbx := IsBlk.below (blk_new w3 (.cells #[.bool wb, .int .i64 y0, .int .i64 y1, .int .i64 y2, .int .i64 y3, .string s] 29)) hb; have m_ := Aside0.mk ((HS.out.call (by repeat (first | exact Below.refl _ _ | apply below_alloc | apply pw_below_drewN | apply below_drew1 | apply bytes_step)) hb).add hbx (keeps_blk _ _)); clear HS hb hbx; have HS := m_; clear m_; have hg := blk_lt HS.out.now.1; have z0 : w4.cell? ⟨w3.heap.size, 0, none⟩ = some (.bool wb) := HS.out.now.1.cell 0; have z1 : w4.cell? ⟨w3.heap.size, 1, none⟩ = some (.int .i64 y0) := HS.out.now.1.cell 1; have z2 : w4.cell? ⟨w3.heap.size, 2, none⟩ = some (.int .i64 y1) := HS.out.now.1.cell 2; have z3 : w4.cell? ⟨w3.heap.size, 3, none⟩ = some (.int .i64 y2) := HS.out.now.1.cell 3; have z4 : w4.cell? ⟨w3.heap.size, 4, none⟩ = some (.int .i64 y3) := HS.out.now.1.cell 4; have z5 : w4.cell? ⟨w3.heap.size, 5, none⟩ = some (.string s) := HS.out.now.1.cell 5; have z0a := cell_alloc1 z0; have z1a := cell_alloc1 z1; have z2a := cell_alloc1 z2; have z3a := cell_alloc1 z3; have z4a := cell_alloc1 z4; have z5a := cell_alloc1 z5) | (have _t := e1; go_at_call 20; refine (colophonref00_EqBytes.calls _ A2 k2 p A c p true _ (HS.out.step (by repeat (first | exact Below.refl _ _ | apply below_alloc | apply pw_below_drewN | apply below_drew1 | apply bytes_step))).now.2.2.1 HLA2.out (HS.out.step (by repeat (first | exact Below.refl _ _ | apply below_alloc | apply pw_below_drewN | apply below_drew1 | apply bytes_step))).now.2.2.2.2 HCp.out HEP.out).mono ?_; rintro e wq ⟨rfl, hd⟩; have hb := hd.below; clear hd; have m_ := Aside0.mk (HS.out.call (by repeat (first | exact Below.refl _ _ | apply below_alloc | apply pw_below_drewN | apply below_drew1 | apply bytes_step)) hb); clear HS hb ; have HS := m_; clear m_; clear e1 _t) | (have _t := e2; go_at_call 20; refine (colophonref00_EqBytes.calls _ A3 k3 q B d q true _ (HS.out.step (by repeat (first | exact Below.refl _ _ | apply below_alloc | apply pw_below_drewN | apply below_drew1 | apply bytes_step))).now.2.1 HLA3.out (HS.out.step (by repeat (first | exact Below.refl _ _ | apply below_alloc | apply pw_below_drewN | apply below_drew1 | apply bytes_step))).now.2.2.2.1 HCq.out HEQ.out).mono ?_; rintro e wq ⟨rfl, hd⟩; have hb := hd.below; clear hd; have m_ := Aside0.mk (HS.out.call (by repeat (first | exact Below.refl _ _ | apply below_alloc | apply pw_below_drewN | apply below_drew1 | apply bytes_step)) hb); clear HS hb ; have HS := m_; clear m_; clear e2 _t) | (go_at_call 21; refine (works15_ok _).mono ?_; rintro e w1 ⟨rfl, hb⟩; have m_ := Aside0.mk (HS.out.call (by repeat (first | exact Below.refl _ _ | apply below_alloc | apply pw_below_drewN | apply below_drew1 | apply bytes_step)) hb); clear HS hb ; have HS := m_; clear m_))
  go_ret
  exact ⟨rfl, (HS.out.step (by repeat (first | exact Below.refl _ _ | apply below_alloc | apply pw_below_drewN | apply below_drew1 | apply bytes_step))).bel⟩
theorem EditDiff_said (A : Option Addr) (n c : Nat) (zs : List Int) (B : Option Addr) (m d : Nat) (ys : List Int) (W : World) (h : IsRow .u8 W A n c zs) (hsz : n * 1 ≤ 140737488351232) (g : IsRow .u8 W B m d ys) (gsz : m * 1 ≤ 140737488351232) :
    Calls Try.prog 3 #[.slice A n c, .slice B m d] W fun e W' => e = .returned (.bool true) ∧ Below W.heap.size W W' := by
  have hn : A = none → c = 0 := fun e => by
    subst e
    rcases h with ⟨_, _, h, _⟩ | ⟨x, h, _⟩
    · exact h
    · cases h
  obtain ⟨a, rfl, hc, hC, hw⟩ := h.reads
  obtain ⟨b, rfl, hd, hD, hv⟩ := g.reads
  exact EditDiff_ok A B c d a b W hC hc hD hd hn (fun x hx => byte_wf (hw x hx)) (fun x hx => byte_wf (hv x hx)) (by omega) (by omega)
end Go.Proofs.Ytjebkpcekkkbkaa.B

namespace Go.Proofs.Ytjebkpcekkkbkaa.editDiff
open Go.ChangeShapes Go.WideShapes Go.ChangeAt Go.RowKit Go.Proofs.Ytjebkpcekkkbkaa.B
theorem own : ownKnob Try.prog.godebug = none := by kernel_rfl
theorem laidOut : laidOutB Try.prog = true := by kernel_rfl
set_option maxRecDepth 100000 in
theorem lifted (os : Os) (started : os.Started) (H : Type) (enc : TypeId × Value → H) :
    ReturnsInHanded {} Try.checked os 3 .any (Rows.editDiffSpec.pre6 enc Try.prog Try.f3 Rows.editDiffRow.domain false) (Rows.editDiffSpec.post enc Try.prog Try.f3 false true false false) := by
  refine returnsInHanded_of_change_sized (C := Try.checked) own started (by kernel_rfl) Try.func3
    (ChangeSpec.witness6 (enc := enc) (C := Try.checked) false ⟨#[], #[.slice none 0 0, .slice none 0 0], []⟩ 8 (by kernel_rfl) (by kernel_rfl) (by kernel_rfl) (by kernel_rfl)) ?_
  intro W base args ds gs before hval0 hW hcnd hsz0 _
  have hsz : (DataW.weightsEach Try.prog (Try.f3.params.toList ++ Rows.editDiffSpec.plain.varTypes Try.prog) (ds ++ gs)).all (· ≤ reachBytes) = true := hsz0
  have hval : ∀ (j : Nat) t v, Try.f3.params[j]? = some t → args[j]? = some v → Value.okWide Try.prog W .any base t v := hval0
  have hW' := hW
  obtain ⟨p, q, hA0, hV, rfl, hfz, hnd⟩ := hW
  have hA : DataW.TrodAll enc Try.prog W 0 (fun _ => true) true Try.f3.params.toList args.toList ds p := hA0
  rw [Try.params3] at hA hval hsz
  obtain ⟨v0, vs0, d0, ds0, p0, q0, hargs, rfl, rfl, h0, r0⟩ := trodAll_cons hA
  obtain ⟨v1, vs1, d1, ds1, p1, q1, rfl, rfl, rfl, h1, r1⟩ := trodAll_cons r0
  obtain ⟨rfl, rfl, rfl⟩ := trodAll_nil r1
  obtain rfl : args = #[v0, v1] := by cases args; simp_all
  obtain ⟨rfl, rfl⟩ := trodVars_none hV
  obtain ⟨a0, len0, cap0, rfl⟩ := okWide_slice Try.underlying22 (hval 0 22 v0 rfl rfl)
  have k0 := h0
  have lt0 : ∀ x ∈ p0, x.block < W.heap.size := by obtain ⟨m, hm⟩ := k0; exact DataW.trod_lt m _ _ _ hm
  obtain ⟨z0, w0⟩ : ∃ zs, IsRow .u8 W a0 len0 cap0 zs := by
    obtain ⟨fuel, hf⟩ := h0
    rcases open_ints Try.underlying22 Try.underlying5 (by kernel_rfl) hf with ⟨hcs, _⟩ | ⟨x, l, c, zs, hcs, _, hl, hm, hz, _, hcell, hwz⟩
    · simp [Value.cells] at hcs
      obtain ⟨rfl, rfl, rfl⟩ := hcs
      exact ⟨[], .inl ⟨rfl, rfl, rfl, rfl⟩⟩
    · simp [Value.cells] at hcs
      obtain ⟨rfl, rfl, rfl⟩ := hcs
      exact ⟨zs, .inr ⟨_, rfl, hl, hm, by simpa using hz, hcell, hwz⟩⟩
  have y0 : len0 * 1 ≤ 140737488351232 := Go.Proofs.YtjebkpcekkkbkaaW.PrintWords.sized_ints hsz (j := 0) (t := 22) rfl rfl Try.underlying22 Try.underlying5 (by kernel_rfl) (by kernel_rfl) h0
  obtain ⟨a1, len1, cap1, rfl⟩ := okWide_slice Try.underlying22 (hval 1 22 v1 rfl rfl)
  have k1 := h1
  have lt1 : ∀ x ∈ p1, x.block < W.heap.size := by obtain ⟨m, hm⟩ := k1; exact DataW.trod_lt m _ _ _ hm
  obtain ⟨z1, w1⟩ : ∃ zs, IsRow .u8 W a1 len1 cap1 zs := by
    obtain ⟨fuel, hf⟩ := h1
    rcases open_ints Try.underlying22 Try.underlying5 (by kernel_rfl) hf with ⟨hcs, _⟩ | ⟨x, l, c, zs, hcs, _, hl, hm, hz, _, hcell, hwz⟩
    · simp [Value.cells] at hcs
      obtain ⟨rfl, rfl, rfl⟩ := hcs
      exact ⟨[], .inl ⟨rfl, rfl, rfl, rfl⟩⟩
    · simp [Value.cells] at hcs
      obtain ⟨rfl, rfl, rfl⟩ := hcs
      exact ⟨zs, .inr ⟨_, rfl, hl, hm, by simpa using hz, hcell, hwz⟩⟩
  have y1 : len1 * 1 ≤ 140737488351232 := Go.Proofs.YtjebkpcekkkbkaaW.PrintWords.sized_ints hsz (j := 1) (t := 22) rfl rfl Try.underlying22 Try.underlying5 (by kernel_rfl) (by kernel_rfl) h1
  clear hA0 hval0 hsz0 hsz
  refine (EditDiff_said a0 len0 cap0 z0 a1 len1 cap1 z1 W w0 y0 w1 y1).mono fun e W' ⟨he, bel⟩ => ?_
  subst he
  exact ⟨_, rfl, _, _, _, [], _, [], hW', trodAll_mk1 (shut_bool Try.underlying4 _), (trodAll_cons_mk (Below.trod laidOut (by kernel_rfl) (of_decide_eq_true (by kernel_rfl)) k0 bel lt0) (trodAll_cons_mk (Below.trod laidOut (by kernel_rfl) (of_decide_eq_true (by kernel_rfl)) k1 bel lt1) trodAll_mk0)), rfl, bel.frame _, fun h => by cases h⟩
theorem over : Rows.editDiffRow.holds Try.pinned (OpenSpec.ofChange Rows.editDiffSpec) :=
  OpenClaim.holds_of_wide 3 Try.f3 rfl rfl rfl rfl rfl rfl rfl ⟨rfl, rfl, rfl, rfl, rfl⟩ rfl rfl rfl rfl rfl (by kernel_rfl) Try.func3 (by kernel_rfl)
    (of_decide_eq_true (by kernel_rfl)) (by unfold Func.isWrapper; first | (rw [if_pos (by decide +kernel)]; kernel_rfl) | (rw [if_neg (by decide +kernel)]; exact ⟨rfl, rfl⟩))
    (fun os started H enc _ => lifted os started H enc)
theorem proved : Rows.EditDiffSaid := over
#print axioms proved
end Go.Proofs.Ytjebkpcekkkbkaa.editDiff
namespace Go.Proofs.Ytjebkpcekkkbkaa
theorem editDiff_holds : Rows.EditDiffSaid := editDiff.proved
end Go.Proofs.Ytjebkpcekkkbkaa
