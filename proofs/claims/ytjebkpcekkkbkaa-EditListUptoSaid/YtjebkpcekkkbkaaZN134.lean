/-
  Texts of this session, one behind the other: N8, N9, N10, N11, H6.
-/
import Derived.RangeFuncNested
import Derived.RangeFuncBound
import Derived.RangeFuncCalls
import Derived.RangeFuncLeaves
import Derived.RangeFuncBox
import Derived.Shelf.Abstract
import Derived.Shelf.RegionOpen
import Derived.OwnWalkIn
import Derived.TacticsInMore
import Derived.LoopNIn
import Derived.LoopIn
import Derived.Test.YtjebkpcekkkbkaaProg
import Derived.Below
import Derived.Deep.Draws
import Derived.Deep.AppendLies
import Derived.Maps.AppendAt
import Derived.OwnWalk
import Derived.Laws.BytesArg
import Derived.Laws.MakeOwn
import Derived.Laws.OwnMore
import Derived.Deep.OwnRows
import Derived.Tactics
import Derived.Lib.ConvBytes
import Derived.Laws.Slices
import Derived.WalkKit
import Derived.KernelRfl
import Derived.RowKit3
import Derived.Deep.LoopGhost
import Derived.Deep.QuietTactic
import Derived.BigQuiet
import Derived.WideLaws
import Derived.Deep.DeepCutAuto
import Derived.Deep.CutBlock
import Derived.Deep.RegionHeld3
import Derived.Laws.Rows
import Derived.Lib.AppendStr
import Derived.ArgAppend
import Derived.Laws.IdiomCopy
import Derived.OrdersHeld
import Derived.Laws.BitsLemmas
import Derived.RowKit
import Derived.Test.YtjebkpcekkkbkaaWWords
import Derived.Test.YtjebkpcekkkbkaaWLast
import Derived.Test.YtjebkpcekkkbkaaWTab
import Derived.Test.YtjebkpcekkkbkaaWFour
import Derived.Test.YtjebkpcekkkbkaaWQPut
import Derived.Test.YtjebkpcekkkbkaaWApart
import Derived.Test.YtjebkpcekkkbkaaWArr
import Derived.Test.YtjebkpcekkkbkaaWZeros
import Derived.Test.YtjebkpcekkkbkaaWFoot
import Derived.Test.YtjebkpcekkkbkaaWKept
import Derived.Test.YtjebkpcekkkbkaaWShare
import Derived.Test.YtjebkpcekkkbkaaWN
import Derived.Test.YtjebkpcekkkbkaaWFootNe
import Derived.Test.YtjebkpcekkkbkaaWAt
import Derived.Test.YtjebkpcekkkbkaaWEqStruct
import Derived.Test.YtjebkpcekkkbkaaWRepsOne
import Derived.Test.YtjebkpcekkkbkaaWInv
import Derived.Test.YtjebkpcekkkbkaaWInvWords
import Derived.Test.YtjebkpcekkkbkaaWGuard
import Derived.Test.YtjebkpcekkkbkaaWNEv
import Derived.Test.YtjebkpcekkkbkaaWMore
import Derived.Deep.DeepFit
import Derived.Test.YtjebkpcekkkbkaaBulk
import Derived.ChangeShapes
import Derived.WalkMore
import Derived.WalkSpells
import Derived.Deep.CutRange
import Derived.IntWalk
import Derived.Lib.SlBytesConst
import Derived.Test.YtjebkpcekkkbkaaZN133
set_option linter.unusedSimpArgs false
set_option linter.unusedVariables false
/-
  edit: Back.
-/
namespace Go.Proofs.Ytjebkpcekkkbkaa.B
open Go.RowKit Go.Shelf Go.Proofs Go.Proofs.YtjebkpcekkkbkaaW.PrintWords Go.Proofs.YtjebkpcekkkbkaaW.PrintLast Go.Proofs.YtjebkpcekkkbkaaW.PrintMore Go.Proofs.Ytjebkpcekkkbkaa.FBase
set_option linter.unusedVariables false
set_option linter.unusedSimpArgs false

theorem bytesOf_str (l : List Int) (hB : Bytes l) : bytesOf (strOfNums l) = l := by
  unfold bytesOf strOfNums
  show (List.map (fun b : UInt8 => (b.toNat : Int)) (List.map (fun n => UInt8.ofNat n.toNat) l).toArray.toList) = l
  rw [List.toList_toArray, List.map_map]
  have h : ∀ x ∈ l, ((fun b : UInt8 => (b.toNat : Int)) ∘ fun n : Int => UInt8.ofNat n.toNat) x = x := by
    intro x hx
    have := hB x hx
    simp [UInt8.toNat_ofNat']
    omega
  rw [List.map_congr_left h]
  simp

theorem IsBlk.drew1 {W : World} {g : Nat} {o : Obj} (h : IsBlk W g o) : IsBlk W.drew g o := h
theorem blk_new2 (W : World) (o1 o2 : Obj) : IsBlk ((W.alloc o1).alloc o2) (W.heap.size + 1) o2 := by
  have h := blk_new (W.alloc o1) o2
  rw [World.size_alloc] at h
  exact h
theorem blk6 {W : World} {b : Nat} {z0 z1 z2 z3 z4 z5 : Value} {t : TypeId} (h : IsBlk W b (.cells #[z0, z1, z2, z3, z4, z5] t (0, 0))) (u0 u1 u2 u3 u4 u5 : Value) :
    IsBlk ((((((W.setCell ⟨b, 0, none⟩ u0).setCell ⟨b, 1, none⟩ u1).setCell ⟨b, 2, none⟩ u2).setCell ⟨b, 3, none⟩ u3).setCell ⟨b, 4, none⟩ u4).setCell ⟨b, 5, none⟩ u5) b (.cells #[u0, u1, u2, u3, u4, u5] t (0, 0)) :=
  (blk_set (blk_set (blk_set (blk_set (blk_set (blk_set h 0 u0) 1 u1) 2 u2) 3 u3) 4 u4) 5 u5).trans rfl

set_option maxRecDepth 100000 in
set_option maxHeartbeats 2000000 in
theorem Back_err (A : Option Addr) (c : Nat) (l : List Int) (wh : Bool) (x0 x1 x2 x3 : Int) (s : ByteArray) (w : World) (hr : Kd.C (Kd.int .u8) w A l.length l) (hc : l.length ≤ c) (hn : A = none → c = 0) (hB : Bytes l) (hs : l.length ≤ 1048576) (hs2 : s.size ≤ 140737488351232) (hx1 : x1 ≤ 9223372036854775807) (hx3 : x3 ≤ 9223372036854775807) (hz : (ech l (bytesOf s) wh x0 x1 x2 x3).2.2.2 ≠ 0) :
    Calls Try.prog 24 #[.slice A l.length c, .agg #[.bool wh, .int .i64 x0, .int .i64 x1, .int .i64 x2, .int .i64 x3, .string s]] w fun e w' => e = .returned (.tuple #[.agg #[.bool false, .int .i64 0, .int .i64 0, .int .i64 0, .int .i64 0, .string ⟨#[]⟩], .int .i64 (ech l (bytesOf s) wh x0 x1 x2 x3).2.2.2]) ∧ Below w.heap.size w w' := by
  obtain ⟨sb, hsb⟩ : ∃ sb, strOfNums l = sb := ⟨_, rfl⟩
  have hb1 := below_alloc (Below.refl _ w) (.cells #[.bool wh, .int .i64 x0, .int .i64 x1, .int .i64 x2, .int .i64 x3, .string s] 29)
  have hb2 : Below (w.alloc (.cells #[.bool wh, .int .i64 x0, .int .i64 x1, .int .i64 x2, .int .i64 x3, .string s] 29)).heap.size (w.alloc (.cells #[.bool wh, .int .i64 x0, .int .i64 x1, .int .i64 x2, .int .i64 x3, .string s] 29)) ((w.alloc (.cells #[.bool wh, .int .i64 x0, .int .i64 x1, .int .i64 x2, .int .i64 x3, .string s] 29)).alloc (.cells #[.bool false, .int .i64 0, .int .i64 0, .int .i64 0, .int .i64 0, .string ⟨#[]⟩] 29)) := below_alloc (Below.refl _ _) _
  have hg : IsBlk ((w.alloc (.cells #[.bool wh, .int .i64 x0, .int .i64 x1, .int .i64 x2, .int .i64 x3, .string s] 29)).alloc (.cells #[.bool false, .int .i64 0, .int .i64 0, .int .i64 0, .int .i64 0, .string ⟨#[]⟩] 29)) (w.alloc (.cells #[.bool wh, .int .i64 x0, .int .i64 x1, .int .i64 x2, .int .i64 x3, .string s] 29)).heap.size (.cells #[.bool false, .int .i64 0, .int .i64 0, .int .i64 0, .int .i64 0, .string ⟨#[]⟩] 29) := blk_new _ _
  rw [World.size_alloc] at hg
  have HS : Aside0 (Sta w ((w.alloc (.cells #[.bool wh, .int .i64 x0, .int .i64 x1, .int .i64 x2, .int .i64 x3, .string s] 29)).alloc (.cells #[.bool false, .int .i64 0, .int .i64 0, .int .i64 0, .int .i64 0, .string ⟨#[]⟩] 29)) (fun W => IsBlk W w.heap.size (.cells #[.bool wh, .int .i64 x0, .int .i64 x1, .int .i64 x2, .int .i64 x3, .string s] 29) ∧ IsBlk W (w.heap.size + 1) (.cells #[.bool false, .int .i64 0, .int .i64 0, .int .i64 0, .int .i64 0, .string ⟨#[]⟩] 29) ∧ Kd.C (Kd.int .u8) W A l.length l)) := ⟨⟨below_step hb1 hb2, ⟨IsBlk.below (blk_new w _) hb2, hg, Kd.C_below (Kd.C_below hr hb1) hb2⟩, keeps_and (keeps_blk _ _) (keeps_and (keeps_blk _ _) (keeps_C _ _ _ _))⟩⟩
  clear hb1 hb2 hg hr
  have n1 := blk_lt HS.out.now.1
  have n2 := blk_lt HS.out.now.2.1
  have c0 : ((w.alloc (.cells #[.bool wh, .int .i64 x0, .int .i64 x1, .int .i64 x2, .int .i64 x3, .string s] 29)).alloc (.cells #[.bool false, .int .i64 0, .int .i64 0, .int .i64 0, .int .i64 0, .string ⟨#[]⟩] 29)).cell? ⟨w.heap.size, 0, none⟩ = some (.bool wh) := HS.out.now.1.cell 0
  have c1 : ((w.alloc (.cells #[.bool wh, .int .i64 x0, .int .i64 x1, .int .i64 x2, .int .i64 x3, .string s] 29)).alloc (.cells #[.bool false, .int .i64 0, .int .i64 0, .int .i64 0, .int .i64 0, .string ⟨#[]⟩] 29)).cell? ⟨w.heap.size, 1, none⟩ = some (.int .i64 x0) := HS.out.now.1.cell 1
  have c2 : ((w.alloc (.cells #[.bool wh, .int .i64 x0, .int .i64 x1, .int .i64 x2, .int .i64 x3, .string s] 29)).alloc (.cells #[.bool false, .int .i64 0, .int .i64 0, .int .i64 0, .int .i64 0, .string ⟨#[]⟩] 29)).cell? ⟨w.heap.size, 2, none⟩ = some (.int .i64 x1) := HS.out.now.1.cell 2
  have c3 : ((w.alloc (.cells #[.bool wh, .int .i64 x0, .int .i64 x1, .int .i64 x2, .int .i64 x3, .string s] 29)).alloc (.cells #[.bool false, .int .i64 0, .int .i64 0, .int .i64 0, .int .i64 0, .string ⟨#[]⟩] 29)).cell? ⟨w.heap.size, 3, none⟩ = some (.int .i64 x2) := HS.out.now.1.cell 3
  have c4 : ((w.alloc (.cells #[.bool wh, .int .i64 x0, .int .i64 x1, .int .i64 x2, .int .i64 x3, .string s] 29)).alloc (.cells #[.bool false, .int .i64 0, .int .i64 0, .int .i64 0, .int .i64 0, .string ⟨#[]⟩] 29)).cell? ⟨w.heap.size, 4, none⟩ = some (.int .i64 x3) := HS.out.now.1.cell 4
  have c5 : ((w.alloc (.cells #[.bool wh, .int .i64 x0, .int .i64 x1, .int .i64 x2, .int .i64 x3, .string s] 29)).alloc (.cells #[.bool false, .int .i64 0, .int .i64 0, .int .i64 0, .int .i64 0, .string ⟨#[]⟩] 29)).cell? ⟨w.heap.size, 5, none⟩ = some (.string s) := HS.out.now.1.cell 5
  have k0 : ((w.alloc (.cells #[.bool wh, .int .i64 x0, .int .i64 x1, .int .i64 x2, .int .i64 x3, .string s] 29)).alloc (.cells #[.bool false, .int .i64 0, .int .i64 0, .int .i64 0, .int .i64 0, .string ⟨#[]⟩] 29)).cell? ⟨w.heap.size + 1, 0, none⟩ = some (.bool false) := HS.out.now.2.1.cell 0
  have f0 := HS.out.now.2.1.frozen 0
  have k1 : ((w.alloc (.cells #[.bool wh, .int .i64 x0, .int .i64 x1, .int .i64 x2, .int .i64 x3, .string s] 29)).alloc (.cells #[.bool false, .int .i64 0, .int .i64 0, .int .i64 0, .int .i64 0, .string ⟨#[]⟩] 29)).cell? ⟨w.heap.size + 1, 1, none⟩ = some (.int .i64 0) := HS.out.now.2.1.cell 1
  have f1 := HS.out.now.2.1.frozen 1
  have k2 : ((w.alloc (.cells #[.bool wh, .int .i64 x0, .int .i64 x1, .int .i64 x2, .int .i64 x3, .string s] 29)).alloc (.cells #[.bool false, .int .i64 0, .int .i64 0, .int .i64 0, .int .i64 0, .string ⟨#[]⟩] 29)).cell? ⟨w.heap.size + 1, 2, none⟩ = some (.int .i64 0) := HS.out.now.2.1.cell 2
  have f2 := HS.out.now.2.1.frozen 2
  have k3 : ((w.alloc (.cells #[.bool wh, .int .i64 x0, .int .i64 x1, .int .i64 x2, .int .i64 x3, .string s] 29)).alloc (.cells #[.bool false, .int .i64 0, .int .i64 0, .int .i64 0, .int .i64 0, .string ⟨#[]⟩] 29)).cell? ⟨w.heap.size + 1, 3, none⟩ = some (.int .i64 0) := HS.out.now.2.1.cell 3
  have f3 := HS.out.now.2.1.frozen 3
  have k4 : ((w.alloc (.cells #[.bool wh, .int .i64 x0, .int .i64 x1, .int .i64 x2, .int .i64 x3, .string s] 29)).alloc (.cells #[.bool false, .int .i64 0, .int .i64 0, .int .i64 0, .int .i64 0, .string ⟨#[]⟩] 29)).cell? ⟨w.heap.size + 1, 4, none⟩ = some (.int .i64 0) := HS.out.now.2.1.cell 4
  have f4 := HS.out.now.2.1.frozen 4
  have k5 : ((w.alloc (.cells #[.bool wh, .int .i64 x0, .int .i64 x1, .int .i64 x2, .int .i64 x3, .string s] 29)).alloc (.cells #[.bool false, .int .i64 0, .int .i64 0, .int .i64 0, .int .i64 0, .string ⟨#[]⟩] 29)).cell? ⟨w.heap.size + 1, 5, none⟩ = some (.string ⟨#[]⟩) := HS.out.now.2.1.cell 5
  have f5 := HS.out.now.2.1.frozen 5
  have HC := Aside0.mk hc
  have HBY := Aside0.mk hB
  obtain ⟨a, hea⟩ : ∃ a, (ech l (bytesOf s) wh x0 x1 x2 x3).1 = a := ⟨_, rfl⟩
  obtain ⟨b, heb⟩ : ∃ a, (ech l (bytesOf s) wh x0 x1 x2 x3).2.1 = a := ⟨_, rfl⟩
  obtain ⟨out, heo⟩ : ∃ a, (ech l (bytesOf s) wh x0 x1 x2 x3).2.2.1 = a := ⟨_, rfl⟩
  obtain ⟨er, hee⟩ : ∃ a, (ech l (bytesOf s) wh x0 x1 x2 x3).2.2.2 = a := ⟨_, rfl⟩
  have HEA := Aside0.mk hea
  have HEB := Aside0.mk heb
  have HEO := Aside0.mk heo
  have HEE := Aside0.mk hee
  have ks0 := fun (W : World) (A1 : Option Addr) (n1 c1 : Nat) (xs : List Int) (h : Kd.C (Kd.int .u8) W A1 n1 xs) => Kd.C_string (P := Try.prog) (w := W) (src := 22) (dst := 9) (e := 5) (c := c1) Try.underlying22 Try.underlying5 Try.underlying9 h
  have HKS := Aside0.mk ks0
  clear ks0
  rw [hee] at hz ⊢
  have hz1 : (er != 0) = true := bne_iff_ne.mpr hz
  clear hz hea heb heo hee hB hc
  go_enter Try.func24, Try.ntmps24
  go_wp2_with (go_at_call 59; refine (change_is A c l wh x0 x1 x2 x3 s _ (HS.out.step (by repeat (first | exact Below.refl _ _ | apply below_alloc | apply pw_below_drewN | apply below_drew1 | apply bytes_step))).now.2.2 HC.out hn HBY.out hs hs2 hx1 hx3).mono ?_; rintro e w1 ⟨v, rfl, hR, hb⟩; rw [HEA.out, HEB.out, HEE.out]; rw [HEO.out] at hR; obtain ⟨A2, cc2, rfl, hl2, hn2, hC2⟩ := Ap.read (.inr hR); have HL2 := Aside0.mk hl2; have HN2 := Aside0.mk hn2; clear hR hl2 hn2; have m_ := Aside0.mk ((HS.out.call (by repeat (first | exact Below.refl _ _ | apply below_alloc | apply pw_below_drewN | apply below_drew1 | apply bytes_step)) hb).add hC2 (keeps_C _ _ _ _)); clear HS hb hC2; have HS := m_; clear m_; have n1 := blk_lt HS.out.now.2.1; have n2 := blk_lt HS.out.now.2.2.1; have c0 : w1.cell? ⟨w.heap.size, 0, none⟩ = some (.bool wh) := HS.out.now.2.1.cell 0; have c0a := cell_alloc1 c0; have c1 : w1.cell? ⟨w.heap.size, 1, none⟩ = some (.int .i64 x0) := HS.out.now.2.1.cell 1; have c1a := cell_alloc1 c1; have c2 : w1.cell? ⟨w.heap.size, 2, none⟩ = some (.int .i64 x1) := HS.out.now.2.1.cell 2; have c2a := cell_alloc1 c2; have c3 : w1.cell? ⟨w.heap.size, 3, none⟩ = some (.int .i64 x2) := HS.out.now.2.1.cell 3; have c3a := cell_alloc1 c3; have c4 : w1.cell? ⟨w.heap.size, 4, none⟩ = some (.int .i64 x3) := HS.out.now.2.1.cell 4; have c4a := cell_alloc1 c4; have c5 : w1.cell? ⟨w.heap.size, 5, none⟩ = some (.string s) := HS.out.now.2.1.cell 5; have c5a := cell_alloc1 c5; have k0 : w1.cell? ⟨w.heap.size + 1, 0, none⟩ = some (.bool false) := HS.out.now.2.2.1.cell 0; have f0 := HS.out.now.2.2.1.frozen 0; have k0a := cell_alloc1 k0; have f0a := froz_alloc1 k0 f0; have k0b := cell_alloc2 k0; have f0b := froz_alloc2 k0 f0; have k1 : w1.cell? ⟨w.heap.size + 1, 1, none⟩ = some (.int .i64 0) := HS.out.now.2.2.1.cell 1; have f1 := HS.out.now.2.2.1.frozen 1; have k1a := cell_alloc1 k1; have f1a := froz_alloc1 k1 f1; have k1b := cell_alloc2 k1; have f1b := froz_alloc2 k1 f1; have k2 : w1.cell? ⟨w.heap.size + 1, 2, none⟩ = some (.int .i64 0) := HS.out.now.2.2.1.cell 2; have f2 := HS.out.now.2.2.1.frozen 2; have k2a := cell_alloc1 k2; have f2a := froz_alloc1 k2 f2; have k2b := cell_alloc2 k2; have f2b := froz_alloc2 k2 f2; have k3 : w1.cell? ⟨w.heap.size + 1, 3, none⟩ = some (.int .i64 0) := HS.out.now.2.2.1.cell 3; have f3 := HS.out.now.2.2.1.frozen 3; have k3a := cell_alloc1 k3; have f3a := froz_alloc1 k3 f3; have k3b := cell_alloc2 k3; have f3b := froz_alloc2 k3 f3; have k4 : w1.cell? ⟨w.heap.size + 1, 4, none⟩ = some (.int .i64 0) := HS.out.now.2.2.1.cell 4; have f4 := HS.out.now.2.2.1.frozen 4; have k4a := cell_alloc1 k4; have f4a := froz_alloc1 k4 f4; have k4b := cell_alloc2 k4; have f4b := froz_alloc2 k4 f4; have k5 : w1.cell? ⟨w.heap.size + 1, 5, none⟩ = some (.string ⟨#[]⟩) := HS.out.now.2.2.1.cell 5; have f5 := HS.out.now.2.2.1.frozen 5; have k5a := cell_alloc1 k5; have f5a := froz_alloc1 k5 f5; have k5b := cell_alloc2 k5; have f5b := froz_alloc2 k5 f5; have ks := HKS.out (w1.alloc (.cells #[.int .i64 a, .int .i64 b] 44)) A l.length c l (HS.out.step (by repeat (first | exact Below.refl _ _ | apply below_alloc | apply pw_below_drewN | apply below_drew1 | apply bytes_step))).now.2.2.2)
  first | rw [Exit.noGoto_ret] | skip
  refine bodyPost_ret (v := .tuple #[.agg #[.bool false, .int .i64 0, .int .i64 0, .int .i64 0, .int .i64 0, .string ⟨#[]⟩], .int .i64 er]) (results_ct (p := 4) (u := 5) (ty := 29) rfl _ _ (w.heap.size + 1) 29 #[.bool false, .int .i64 0, .int .i64 0, .int .i64 0, .int .i64 0, .string ⟨#[]⟩] (0, 0) _ rfl ?_ Try.underlying29 rfl (by kernel_rfl)) rfl ⟨rfl, ?_⟩
  · show IsBlk _ (w.heap.size + 1) _
    (repeat (with_reducible first | refine IsBlk.alloc ?_ _ | refine IsBlk.drewN ?_ _ | refine IsBlk.drew1 ?_))
    with_reducible refine blk6 (z0 := .bool false) (z1 := .int .i64 0) (z2 := .int .i64 0) (z3 := .int .i64 0) (z4 := .int .i64 0) (z5 := (.string ⟨#[]⟩)) ?_ _ _ _ _ _ _
    repeat (with_reducible first | exact HS.out.now.2.2.1 | refine IsBlk.alloc ?_ _ | refine IsBlk.drewN ?_ _ | refine IsBlk.drew1 ?_)
  · have hS := HS.out.bel
    (repeat (first | (with_reducible exact hS) | (with_reducible refine below_alloc ?_ _) | (with_reducible refine pw_below_drewN ?_ _) | (with_reducible refine below_drew1 ?_) | ((with_reducible refine Below.setCell ?_ ?_ _); rotate_left; (focus (first | (simp; done) | (simp; omega))))))


set_option maxRecDepth 100000 in
set_option maxHeartbeats 2000000 in
theorem Back_whole (A : Option Addr) (c : Nat) (l : List Int) (wh : Bool) (x0 x1 x2 x3 : Int) (s : ByteArray) (w : World) (hr : Kd.C (Kd.int .u8) w A l.length l) (hc : l.length ≤ c) (hn : A = none → c = 0) (hB : Bytes l) (hs : l.length ≤ 1048576) (hs2 : s.size ≤ 140737488351232) (hx1 : x1 ≤ 9223372036854775807) (hx3 : x3 ≤ 9223372036854775807) (hw : wh = true) (her : (ech l (bytesOf s) wh x0 x1 x2 x3).2.2.2 = 0) :
    Calls Try.prog 24 #[.slice A l.length c, .agg #[.bool wh, .int .i64 x0, .int .i64 x1, .int .i64 x2, .int .i64 x3, .string s]] w fun e w' => e = .returned (.tuple #[.agg #[.bool true, .int .i64 0, .int .i64 0, .int .i64 0, .int .i64 0, .string (strOfNums l)], .int .i64 0]) ∧ Below w.heap.size w w' := by
  subst hw
  obtain ⟨sb, hsb⟩ : ∃ sb, strOfNums l = sb := ⟨_, rfl⟩
  have hb1 := below_alloc (Below.refl _ w) (.cells #[.bool true, .int .i64 x0, .int .i64 x1, .int .i64 x2, .int .i64 x3, .string s] 29)
  have hb2 : Below (w.alloc (.cells #[.bool true, .int .i64 x0, .int .i64 x1, .int .i64 x2, .int .i64 x3, .string s] 29)).heap.size (w.alloc (.cells #[.bool true, .int .i64 x0, .int .i64 x1, .int .i64 x2, .int .i64 x3, .string s] 29)) ((w.alloc (.cells #[.bool true, .int .i64 x0, .int .i64 x1, .int .i64 x2, .int .i64 x3, .string s] 29)).alloc (.cells #[.bool false, .int .i64 0, .int .i64 0, .int .i64 0, .int .i64 0, .string ⟨#[]⟩] 29)) := below_alloc (Below.refl _ _) _
  have hg : IsBlk ((w.alloc (.cells #[.bool true, .int .i64 x0, .int .i64 x1, .int .i64 x2, .int .i64 x3, .string s] 29)).alloc (.cells #[.bool false, .int .i64 0, .int .i64 0, .int .i64 0, .int .i64 0, .string ⟨#[]⟩] 29)) (w.alloc (.cells #[.bool true, .int .i64 x0, .int .i64 x1, .int .i64 x2, .int .i64 x3, .string s] 29)).heap.size (.cells #[.bool false, .int .i64 0, .int .i64 0, .int .i64 0, .int .i64 0, .string ⟨#[]⟩] 29) := blk_new _ _
  rw [World.size_alloc] at hg
  have HS : Aside0 (Sta w ((w.alloc (.cells #[.bool true, .int .i64 x0, .int .i64 x1, .int .i64 x2, .int .i64 x3, .string s] 29)).alloc (.cells #[.bool false, .int .i64 0, .int .i64 0, .int .i64 0, .int .i64 0, .string ⟨#[]⟩] 29)) (fun W => IsBlk W w.heap.size (.cells #[.bool true, .int .i64 x0, .int .i64 x1, .int .i64 x2, .int .i64 x3, .string s] 29) ∧ IsBlk W (w.heap.size + 1) (.cells #[.bool false, .int .i64 0, .int .i64 0, .int .i64 0, .int .i64 0, .string ⟨#[]⟩] 29) ∧ Kd.C (Kd.int .u8) W A l.length l)) := ⟨⟨below_step hb1 hb2, ⟨IsBlk.below (blk_new w _) hb2, hg, Kd.C_below (Kd.C_below hr hb1) hb2⟩, keeps_and (keeps_blk _ _) (keeps_and (keeps_blk _ _) (keeps_C _ _ _ _))⟩⟩
  clear hb1 hb2 hg hr
  have n1 := blk_lt HS.out.now.1
  have n2 := blk_lt HS.out.now.2.1
  have c0 : ((w.alloc (.cells #[.bool true, .int .i64 x0, .int .i64 x1, .int .i64 x2, .int .i64 x3, .string s] 29)).alloc (.cells #[.bool false, .int .i64 0, .int .i64 0, .int .i64 0, .int .i64 0, .string ⟨#[]⟩] 29)).cell? ⟨w.heap.size, 0, none⟩ = some (.bool true) := HS.out.now.1.cell 0
  have c1 : ((w.alloc (.cells #[.bool true, .int .i64 x0, .int .i64 x1, .int .i64 x2, .int .i64 x3, .string s] 29)).alloc (.cells #[.bool false, .int .i64 0, .int .i64 0, .int .i64 0, .int .i64 0, .string ⟨#[]⟩] 29)).cell? ⟨w.heap.size, 1, none⟩ = some (.int .i64 x0) := HS.out.now.1.cell 1
  have c2 : ((w.alloc (.cells #[.bool true, .int .i64 x0, .int .i64 x1, .int .i64 x2, .int .i64 x3, .string s] 29)).alloc (.cells #[.bool false, .int .i64 0, .int .i64 0, .int .i64 0, .int .i64 0, .string ⟨#[]⟩] 29)).cell? ⟨w.heap.size, 2, none⟩ = some (.int .i64 x1) := HS.out.now.1.cell 2
  have c3 : ((w.alloc (.cells #[.bool true, .int .i64 x0, .int .i64 x1, .int .i64 x2, .int .i64 x3, .string s] 29)).alloc (.cells #[.bool false, .int .i64 0, .int .i64 0, .int .i64 0, .int .i64 0, .string ⟨#[]⟩] 29)).cell? ⟨w.heap.size, 3, none⟩ = some (.int .i64 x2) := HS.out.now.1.cell 3
  have c4 : ((w.alloc (.cells #[.bool true, .int .i64 x0, .int .i64 x1, .int .i64 x2, .int .i64 x3, .string s] 29)).alloc (.cells #[.bool false, .int .i64 0, .int .i64 0, .int .i64 0, .int .i64 0, .string ⟨#[]⟩] 29)).cell? ⟨w.heap.size, 4, none⟩ = some (.int .i64 x3) := HS.out.now.1.cell 4
  have c5 : ((w.alloc (.cells #[.bool true, .int .i64 x0, .int .i64 x1, .int .i64 x2, .int .i64 x3, .string s] 29)).alloc (.cells #[.bool false, .int .i64 0, .int .i64 0, .int .i64 0, .int .i64 0, .string ⟨#[]⟩] 29)).cell? ⟨w.heap.size, 5, none⟩ = some (.string s) := HS.out.now.1.cell 5
  have k0 : ((w.alloc (.cells #[.bool true, .int .i64 x0, .int .i64 x1, .int .i64 x2, .int .i64 x3, .string s] 29)).alloc (.cells #[.bool false, .int .i64 0, .int .i64 0, .int .i64 0, .int .i64 0, .string ⟨#[]⟩] 29)).cell? ⟨w.heap.size + 1, 0, none⟩ = some (.bool false) := HS.out.now.2.1.cell 0
  have f0 := HS.out.now.2.1.frozen 0
  have k1 : ((w.alloc (.cells #[.bool true, .int .i64 x0, .int .i64 x1, .int .i64 x2, .int .i64 x3, .string s] 29)).alloc (.cells #[.bool false, .int .i64 0, .int .i64 0, .int .i64 0, .int .i64 0, .string ⟨#[]⟩] 29)).cell? ⟨w.heap.size + 1, 1, none⟩ = some (.int .i64 0) := HS.out.now.2.1.cell 1
  have f1 := HS.out.now.2.1.frozen 1
  have k2 : ((w.alloc (.cells #[.bool true, .int .i64 x0, .int .i64 x1, .int .i64 x2, .int .i64 x3, .string s] 29)).alloc (.cells #[.bool false, .int .i64 0, .int .i64 0, .int .i64 0, .int .i64 0, .string ⟨#[]⟩] 29)).cell? ⟨w.heap.size + 1, 2, none⟩ = some (.int .i64 0) := HS.out.now.2.1.cell 2
  have f2 := HS.out.now.2.1.frozen 2
  have k3 : ((w.alloc (.cells #[.bool true, .int .i64 x0, .int .i64 x1, .int .i64 x2, .int .i64 x3, .string s] 29)).alloc (.cells #[.bool false, .int .i64 0, .int .i64 0, .int .i64 0, .int .i64 0, .string ⟨#[]⟩] 29)).cell? ⟨w.heap.size + 1, 3, none⟩ = some (.int .i64 0) := HS.out.now.2.1.cell 3
  have f3 := HS.out.now.2.1.frozen 3
  have k4 : ((w.alloc (.cells #[.bool true, .int .i64 x0, .int .i64 x1, .int .i64 x2, .int .i64 x3, .string s] 29)).alloc (.cells #[.bool false, .int .i64 0, .int .i64 0, .int .i64 0, .int .i64 0, .string ⟨#[]⟩] 29)).cell? ⟨w.heap.size + 1, 4, none⟩ = some (.int .i64 0) := HS.out.now.2.1.cell 4
  have f4 := HS.out.now.2.1.frozen 4
  have k5 : ((w.alloc (.cells #[.bool true, .int .i64 x0, .int .i64 x1, .int .i64 x2, .int .i64 x3, .string s] 29)).alloc (.cells #[.bool false, .int .i64 0, .int .i64 0, .int .i64 0, .int .i64 0, .string ⟨#[]⟩] 29)).cell? ⟨w.heap.size + 1, 5, none⟩ = some (.string ⟨#[]⟩) := HS.out.now.2.1.cell 5
  have f5 := HS.out.now.2.1.frozen 5
  have HC := Aside0.mk hc
  have HBY := Aside0.mk hB
  obtain ⟨a, hea⟩ : ∃ a, (ech l (bytesOf s) true x0 x1 x2 x3).1 = a := ⟨_, rfl⟩
  obtain ⟨b, heb⟩ : ∃ a, (ech l (bytesOf s) true x0 x1 x2 x3).2.1 = a := ⟨_, rfl⟩
  obtain ⟨out, heo⟩ : ∃ a, (ech l (bytesOf s) true x0 x1 x2 x3).2.2.1 = a := ⟨_, rfl⟩
  obtain ⟨er, hee⟩ : ∃ a, (ech l (bytesOf s) true x0 x1 x2 x3).2.2.2 = a := ⟨_, rfl⟩
  have HEA := Aside0.mk hea
  have HEB := Aside0.mk heb
  have HEO := Aside0.mk heo
  have HEE := Aside0.mk hee
  have ks0 := fun (W : World) (A1 : Option Addr) (n1 c1 : Nat) (xs : List Int) (h : Kd.C (Kd.int .u8) W A1 n1 xs) => Kd.C_string (P := Try.prog) (w := W) (src := 22) (dst := 9) (e := 5) (c := c1) Try.underlying22 Try.underlying5 Try.underlying9 h
  have HKS := Aside0.mk ks0
  clear ks0
  rw [hsb]
  rw [hee] at her
  subst her
  have HSB := Aside0.mk hsb
  clear hsb hea heb heo hee hB hc
  go_enter Try.func24, Try.ntmps24
  go_wp2_with (go_at_call 59; refine (change_is A c l true x0 x1 x2 x3 s _ (HS.out.step (by repeat (first | exact Below.refl _ _ | apply below_alloc | apply pw_below_drewN | apply below_drew1 | apply bytes_step))).now.2.2 HC.out hn HBY.out hs hs2 hx1 hx3).mono ?_; rintro e w1 ⟨v, rfl, hR, hb⟩; rw [HEA.out, HEB.out, HEE.out]; rw [HEO.out] at hR; obtain ⟨A2, cc2, rfl, hl2, hn2, hC2⟩ := Ap.read (.inr hR); have HL2 := Aside0.mk hl2; have HN2 := Aside0.mk hn2; clear hR hl2 hn2; have m_ := Aside0.mk ((HS.out.call (by repeat (first | exact Below.refl _ _ | apply below_alloc | apply pw_below_drewN | apply below_drew1 | apply bytes_step)) hb).add hC2 (keeps_C _ _ _ _)); clear HS hb hC2; have HS := m_; clear m_; have n1 := blk_lt HS.out.now.2.1; have n2 := blk_lt HS.out.now.2.2.1; have c0 : w1.cell? ⟨w.heap.size, 0, none⟩ = some (.bool true) := HS.out.now.2.1.cell 0; have c0a := cell_alloc1 c0; have c1 : w1.cell? ⟨w.heap.size, 1, none⟩ = some (.int .i64 x0) := HS.out.now.2.1.cell 1; have c1a := cell_alloc1 c1; have c2 : w1.cell? ⟨w.heap.size, 2, none⟩ = some (.int .i64 x1) := HS.out.now.2.1.cell 2; have c2a := cell_alloc1 c2; have c3 : w1.cell? ⟨w.heap.size, 3, none⟩ = some (.int .i64 x2) := HS.out.now.2.1.cell 3; have c3a := cell_alloc1 c3; have c4 : w1.cell? ⟨w.heap.size, 4, none⟩ = some (.int .i64 x3) := HS.out.now.2.1.cell 4; have c4a := cell_alloc1 c4; have c5 : w1.cell? ⟨w.heap.size, 5, none⟩ = some (.string s) := HS.out.now.2.1.cell 5; have c5a := cell_alloc1 c5; have k0 : w1.cell? ⟨w.heap.size + 1, 0, none⟩ = some (.bool false) := HS.out.now.2.2.1.cell 0; have f0 := HS.out.now.2.2.1.frozen 0; have k0a := cell_alloc1 k0; have f0a := froz_alloc1 k0 f0; have k0b := cell_alloc2 k0; have f0b := froz_alloc2 k0 f0; have k1 : w1.cell? ⟨w.heap.size + 1, 1, none⟩ = some (.int .i64 0) := HS.out.now.2.2.1.cell 1; have f1 := HS.out.now.2.2.1.frozen 1; have k1a := cell_alloc1 k1; have f1a := froz_alloc1 k1 f1; have k1b := cell_alloc2 k1; have f1b := froz_alloc2 k1 f1; have k2 : w1.cell? ⟨w.heap.size + 1, 2, none⟩ = some (.int .i64 0) := HS.out.now.2.2.1.cell 2; have f2 := HS.out.now.2.2.1.frozen 2; have k2a := cell_alloc1 k2; have f2a := froz_alloc1 k2 f2; have k2b := cell_alloc2 k2; have f2b := froz_alloc2 k2 f2; have k3 : w1.cell? ⟨w.heap.size + 1, 3, none⟩ = some (.int .i64 0) := HS.out.now.2.2.1.cell 3; have f3 := HS.out.now.2.2.1.frozen 3; have k3a := cell_alloc1 k3; have f3a := froz_alloc1 k3 f3; have k3b := cell_alloc2 k3; have f3b := froz_alloc2 k3 f3; have k4 : w1.cell? ⟨w.heap.size + 1, 4, none⟩ = some (.int .i64 0) := HS.out.now.2.2.1.cell 4; have f4 := HS.out.now.2.2.1.frozen 4; have k4a := cell_alloc1 k4; have f4a := froz_alloc1 k4 f4; have k4b := cell_alloc2 k4; have f4b := froz_alloc2 k4 f4; have k5 : w1.cell? ⟨w.heap.size + 1, 5, none⟩ = some (.string ⟨#[]⟩) := HS.out.now.2.2.1.cell 5; have f5 := HS.out.now.2.2.1.frozen 5; have k5a := cell_alloc1 k5; have f5a := froz_alloc1 k5 f5; have k5b := cell_alloc2 k5; have f5b := froz_alloc2 k5 f5; have ks := HKS.out (w1.alloc (.cells #[.int .i64 a, .int .i64 b] 44)) A l.length c l (HS.out.step (by repeat (first | exact Below.refl _ _ | apply below_alloc | apply pw_below_drewN | apply below_drew1 | apply bytes_step))).now.2.2.2; rw [HSB.out] at ks)
  first | rw [Exit.noGoto_ret] | skip
  refine bodyPost_ret (v := .tuple #[.agg #[.bool true, .int .i64 0, .int .i64 0, .int .i64 0, .int .i64 0, .string sb], .int .i64 0]) (results_ct (p := 4) (u := 5) (ty := 29) rfl _ _ (w.heap.size + 1) 29 #[.bool true, .int .i64 0, .int .i64 0, .int .i64 0, .int .i64 0, .string sb] (0, 0) _ rfl ?_ Try.underlying29 rfl (by kernel_rfl)) rfl ⟨rfl, ?_⟩
  · show IsBlk _ (w.heap.size + 1) _
    (repeat (with_reducible first | refine IsBlk.alloc ?_ _ | refine IsBlk.drewN ?_ _ | refine IsBlk.drew1 ?_))
    with_reducible refine blk6 (z0 := .bool false) (z1 := .int .i64 0) (z2 := .int .i64 0) (z3 := .int .i64 0) (z4 := .int .i64 0) (z5 := (.string ⟨#[]⟩)) ?_ _ _ _ _ _ _
    repeat (with_reducible first | exact HS.out.now.2.2.1 | refine IsBlk.alloc ?_ _ | refine IsBlk.drewN ?_ _ | refine IsBlk.drew1 ?_)
  · have hS := HS.out.bel
    (repeat (first | (with_reducible exact hS) | (with_reducible refine below_alloc ?_ _) | (with_reducible refine pw_below_drewN ?_ _) | (with_reducible refine below_drew1 ?_) | ((with_reducible refine Below.setCell ?_ ?_ _); rotate_left; (focus (first | (simp; done) | (simp; omega))))))

set_option maxRecDepth 100000 in
set_option maxHeartbeats 2000000 in
theorem Back_all (A : Option Addr) (c : Nat) (l : List Int) (wh : Bool) (x0 x1 x2 x3 : Int) (s : ByteArray) (w : World) (hr : Kd.C (Kd.int .u8) w A l.length l) (hc : l.length ≤ c) (hn : A = none → c = 0) (hB : Bytes l) (hs : l.length ≤ 1048576) (hs2 : s.size ≤ 140737488351232) (hx1 : x1 ≤ 9223372036854775807) (hx3 : x3 ≤ 9223372036854775807) (hw : wh = false) (her : (ech l (bytesOf s) wh x0 x1 x2 x3).2.2.2 = 0) (hp : isPb (ech l (bytesOf s) wh x0 x1 x2 x3).2.2.1 (ech l (bytesOf s) wh x0 x1 x2 x3).1 = false ∨ isPb (ech l (bytesOf s) wh x0 x1 x2 x3).2.2.1 ((ech l (bytesOf s) wh x0 x1 x2 x3).1 + s.size) = false) :
    Calls Try.prog 24 #[.slice A l.length c, .agg #[.bool wh, .int .i64 x0, .int .i64 x1, .int .i64 x2, .int .i64 x3, .string s]] w fun e w' => e = .returned (.tuple #[.agg #[.bool true, .int .i64 0, .int .i64 0, .int .i64 0, .int .i64 0, .string (strOfNums l)], .int .i64 0]) ∧ Below w.heap.size w w' := by
  subst hw
  obtain ⟨sb, hsb⟩ : ∃ sb, strOfNums l = sb := ⟨_, rfl⟩
  have hb1 := below_alloc (Below.refl _ w) (.cells #[.bool false, .int .i64 x0, .int .i64 x1, .int .i64 x2, .int .i64 x3, .string s] 29)
  have hb2 : Below (w.alloc (.cells #[.bool false, .int .i64 x0, .int .i64 x1, .int .i64 x2, .int .i64 x3, .string s] 29)).heap.size (w.alloc (.cells #[.bool false, .int .i64 x0, .int .i64 x1, .int .i64 x2, .int .i64 x3, .string s] 29)) ((w.alloc (.cells #[.bool false, .int .i64 x0, .int .i64 x1, .int .i64 x2, .int .i64 x3, .string s] 29)).alloc (.cells #[.bool false, .int .i64 0, .int .i64 0, .int .i64 0, .int .i64 0, .string ⟨#[]⟩] 29)) := below_alloc (Below.refl _ _) _
  have hg : IsBlk ((w.alloc (.cells #[.bool false, .int .i64 x0, .int .i64 x1, .int .i64 x2, .int .i64 x3, .string s] 29)).alloc (.cells #[.bool false, .int .i64 0, .int .i64 0, .int .i64 0, .int .i64 0, .string ⟨#[]⟩] 29)) (w.alloc (.cells #[.bool false, .int .i64 x0, .int .i64 x1, .int .i64 x2, .int .i64 x3, .string s] 29)).heap.size (.cells #[.bool false, .int .i64 0, .int .i64 0, .int .i64 0, .int .i64 0, .string ⟨#[]⟩] 29) := blk_new _ _
  rw [World.size_alloc] at hg
  have HS : Aside0 (Sta w ((w.alloc (.cells #[.bool false, .int .i64 x0, .int .i64 x1, .int .i64 x2, .int .i64 x3, .string s] 29)).alloc (.cells #[.bool false, .int .i64 0, .int .i64 0, .int .i64 0, .int .i64 0, .string ⟨#[]⟩] 29)) (fun W => IsBlk W w.heap.size (.cells #[.bool false, .int .i64 x0, .int .i64 x1, .int .i64 x2, .int .i64 x3, .string s] 29) ∧ IsBlk W (w.heap.size + 1) (.cells #[.bool false, .int .i64 0, .int .i64 0, .int .i64 0, .int .i64 0, .string ⟨#[]⟩] 29) ∧ Kd.C (Kd.int .u8) W A l.length l)) := ⟨⟨below_step hb1 hb2, ⟨IsBlk.below (blk_new w _) hb2, hg, Kd.C_below (Kd.C_below hr hb1) hb2⟩, keeps_and (keeps_blk _ _) (keeps_and (keeps_blk _ _) (keeps_C _ _ _ _))⟩⟩
  clear hb1 hb2 hg hr
  have n1 := blk_lt HS.out.now.1
  have n2 := blk_lt HS.out.now.2.1
  have c0 : ((w.alloc (.cells #[.bool false, .int .i64 x0, .int .i64 x1, .int .i64 x2, .int .i64 x3, .string s] 29)).alloc (.cells #[.bool false, .int .i64 0, .int .i64 0, .int .i64 0, .int .i64 0, .string ⟨#[]⟩] 29)).cell? ⟨w.heap.size, 0, none⟩ = some (.bool false) := HS.out.now.1.cell 0
  have c1 : ((w.alloc (.cells #[.bool false, .int .i64 x0, .int .i64 x1, .int .i64 x2, .int .i64 x3, .string s] 29)).alloc (.cells #[.bool false, .int .i64 0, .int .i64 0, .int .i64 0, .int .i64 0, .string ⟨#[]⟩] 29)).cell? ⟨w.heap.size, 1, none⟩ = some (.int .i64 x0) := HS.out.now.1.cell 1
  have c2 : ((w.alloc (.cells #[.bool false, .int .i64 x0, .int .i64 x1, .int .i64 x2, .int .i64 x3, .string s] 29)).alloc (.cells #[.bool false, .int .i64 0, .int .i64 0, .int .i64 0, .int .i64 0, .string ⟨#[]⟩] 29)).cell? ⟨w.heap.size, 2, none⟩ = some (.int .i64 x1) := HS.out.now.1.cell 2
  have c3 : ((w.alloc (.cells #[.bool false, .int .i64 x0, .int .i64 x1, .int .i64 x2, .int .i64 x3, .string s] 29)).alloc (.cells #[.bool false, .int .i64 0, .int .i64 0, .int .i64 0, .int .i64 0, .string ⟨#[]⟩] 29)).cell? ⟨w.heap.size, 3, none⟩ = some (.int .i64 x2) := HS.out.now.1.cell 3
  have c4 : ((w.alloc (.cells #[.bool false, .int .i64 x0, .int .i64 x1, .int .i64 x2, .int .i64 x3, .string s] 29)).alloc (.cells #[.bool false, .int .i64 0, .int .i64 0, .int .i64 0, .int .i64 0, .string ⟨#[]⟩] 29)).cell? ⟨w.heap.size, 4, none⟩ = some (.int .i64 x3) := HS.out.now.1.cell 4
  have c5 : ((w.alloc (.cells #[.bool false, .int .i64 x0, .int .i64 x1, .int .i64 x2, .int .i64 x3, .string s] 29)).alloc (.cells #[.bool false, .int .i64 0, .int .i64 0, .int .i64 0, .int .i64 0, .string ⟨#[]⟩] 29)).cell? ⟨w.heap.size, 5, none⟩ = some (.string s) := HS.out.now.1.cell 5
  have k0 : ((w.alloc (.cells #[.bool false, .int .i64 x0, .int .i64 x1, .int .i64 x2, .int .i64 x3, .string s] 29)).alloc (.cells #[.bool false, .int .i64 0, .int .i64 0, .int .i64 0, .int .i64 0, .string ⟨#[]⟩] 29)).cell? ⟨w.heap.size + 1, 0, none⟩ = some (.bool false) := HS.out.now.2.1.cell 0
  have f0 := HS.out.now.2.1.frozen 0
  have k1 : ((w.alloc (.cells #[.bool false, .int .i64 x0, .int .i64 x1, .int .i64 x2, .int .i64 x3, .string s] 29)).alloc (.cells #[.bool false, .int .i64 0, .int .i64 0, .int .i64 0, .int .i64 0, .string ⟨#[]⟩] 29)).cell? ⟨w.heap.size + 1, 1, none⟩ = some (.int .i64 0) := HS.out.now.2.1.cell 1
  have f1 := HS.out.now.2.1.frozen 1
  have k2 : ((w.alloc (.cells #[.bool false, .int .i64 x0, .int .i64 x1, .int .i64 x2, .int .i64 x3, .string s] 29)).alloc (.cells #[.bool false, .int .i64 0, .int .i64 0, .int .i64 0, .int .i64 0, .string ⟨#[]⟩] 29)).cell? ⟨w.heap.size + 1, 2, none⟩ = some (.int .i64 0) := HS.out.now.2.1.cell 2
  have f2 := HS.out.now.2.1.frozen 2
  have k3 : ((w.alloc (.cells #[.bool false, .int .i64 x0, .int .i64 x1, .int .i64 x2, .int .i64 x3, .string s] 29)).alloc (.cells #[.bool false, .int .i64 0, .int .i64 0, .int .i64 0, .int .i64 0, .string ⟨#[]⟩] 29)).cell? ⟨w.heap.size + 1, 3, none⟩ = some (.int .i64 0) := HS.out.now.2.1.cell 3
  have f3 := HS.out.now.2.1.frozen 3
  have k4 : ((w.alloc (.cells #[.bool false, .int .i64 x0, .int .i64 x1, .int .i64 x2, .int .i64 x3, .string s] 29)).alloc (.cells #[.bool false, .int .i64 0, .int .i64 0, .int .i64 0, .int .i64 0, .string ⟨#[]⟩] 29)).cell? ⟨w.heap.size + 1, 4, none⟩ = some (.int .i64 0) := HS.out.now.2.1.cell 4
  have f4 := HS.out.now.2.1.frozen 4
  have k5 : ((w.alloc (.cells #[.bool false, .int .i64 x0, .int .i64 x1, .int .i64 x2, .int .i64 x3, .string s] 29)).alloc (.cells #[.bool false, .int .i64 0, .int .i64 0, .int .i64 0, .int .i64 0, .string ⟨#[]⟩] 29)).cell? ⟨w.heap.size + 1, 5, none⟩ = some (.string ⟨#[]⟩) := HS.out.now.2.1.cell 5
  have f5 := HS.out.now.2.1.frozen 5
  have HC := Aside0.mk hc
  have HBY := Aside0.mk hB
  obtain ⟨a, hea⟩ : ∃ a, (ech l (bytesOf s) false x0 x1 x2 x3).1 = a := ⟨_, rfl⟩
  obtain ⟨b, heb⟩ : ∃ a, (ech l (bytesOf s) false x0 x1 x2 x3).2.1 = a := ⟨_, rfl⟩
  obtain ⟨out, heo⟩ : ∃ a, (ech l (bytesOf s) false x0 x1 x2 x3).2.2.1 = a := ⟨_, rfl⟩
  obtain ⟨er, hee⟩ : ∃ a, (ech l (bytesOf s) false x0 x1 x2 x3).2.2.2 = a := ⟨_, rfl⟩
  have HEA := Aside0.mk hea
  have HEB := Aside0.mk heb
  have HEO := Aside0.mk heo
  have HEE := Aside0.mk hee
  have ks0 := fun (W : World) (A1 : Option Addr) (n1 c1 : Nat) (xs : List Int) (h : Kd.C (Kd.int .u8) W A1 n1 xs) => Kd.C_string (P := Try.prog) (w := W) (src := 22) (dst := 9) (e := 5) (c := c1) Try.underlying22 Try.underlying5 Try.underlying9 h
  have HKS := Aside0.mk ks0
  clear ks0
  try rw [hsb]
  rw [hee] at her
  have hv0 : V l := (ech_V hB (bytesOf_B s) false x0 x1 x2 x3 (hee.trans her)).1
  rw [heo, hea] at hp
  have ha0 := (esp_range hB hv0 false x0 x1 x2 x3)
  have hox := ech_V hB (bytesOf_B s) false x0 x1 x2 x3 (hee.trans her)
  rw [heo] at hox
  obtain ⟨-, -, hvo, hbo, hlo, -, hq1, hq2, hq3⟩ := hox
  rw [hea] at hq1
  rw [heb] at hq2
  rw [← hq1, ← hq2] at ha0 hq3
  have hol : (a : Int) + s.size ≤ out.length := by
    rw [hq3]; simp only [List.length_append, List.length_take, List.length_drop, bytesOf_length]; omega
  obtain ⟨a0, hab, hbl⟩ := ha0
  have hlo2 : out.length ≤ 1048576 := by omega
  have hko := Check_f out hbo hlo2 (Nat.lt_succ_self _)
  rw [show chk out = ((chk out).1, 0) from Prod.ext rfl ((chk_V hbo).2 hvo)] at hko
  have HKO := Aside0.mk hko
  have HLO := Aside0.mk hlo2
  have HBO := Aside0.mk hbo
  have HVO := Aside0.mk hvo
  clear hko hbo hvo hq1 hq2 hq3 hlo hlo2 hB hv0
  subst her
  have HSB := Aside0.mk hsb
  clear hsb hea heb heo hee hc
  have ti1 := True.intro
  have ti2 := True.intro
  by_cases hp1 : isPb out a = false
  · clear hp
    have HP1 := Aside0.mk hp1
    clear hp1
    go_enter Try.func24, Try.ntmps24
    go_wp2_with (first | (go_at_call 59; refine (change_is A c l false x0 x1 x2 x3 s _ (HS.out.step (by repeat (first | exact Below.refl _ _ | apply below_alloc | apply pw_below_drewN | apply below_drew1 | apply bytes_step))).now.2.2 HC.out hn HBY.out hs hs2 hx1 hx3).mono ?_; rintro e w1 ⟨v, rfl, hR, hb⟩; rw [HEA.out, HEB.out, HEE.out]; rw [HEO.out] at hR; obtain ⟨A2, cc2, rfl, hl2, hn2, hC2⟩ := Ap.read (.inr hR); have HL2 := Aside0.mk hl2; have HN2 := Aside0.mk hn2; clear hR hl2 hn2; have m_ := Aside0.mk ((HS.out.call (by repeat (first | exact Below.refl _ _ | apply below_alloc | apply pw_below_drewN | apply below_drew1 | apply bytes_step)) hb).add hC2 (keeps_C _ _ _ _)); clear HS hb hC2; have HS := m_; clear m_; have n1 := blk_lt HS.out.now.2.1; have n2 := blk_lt HS.out.now.2.2.1; have c0 : w1.cell? ⟨w.heap.size, 0, none⟩ = some (.bool false) := HS.out.now.2.1.cell 0; have c0a := cell_alloc1 c0; have c1 : w1.cell? ⟨w.heap.size, 1, none⟩ = some (.int .i64 x0) := HS.out.now.2.1.cell 1; have c1a := cell_alloc1 c1; have c2 : w1.cell? ⟨w.heap.size, 2, none⟩ = some (.int .i64 x1) := HS.out.now.2.1.cell 2; have c2a := cell_alloc1 c2; have c3 : w1.cell? ⟨w.heap.size, 3, none⟩ = some (.int .i64 x2) := HS.out.now.2.1.cell 3; have c3a := cell_alloc1 c3; have c4 : w1.cell? ⟨w.heap.size, 4, none⟩ = some (.int .i64 x3) := HS.out.now.2.1.cell 4; have c4a := cell_alloc1 c4; have c5 : w1.cell? ⟨w.heap.size, 5, none⟩ = some (.string s) := HS.out.now.2.1.cell 5; have c5a := cell_alloc1 c5; have k0 : w1.cell? ⟨w.heap.size + 1, 0, none⟩ = some (.bool false) := HS.out.now.2.2.1.cell 0; have f0 := HS.out.now.2.2.1.frozen 0; have k0a := cell_alloc1 k0; have f0a := froz_alloc1 k0 f0; have k0b := cell_alloc2 k0; have f0b := froz_alloc2 k0 f0; have k1 : w1.cell? ⟨w.heap.size + 1, 1, none⟩ = some (.int .i64 0) := HS.out.now.2.2.1.cell 1; have f1 := HS.out.now.2.2.1.frozen 1; have k1a := cell_alloc1 k1; have f1a := froz_alloc1 k1 f1; have k1b := cell_alloc2 k1; have f1b := froz_alloc2 k1 f1; have k2 : w1.cell? ⟨w.heap.size + 1, 2, none⟩ = some (.int .i64 0) := HS.out.now.2.2.1.cell 2; have f2 := HS.out.now.2.2.1.frozen 2; have k2a := cell_alloc1 k2; have f2a := froz_alloc1 k2 f2; have k2b := cell_alloc2 k2; have f2b := froz_alloc2 k2 f2; have k3 : w1.cell? ⟨w.heap.size + 1, 3, none⟩ = some (.int .i64 0) := HS.out.now.2.2.1.cell 3; have f3 := HS.out.now.2.2.1.frozen 3; have k3a := cell_alloc1 k3; have f3a := froz_alloc1 k3 f3; have k3b := cell_alloc2 k3; have f3b := froz_alloc2 k3 f3; have k4 : w1.cell? ⟨w.heap.size + 1, 4, none⟩ = some (.int .i64 0) := HS.out.now.2.2.1.cell 4; have f4 := HS.out.now.2.2.1.frozen 4; have k4a := cell_alloc1 k4; have f4a := froz_alloc1 k4 f4; have k4b := cell_alloc2 k4; have f4b := froz_alloc2 k4 f4; have k5 : w1.cell? ⟨w.heap.size + 1, 5, none⟩ = some (.string ⟨#[]⟩) := HS.out.now.2.2.1.cell 5; have f5 := HS.out.now.2.2.1.frozen 5; have k5a := cell_alloc1 k5; have f5a := froz_alloc1 k5 f5; have k5b := cell_alloc2 k5; have f5b := froz_alloc2 k5 f5; have ks := HKS.out (w1.alloc (.cells #[.int .i64 a, .int .i64 b] 44)) A l.length c l (HS.out.step (by repeat (first | exact Below.refl _ _ | apply below_alloc | apply pw_below_drewN | apply below_drew1 | apply bytes_step))).now.2.2.2; rw [HSB.out] at ks; have HGE := Aside0.mk n2) | (go_at_call 25; refine (MNew_ok _ A2 cc2 out _ _ (HS.out.step (by repeat (first | exact Below.refl _ _ | apply below_alloc | apply pw_below_drewN | apply below_drew1 | apply bytes_step))).now.1 HL2.out HN2.out HKO.out HLO.out).mono ?_; rintro e w2 ⟨m, rfl, hM, hb⟩; have hb0 := below_alloc (Below.refl _ (w1.alloc (.cells #[.int .i64 a, .int .i64 b] 44))) (.cells #[.bool true, .int .i64 0, .int .i64 0, .int .i64 0, .int .i64 0, .string sb] 29); have hbx := IsBlk.below (IsBlk.below (blk_new w1 (.cells #[.int .i64 a, .int .i64 b] 44)) hb0) hb; have hby := IsBlk.below (blk_new2 w1 (.cells #[.int .i64 a, .int .i64 b] 44) (.cells #[.bool true, .int .i64 0, .int .i64 0, .int .i64 0, .int .i64 0, .string sb] 29)) hb; clear hb0; have m_ := Aside0.mk ((((HS.out.call (by repeat (first | exact Below.refl _ _ | apply below_alloc | apply pw_below_drewN | apply below_drew1 | apply bytes_step)) hb).add hbx (keeps_blk _ _)).add hby (keeps_blk _ _)).add hM (keeps_map _ _)); clear HS hb hbx hby hM; have HS := m_; clear m_; have n1 := blk_lt HS.out.now.2.2.2.2.1; have n2 := blk_lt HS.out.now.2.2.2.2.2.1; have c0 : w2.cell? ⟨w.heap.size, 0, none⟩ = some (.bool false) := HS.out.now.2.2.2.2.1.cell 0; have c1 : w2.cell? ⟨w.heap.size, 1, none⟩ = some (.int .i64 x0) := HS.out.now.2.2.2.2.1.cell 1; have c2 : w2.cell? ⟨w.heap.size, 2, none⟩ = some (.int .i64 x1) := HS.out.now.2.2.2.2.1.cell 2; have c3 : w2.cell? ⟨w.heap.size, 3, none⟩ = some (.int .i64 x2) := HS.out.now.2.2.2.2.1.cell 3; have c4 : w2.cell? ⟨w.heap.size, 4, none⟩ = some (.int .i64 x3) := HS.out.now.2.2.2.2.1.cell 4; have c5 : w2.cell? ⟨w.heap.size, 5, none⟩ = some (.string s) := HS.out.now.2.2.2.2.1.cell 5; have k0 : w2.cell? ⟨w.heap.size + 1, 0, none⟩ = some (.bool false) := HS.out.now.2.2.2.2.2.1.cell 0; have f0 := HS.out.now.2.2.2.2.2.1.frozen 0; have k1 : w2.cell? ⟨w.heap.size + 1, 1, none⟩ = some (.int .i64 0) := HS.out.now.2.2.2.2.2.1.cell 1; have f1 := HS.out.now.2.2.2.2.2.1.frozen 1; have k2 : w2.cell? ⟨w.heap.size + 1, 2, none⟩ = some (.int .i64 0) := HS.out.now.2.2.2.2.2.1.cell 2; have f2 := HS.out.now.2.2.2.2.2.1.frozen 2; have k3 : w2.cell? ⟨w.heap.size + 1, 3, none⟩ = some (.int .i64 0) := HS.out.now.2.2.2.2.2.1.cell 3; have f3 := HS.out.now.2.2.2.2.2.1.frozen 3; have k4 : w2.cell? ⟨w.heap.size + 1, 4, none⟩ = some (.int .i64 0) := HS.out.now.2.2.2.2.2.1.cell 4; have f4 := HS.out.now.2.2.2.2.2.1.frozen 4; have k5 : w2.cell? ⟨w.heap.size + 1, 5, none⟩ = some (.string ⟨#[]⟩) := HS.out.now.2.2.2.2.2.1.cell 5; have f5 := HS.out.now.2.2.2.2.2.1.frozen 5; have q0 : w2.cell? ⟨w1.heap.size, 0, none⟩ = some (.int .i64 a) := HS.out.now.2.2.1.cell 0; have q0a := cell_alloc1 q0; have q1 : w2.cell? ⟨w1.heap.size, 1, none⟩ = some (.int .i64 b) := HS.out.now.2.2.1.cell 1; have q1a := cell_alloc1 q1; have r0 : w2.cell? ⟨w1.heap.size + 1, 0, none⟩ = some (.bool true) := HS.out.now.2.1.cell 0; have r1 : w2.cell? ⟨w1.heap.size + 1, 1, none⟩ = some (.int .i64 0) := HS.out.now.2.1.cell 1; have r2 : w2.cell? ⟨w1.heap.size + 1, 2, none⟩ = some (.int .i64 0) := HS.out.now.2.1.cell 2; have r3 : w2.cell? ⟨w1.heap.size + 1, 3, none⟩ = some (.int .i64 0) := HS.out.now.2.1.cell 3; have r4 : w2.cell? ⟨w1.heap.size + 1, 4, none⟩ = some (.int .i64 0) := HS.out.now.2.1.cell 4; have r5 : w2.cell? ⟨w1.heap.size + 1, 5, none⟩ = some (.string sb) := HS.out.now.2.1.cell 5) | (have _t := ti1; go_at_call 52; refine (Mis_is m out a _ (HS.out.step (by repeat (first | exact Below.refl _ _ | apply below_alloc | apply pw_below_drewN | apply below_drew1 | apply bytes_step))).now.1 HLO.out HBO.out HVO.out (by omega) (by omega)).mono ?_; rintro e w3 ⟨rfl, hb⟩; rw [HP1.out]; have m_ := Aside0.mk (HS.out.call (by repeat (first | exact Below.refl _ _ | apply below_alloc | apply pw_below_drewN | apply below_drew1 | apply bytes_step)) hb); clear HS hb ; have HS := m_; clear m_; have n1 := blk_lt HS.out.now.2.2.2.2.1; have n2 := blk_lt HS.out.now.2.2.2.2.2.1; have c0 : w3.cell? ⟨w.heap.size, 0, none⟩ = some (.bool false) := HS.out.now.2.2.2.2.1.cell 0; have c1 : w3.cell? ⟨w.heap.size, 1, none⟩ = some (.int .i64 x0) := HS.out.now.2.2.2.2.1.cell 1; have c2 : w3.cell? ⟨w.heap.size, 2, none⟩ = some (.int .i64 x1) := HS.out.now.2.2.2.2.1.cell 2; have c3 : w3.cell? ⟨w.heap.size, 3, none⟩ = some (.int .i64 x2) := HS.out.now.2.2.2.2.1.cell 3; have c4 : w3.cell? ⟨w.heap.size, 4, none⟩ = some (.int .i64 x3) := HS.out.now.2.2.2.2.1.cell 4; have c5 : w3.cell? ⟨w.heap.size, 5, none⟩ = some (.string s) := HS.out.now.2.2.2.2.1.cell 5; have k0 : w3.cell? ⟨w.heap.size + 1, 0, none⟩ = some (.bool false) := HS.out.now.2.2.2.2.2.1.cell 0; have f0 := HS.out.now.2.2.2.2.2.1.frozen 0; have k1 : w3.cell? ⟨w.heap.size + 1, 1, none⟩ = some (.int .i64 0) := HS.out.now.2.2.2.2.2.1.cell 1; have f1 := HS.out.now.2.2.2.2.2.1.frozen 1; have k2 : w3.cell? ⟨w.heap.size + 1, 2, none⟩ = some (.int .i64 0) := HS.out.now.2.2.2.2.2.1.cell 2; have f2 := HS.out.now.2.2.2.2.2.1.frozen 2; have k3 : w3.cell? ⟨w.heap.size + 1, 3, none⟩ = some (.int .i64 0) := HS.out.now.2.2.2.2.2.1.cell 3; have f3 := HS.out.now.2.2.2.2.2.1.frozen 3; have k4 : w3.cell? ⟨w.heap.size + 1, 4, none⟩ = some (.int .i64 0) := HS.out.now.2.2.2.2.2.1.cell 4; have f4 := HS.out.now.2.2.2.2.2.1.frozen 4; have k5 : w3.cell? ⟨w.heap.size + 1, 5, none⟩ = some (.string ⟨#[]⟩) := HS.out.now.2.2.2.2.2.1.cell 5; have f5 := HS.out.now.2.2.2.2.2.1.frozen 5; have q0 : w3.cell? ⟨w1.heap.size, 0, none⟩ = some (.int .i64 a) := HS.out.now.2.2.1.cell 0; have q0a := cell_alloc1 q0; have q1 : w3.cell? ⟨w1.heap.size, 1, none⟩ = some (.int .i64 b) := HS.out.now.2.2.1.cell 1; have q1a := cell_alloc1 q1; have r0 : w3.cell? ⟨w1.heap.size + 1, 0, none⟩ = some (.bool true) := HS.out.now.2.1.cell 0; have r1 : w3.cell? ⟨w1.heap.size + 1, 1, none⟩ = some (.int .i64 0) := HS.out.now.2.1.cell 1; have r2 : w3.cell? ⟨w1.heap.size + 1, 2, none⟩ = some (.int .i64 0) := HS.out.now.2.1.cell 2; have r3 : w3.cell? ⟨w1.heap.size + 1, 3, none⟩ = some (.int .i64 0) := HS.out.now.2.1.cell 3; have r4 : w3.cell? ⟨w1.heap.size + 1, 4, none⟩ = some (.int .i64 0) := HS.out.now.2.1.cell 4; have r5 : w3.cell? ⟨w1.heap.size + 1, 5, none⟩ = some (.string sb) := HS.out.now.2.1.cell 5; clear ti1 _t))
    first | rw [Exit.noGoto_ret] | skip
    refine bodyPost_ret (v := .tuple #[.agg #[.bool true, .int .i64 0, .int .i64 0, .int .i64 0, .int .i64 0, .string sb], .int .i64 0]) (results_ct (p := 4) (u := 5) (ty := 29) rfl _ _ (w.heap.size + 1) 29 #[.bool true, .int .i64 0, .int .i64 0, .int .i64 0, .int .i64 0, .string sb] (0, 0) _ rfl ?_ Try.underlying29 rfl (by kernel_rfl)) rfl ⟨rfl, ?_⟩
    · show IsBlk _ (w.heap.size + 1) _
      (repeat (with_reducible first | refine IsBlk.alloc ?_ _ | refine IsBlk.drewN ?_ _ | refine IsBlk.drew1 ?_))
      with_reducible refine blk6 (z0 := .bool false) (z1 := .int .i64 0) (z2 := .int .i64 0) (z3 := .int .i64 0) (z4 := .int .i64 0) (z5 := (.string ⟨#[]⟩)) ?_ _ _ _ _ _ _
      repeat (with_reducible first | exact HS.out.now.2.2.2.2.2.1 | refine IsBlk.alloc ?_ _ | refine IsBlk.drewN ?_ _ | refine IsBlk.drew1 ?_)
    · have hS := HS.out.bel
      (repeat (first | (with_reducible exact hS) | (with_reducible refine below_alloc ?_ _) | (with_reducible refine pw_below_drewN ?_ _) | (with_reducible refine below_drew1 ?_) | ((with_reducible refine Below.setCell ?_ ?_ _); rotate_left; (focus (first | (simp; done) | (simp; omega))))))
  · have hp2 : isPb out (a + s.size) = false := by
      rcases hp with h | h
      · exact absurd h hp1
      · exact h
    have HP1 : Aside0 (isPb out a = true) := ⟨by cases h : isPb out a with | true => rfl | false => exact absurd h hp1⟩
    have HP2 := Aside0.mk hp2
    clear hp hp1 hp2
    go_enter Try.func24, Try.ntmps24
    go_wp2_with (first | (go_at_call 59; refine (change_is A c l false x0 x1 x2 x3 s _ (HS.out.step (by repeat (first | exact Below.refl _ _ | apply below_alloc | apply pw_below_drewN | apply below_drew1 | apply bytes_step))).now.2.2 HC.out hn HBY.out hs hs2 hx1 hx3).mono ?_; rintro e w1 ⟨v, rfl, hR, hb⟩; rw [HEA.out, HEB.out, HEE.out]; rw [HEO.out] at hR; obtain ⟨A2, cc2, rfl, hl2, hn2, hC2⟩ := Ap.read (.inr hR); have HL2 := Aside0.mk hl2; have HN2 := Aside0.mk hn2; clear hR hl2 hn2; have m_ := Aside0.mk ((HS.out.call (by repeat (first | exact Below.refl _ _ | apply below_alloc | apply pw_below_drewN | apply below_drew1 | apply bytes_step)) hb).add hC2 (keeps_C _ _ _ _)); clear HS hb hC2; have HS := m_; clear m_; have n1 := blk_lt HS.out.now.2.1; have n2 := blk_lt HS.out.now.2.2.1; have c0 : w1.cell? ⟨w.heap.size, 0, none⟩ = some (.bool false) := HS.out.now.2.1.cell 0; have c0a := cell_alloc1 c0; have c1 : w1.cell? ⟨w.heap.size, 1, none⟩ = some (.int .i64 x0) := HS.out.now.2.1.cell 1; have c1a := cell_alloc1 c1; have c2 : w1.cell? ⟨w.heap.size, 2, none⟩ = some (.int .i64 x1) := HS.out.now.2.1.cell 2; have c2a := cell_alloc1 c2; have c3 : w1.cell? ⟨w.heap.size, 3, none⟩ = some (.int .i64 x2) := HS.out.now.2.1.cell 3; have c3a := cell_alloc1 c3; have c4 : w1.cell? ⟨w.heap.size, 4, none⟩ = some (.int .i64 x3) := HS.out.now.2.1.cell 4; have c4a := cell_alloc1 c4; have c5 : w1.cell? ⟨w.heap.size, 5, none⟩ = some (.string s) := HS.out.now.2.1.cell 5; have c5a := cell_alloc1 c5; have k0 : w1.cell? ⟨w.heap.size + 1, 0, none⟩ = some (.bool false) := HS.out.now.2.2.1.cell 0; have f0 := HS.out.now.2.2.1.frozen 0; have k0a := cell_alloc1 k0; have f0a := froz_alloc1 k0 f0; have k0b := cell_alloc2 k0; have f0b := froz_alloc2 k0 f0; have k1 : w1.cell? ⟨w.heap.size + 1, 1, none⟩ = some (.int .i64 0) := HS.out.now.2.2.1.cell 1; have f1 := HS.out.now.2.2.1.frozen 1; have k1a := cell_alloc1 k1; have f1a := froz_alloc1 k1 f1; have k1b := cell_alloc2 k1; have f1b := froz_alloc2 k1 f1; have k2 : w1.cell? ⟨w.heap.size + 1, 2, none⟩ = some (.int .i64 0) := HS.out.now.2.2.1.cell 2; have f2 := HS.out.now.2.2.1.frozen 2; have k2a := cell_alloc1 k2; have f2a := froz_alloc1 k2 f2; have k2b := cell_alloc2 k2; have f2b := froz_alloc2 k2 f2; have k3 : w1.cell? ⟨w.heap.size + 1, 3, none⟩ = some (.int .i64 0) := HS.out.now.2.2.1.cell 3; have f3 := HS.out.now.2.2.1.frozen 3; have k3a := cell_alloc1 k3; have f3a := froz_alloc1 k3 f3; have k3b := cell_alloc2 k3; have f3b := froz_alloc2 k3 f3; have k4 : w1.cell? ⟨w.heap.size + 1, 4, none⟩ = some (.int .i64 0) := HS.out.now.2.2.1.cell 4; have f4 := HS.out.now.2.2.1.frozen 4; have k4a := cell_alloc1 k4; have f4a := froz_alloc1 k4 f4; have k4b := cell_alloc2 k4; have f4b := froz_alloc2 k4 f4; have k5 : w1.cell? ⟨w.heap.size + 1, 5, none⟩ = some (.string ⟨#[]⟩) := HS.out.now.2.2.1.cell 5; have f5 := HS.out.now.2.2.1.frozen 5; have k5a := cell_alloc1 k5; have f5a := froz_alloc1 k5 f5; have k5b := cell_alloc2 k5; have f5b := froz_alloc2 k5 f5; have ks := HKS.out (w1.alloc (.cells #[.int .i64 a, .int .i64 b] 44)) A l.length c l (HS.out.step (by repeat (first | exact Below.refl _ _ | apply below_alloc | apply pw_below_drewN | apply below_drew1 | apply bytes_step))).now.2.2.2; rw [HSB.out] at ks; have HGE := Aside0.mk n2) | (go_at_call 25; refine (MNew_ok _ A2 cc2 out _ _ (HS.out.step (by repeat (first | exact Below.refl _ _ | apply below_alloc | apply pw_below_drewN | apply below_drew1 | apply bytes_step))).now.1 HL2.out HN2.out HKO.out HLO.out).mono ?_; rintro e w2 ⟨m, rfl, hM, hb⟩; have hb0 := below_alloc (Below.refl _ (w1.alloc (.cells #[.int .i64 a, .int .i64 b] 44))) (.cells #[.bool true, .int .i64 0, .int .i64 0, .int .i64 0, .int .i64 0, .string sb] 29); have hbx := IsBlk.below (IsBlk.below (blk_new w1 (.cells #[.int .i64 a, .int .i64 b] 44)) hb0) hb; have hby := IsBlk.below (blk_new2 w1 (.cells #[.int .i64 a, .int .i64 b] 44) (.cells #[.bool true, .int .i64 0, .int .i64 0, .int .i64 0, .int .i64 0, .string sb] 29)) hb; clear hb0; have m_ := Aside0.mk ((((HS.out.call (by repeat (first | exact Below.refl _ _ | apply below_alloc | apply pw_below_drewN | apply below_drew1 | apply bytes_step)) hb).add hbx (keeps_blk _ _)).add hby (keeps_blk _ _)).add hM (keeps_map _ _)); clear HS hb hbx hby hM; have HS := m_; clear m_; have n1 := blk_lt HS.out.now.2.2.2.2.1; have n2 := blk_lt HS.out.now.2.2.2.2.2.1; have c0 : w2.cell? ⟨w.heap.size, 0, none⟩ = some (.bool false) := HS.out.now.2.2.2.2.1.cell 0; have c1 : w2.cell? ⟨w.heap.size, 1, none⟩ = some (.int .i64 x0) := HS.out.now.2.2.2.2.1.cell 1; have c2 : w2.cell? ⟨w.heap.size, 2, none⟩ = some (.int .i64 x1) := HS.out.now.2.2.2.2.1.cell 2; have c3 : w2.cell? ⟨w.heap.size, 3, none⟩ = some (.int .i64 x2) := HS.out.now.2.2.2.2.1.cell 3; have c4 : w2.cell? ⟨w.heap.size, 4, none⟩ = some (.int .i64 x3) := HS.out.now.2.2.2.2.1.cell 4; have c5 : w2.cell? ⟨w.heap.size, 5, none⟩ = some (.string s) := HS.out.now.2.2.2.2.1.cell 5; have k0 : w2.cell? ⟨w.heap.size + 1, 0, none⟩ = some (.bool false) := HS.out.now.2.2.2.2.2.1.cell 0; have f0 := HS.out.now.2.2.2.2.2.1.frozen 0; have k1 : w2.cell? ⟨w.heap.size + 1, 1, none⟩ = some (.int .i64 0) := HS.out.now.2.2.2.2.2.1.cell 1; have f1 := HS.out.now.2.2.2.2.2.1.frozen 1; have k2 : w2.cell? ⟨w.heap.size + 1, 2, none⟩ = some (.int .i64 0) := HS.out.now.2.2.2.2.2.1.cell 2; have f2 := HS.out.now.2.2.2.2.2.1.frozen 2; have k3 : w2.cell? ⟨w.heap.size + 1, 3, none⟩ = some (.int .i64 0) := HS.out.now.2.2.2.2.2.1.cell 3; have f3 := HS.out.now.2.2.2.2.2.1.frozen 3; have k4 : w2.cell? ⟨w.heap.size + 1, 4, none⟩ = some (.int .i64 0) := HS.out.now.2.2.2.2.2.1.cell 4; have f4 := HS.out.now.2.2.2.2.2.1.frozen 4; have k5 : w2.cell? ⟨w.heap.size + 1, 5, none⟩ = some (.string ⟨#[]⟩) := HS.out.now.2.2.2.2.2.1.cell 5; have f5 := HS.out.now.2.2.2.2.2.1.frozen 5; have q0 : w2.cell? ⟨w1.heap.size, 0, none⟩ = some (.int .i64 a) := HS.out.now.2.2.1.cell 0; have q0a := cell_alloc1 q0; have q1 : w2.cell? ⟨w1.heap.size, 1, none⟩ = some (.int .i64 b) := HS.out.now.2.2.1.cell 1; have q1a := cell_alloc1 q1; have r0 : w2.cell? ⟨w1.heap.size + 1, 0, none⟩ = some (.bool true) := HS.out.now.2.1.cell 0; have r1 : w2.cell? ⟨w1.heap.size + 1, 1, none⟩ = some (.int .i64 0) := HS.out.now.2.1.cell 1; have r2 : w2.cell? ⟨w1.heap.size + 1, 2, none⟩ = some (.int .i64 0) := HS.out.now.2.1.cell 2; have r3 : w2.cell? ⟨w1.heap.size + 1, 3, none⟩ = some (.int .i64 0) := HS.out.now.2.1.cell 3; have r4 : w2.cell? ⟨w1.heap.size + 1, 4, none⟩ = some (.int .i64 0) := HS.out.now.2.1.cell 4; have r5 : w2.cell? ⟨w1.heap.size + 1, 5, none⟩ = some (.string sb) := HS.out.now.2.1.cell 5) | (have _t := ti1; go_at_call 52; refine (Mis_is m out a _ (HS.out.step (by repeat (first | exact Below.refl _ _ | apply below_alloc | apply pw_below_drewN | apply below_drew1 | apply bytes_step))).now.1 HLO.out HBO.out HVO.out (by omega) (by omega)).mono ?_; rintro e w3 ⟨rfl, hb⟩; rw [HP1.out]; have m_ := Aside0.mk (HS.out.call (by repeat (first | exact Below.refl _ _ | apply below_alloc | apply pw_below_drewN | apply below_drew1 | apply bytes_step)) hb); clear HS hb ; have HS := m_; clear m_; have n1 := blk_lt HS.out.now.2.2.2.2.1; have n2 := blk_lt HS.out.now.2.2.2.2.2.1; have c0 : w3.cell? ⟨w.heap.size, 0, none⟩ = some (.bool false) := HS.out.now.2.2.2.2.1.cell 0; have c1 : w3.cell? ⟨w.heap.size, 1, none⟩ = some (.int .i64 x0) := HS.out.now.2.2.2.2.1.cell 1; have c2 : w3.cell? ⟨w.heap.size, 2, none⟩ = some (.int .i64 x1) := HS.out.now.2.2.2.2.1.cell 2; have c3 : w3.cell? ⟨w.heap.size, 3, none⟩ = some (.int .i64 x2) := HS.out.now.2.2.2.2.1.cell 3; have c4 : w3.cell? ⟨w.heap.size, 4, none⟩ = some (.int .i64 x3) := HS.out.now.2.2.2.2.1.cell 4; have c5 : w3.cell? ⟨w.heap.size, 5, none⟩ = some (.string s) := HS.out.now.2.2.2.2.1.cell 5; have k0 : w3.cell? ⟨w.heap.size + 1, 0, none⟩ = some (.bool false) := HS.out.now.2.2.2.2.2.1.cell 0; have f0 := HS.out.now.2.2.2.2.2.1.frozen 0; have k1 : w3.cell? ⟨w.heap.size + 1, 1, none⟩ = some (.int .i64 0) := HS.out.now.2.2.2.2.2.1.cell 1; have f1 := HS.out.now.2.2.2.2.2.1.frozen 1; have k2 : w3.cell? ⟨w.heap.size + 1, 2, none⟩ = some (.int .i64 0) := HS.out.now.2.2.2.2.2.1.cell 2; have f2 := HS.out.now.2.2.2.2.2.1.frozen 2; have k3 : w3.cell? ⟨w.heap.size + 1, 3, none⟩ = some (.int .i64 0) := HS.out.now.2.2.2.2.2.1.cell 3; have f3 := HS.out.now.2.2.2.2.2.1.frozen 3; have k4 : w3.cell? ⟨w.heap.size + 1, 4, none⟩ = some (.int .i64 0) := HS.out.now.2.2.2.2.2.1.cell 4; have f4 := HS.out.now.2.2.2.2.2.1.frozen 4; have k5 : w3.cell? ⟨w.heap.size + 1, 5, none⟩ = some (.string ⟨#[]⟩) := HS.out.now.2.2.2.2.2.1.cell 5; have f5 := HS.out.now.2.2.2.2.2.1.frozen 5; have q0 : w3.cell? ⟨w1.heap.size, 0, none⟩ = some (.int .i64 a) := HS.out.now.2.2.1.cell 0; have q0a := cell_alloc1 q0; have q1 : w3.cell? ⟨w1.heap.size, 1, none⟩ = some (.int .i64 b) := HS.out.now.2.2.1.cell 1; have q1a := cell_alloc1 q1; have r0 : w3.cell? ⟨w1.heap.size + 1, 0, none⟩ = some (.bool true) := HS.out.now.2.1.cell 0; have r1 : w3.cell? ⟨w1.heap.size + 1, 1, none⟩ = some (.int .i64 0) := HS.out.now.2.1.cell 1; have r2 : w3.cell? ⟨w1.heap.size + 1, 2, none⟩ = some (.int .i64 0) := HS.out.now.2.1.cell 2; have r3 : w3.cell? ⟨w1.heap.size + 1, 3, none⟩ = some (.int .i64 0) := HS.out.now.2.1.cell 3; have r4 : w3.cell? ⟨w1.heap.size + 1, 4, none⟩ = some (.int .i64 0) := HS.out.now.2.1.cell 4; have r5 : w3.cell? ⟨w1.heap.size + 1, 5, none⟩ = some (.string sb) := HS.out.now.2.1.cell 5; clear ti1 _t) | (have _t := ti2; go_at_call 52; refine (Mis_is m out (a + s.size) _ (HS.out.step (by repeat (first | exact Below.refl _ _ | apply below_alloc | apply pw_below_drewN | apply below_drew1 | apply bytes_step))).now.1 HLO.out HBO.out HVO.out (by omega) (by omega)).mono ?_; rintro e w4 ⟨rfl, hb⟩; rw [HP2.out]; have m_ := Aside0.mk (HS.out.call (by repeat (first | exact Below.refl _ _ | apply below_alloc | apply pw_below_drewN | apply below_drew1 | apply bytes_step)) hb); clear HS hb ; have HS := m_; clear m_; have n1 := blk_lt HS.out.now.2.2.2.2.1; have n2 := blk_lt HS.out.now.2.2.2.2.2.1; have c0 : w4.cell? ⟨w.heap.size, 0, none⟩ = some (.bool false) := HS.out.now.2.2.2.2.1.cell 0; have c1 : w4.cell? ⟨w.heap.size, 1, none⟩ = some (.int .i64 x0) := HS.out.now.2.2.2.2.1.cell 1; have c2 : w4.cell? ⟨w.heap.size, 2, none⟩ = some (.int .i64 x1) := HS.out.now.2.2.2.2.1.cell 2; have c3 : w4.cell? ⟨w.heap.size, 3, none⟩ = some (.int .i64 x2) := HS.out.now.2.2.2.2.1.cell 3; have c4 : w4.cell? ⟨w.heap.size, 4, none⟩ = some (.int .i64 x3) := HS.out.now.2.2.2.2.1.cell 4; have c5 : w4.cell? ⟨w.heap.size, 5, none⟩ = some (.string s) := HS.out.now.2.2.2.2.1.cell 5; have k0 : w4.cell? ⟨w.heap.size + 1, 0, none⟩ = some (.bool false) := HS.out.now.2.2.2.2.2.1.cell 0; have f0 := HS.out.now.2.2.2.2.2.1.frozen 0; have k1 : w4.cell? ⟨w.heap.size + 1, 1, none⟩ = some (.int .i64 0) := HS.out.now.2.2.2.2.2.1.cell 1; have f1 := HS.out.now.2.2.2.2.2.1.frozen 1; have k2 : w4.cell? ⟨w.heap.size + 1, 2, none⟩ = some (.int .i64 0) := HS.out.now.2.2.2.2.2.1.cell 2; have f2 := HS.out.now.2.2.2.2.2.1.frozen 2; have k3 : w4.cell? ⟨w.heap.size + 1, 3, none⟩ = some (.int .i64 0) := HS.out.now.2.2.2.2.2.1.cell 3; have f3 := HS.out.now.2.2.2.2.2.1.frozen 3; have k4 : w4.cell? ⟨w.heap.size + 1, 4, none⟩ = some (.int .i64 0) := HS.out.now.2.2.2.2.2.1.cell 4; have f4 := HS.out.now.2.2.2.2.2.1.frozen 4; have k5 : w4.cell? ⟨w.heap.size + 1, 5, none⟩ = some (.string ⟨#[]⟩) := HS.out.now.2.2.2.2.2.1.cell 5; have f5 := HS.out.now.2.2.2.2.2.1.frozen 5; have q0 : w4.cell? ⟨w1.heap.size, 0, none⟩ = some (.int .i64 a) := HS.out.now.2.2.1.cell 0; have q0a := cell_alloc1 q0; have q1 : w4.cell? ⟨w1.heap.size, 1, none⟩ = some (.int .i64 b) := HS.out.now.2.2.1.cell 1; have q1a := cell_alloc1 q1; have r0 : w4.cell? ⟨w1.heap.size + 1, 0, none⟩ = some (.bool true) := HS.out.now.2.1.cell 0; have r1 : w4.cell? ⟨w1.heap.size + 1, 1, none⟩ = some (.int .i64 0) := HS.out.now.2.1.cell 1; have r2 : w4.cell? ⟨w1.heap.size + 1, 2, none⟩ = some (.int .i64 0) := HS.out.now.2.1.cell 2; have r3 : w4.cell? ⟨w1.heap.size + 1, 3, none⟩ = some (.int .i64 0) := HS.out.now.2.1.cell 3; have r4 : w4.cell? ⟨w1.heap.size + 1, 4, none⟩ = some (.int .i64 0) := HS.out.now.2.1.cell 4; have r5 : w4.cell? ⟨w1.heap.size + 1, 5, none⟩ = some (.string sb) := HS.out.now.2.1.cell 5; clear ti2 _t))
    first | rw [Exit.noGoto_ret] | skip
    refine bodyPost_ret (v := .tuple #[.agg #[.bool true, .int .i64 0, .int .i64 0, .int .i64 0, .int .i64 0, .string sb], .int .i64 0]) (results_ct (p := 4) (u := 5) (ty := 29) rfl _ _ (w.heap.size + 1) 29 #[.bool true, .int .i64 0, .int .i64 0, .int .i64 0, .int .i64 0, .string sb] (0, 0) _ rfl ?_ Try.underlying29 rfl (by kernel_rfl)) rfl ⟨rfl, ?_⟩
    · show IsBlk _ (w.heap.size + 1) _
      (repeat (with_reducible first | refine IsBlk.alloc ?_ _ | refine IsBlk.drewN ?_ _ | refine IsBlk.drew1 ?_))
      with_reducible refine blk6 (z0 := .bool false) (z1 := .int .i64 0) (z2 := .int .i64 0) (z3 := .int .i64 0) (z4 := .int .i64 0) (z5 := (.string ⟨#[]⟩)) ?_ _ _ _ _ _ _
      repeat (with_reducible first | exact HS.out.now.2.2.2.2.2.1 | refine IsBlk.alloc ?_ _ | refine IsBlk.drewN ?_ _ | refine IsBlk.drew1 ?_)
    · have hS := HS.out.bel
      (repeat (first | (with_reducible exact hS) | (with_reducible refine below_alloc ?_ _) | (with_reducible refine pw_below_drewN ?_ _) | (with_reducible refine below_drew1 ?_) | ((with_reducible refine Below.setCell ?_ ?_ _); rotate_left; (focus (first | (simp; done) | (simp; omega))))))

set_option maxRecDepth 100000 in
set_option maxHeartbeats 2000000 in
theorem Back_ok (A : Option Addr) (c : Nat) (l : List Int) (wh : Bool) (x0 x1 x2 x3 : Int) (s : ByteArray) (w : World) (hr : Kd.C (Kd.int .u8) w A l.length l) (hc : l.length ≤ c) (hn : A = none → c = 0) (hB : Bytes l) (hs : l.length ≤ 1048576) (hs2 : s.size ≤ 140737488351232) (hx1 : x1 ≤ 9223372036854775807) (hx3 : x3 ≤ 9223372036854775807) (hw : wh = false) (her : (ech l (bytesOf s) wh x0 x1 x2 x3).2.2.2 = 0) (hp1 : isPb (ech l (bytesOf s) wh x0 x1 x2 x3).2.2.1 (ech l (bytesOf s) wh x0 x1 x2 x3).1 = true) (hp2 : isPb (ech l (bytesOf s) wh x0 x1 x2 x3).2.2.1 ((ech l (bytesOf s) wh x0 x1 x2 x3).1 + s.size) = true) :
    Calls Try.prog 24 #[.slice A l.length c, .agg #[.bool wh, .int .i64 x0, .int .i64 x1, .int .i64 x2, .int .i64 x3, .string s]] w fun e w' => e = .returned (.tuple #[.agg #[.bool false, .int .i64 (fnd (ech l (bytesOf s) wh x0 x1 x2 x3).2.2.1 (ech l (bytesOf s) wh x0 x1 x2 x3).1), .int .i64 (pch (ech l (bytesOf s) wh x0 x1 x2 x3).2.2.1 (ech l (bytesOf s) wh x0 x1 x2 x3).1), .int .i64 (fnd (ech l (bytesOf s) wh x0 x1 x2 x3).2.2.1 ((ech l (bytesOf s) wh x0 x1 x2 x3).1 + s.size)), .int .i64 (pch (ech l (bytesOf s) wh x0 x1 x2 x3).2.2.1 ((ech l (bytesOf s) wh x0 x1 x2 x3).1 + s.size)), .string (strOfNums ((l.take (ech l (bytesOf s) wh x0 x1 x2 x3).2.1.toNat).drop (ech l (bytesOf s) wh x0 x1 x2 x3).1.toNat))], .int .i64 0]) ∧ Below w.heap.size w w' := by
  subst hw
  obtain ⟨sb, hsb⟩ : ∃ sb, strOfNums l = sb := ⟨_, rfl⟩
  have hrw := hr
  have hb1 := below_alloc (Below.refl _ w) (.cells #[.bool false, .int .i64 x0, .int .i64 x1, .int .i64 x2, .int .i64 x3, .string s] 29)
  have hb2 : Below (w.alloc (.cells #[.bool false, .int .i64 x0, .int .i64 x1, .int .i64 x2, .int .i64 x3, .string s] 29)).heap.size (w.alloc (.cells #[.bool false, .int .i64 x0, .int .i64 x1, .int .i64 x2, .int .i64 x3, .string s] 29)) ((w.alloc (.cells #[.bool false, .int .i64 x0, .int .i64 x1, .int .i64 x2, .int .i64 x3, .string s] 29)).alloc (.cells #[.bool false, .int .i64 0, .int .i64 0, .int .i64 0, .int .i64 0, .string ⟨#[]⟩] 29)) := below_alloc (Below.refl _ _) _
  have hg : IsBlk ((w.alloc (.cells #[.bool false, .int .i64 x0, .int .i64 x1, .int .i64 x2, .int .i64 x3, .string s] 29)).alloc (.cells #[.bool false, .int .i64 0, .int .i64 0, .int .i64 0, .int .i64 0, .string ⟨#[]⟩] 29)) (w.alloc (.cells #[.bool false, .int .i64 x0, .int .i64 x1, .int .i64 x2, .int .i64 x3, .string s] 29)).heap.size (.cells #[.bool false, .int .i64 0, .int .i64 0, .int .i64 0, .int .i64 0, .string ⟨#[]⟩] 29) := blk_new _ _
  rw [World.size_alloc] at hg
  have HS : Aside0 (Sta w ((w.alloc (.cells #[.bool false, .int .i64 x0, .int .i64 x1, .int .i64 x2, .int .i64 x3, .string s] 29)).alloc (.cells #[.bool false, .int .i64 0, .int .i64 0, .int .i64 0, .int .i64 0, .string ⟨#[]⟩] 29)) (fun W => IsBlk W w.heap.size (.cells #[.bool false, .int .i64 x0, .int .i64 x1, .int .i64 x2, .int .i64 x3, .string s] 29) ∧ IsBlk W (w.heap.size + 1) (.cells #[.bool false, .int .i64 0, .int .i64 0, .int .i64 0, .int .i64 0, .string ⟨#[]⟩] 29) ∧ Kd.C (Kd.int .u8) W A l.length l)) := ⟨⟨below_step hb1 hb2, ⟨IsBlk.below (blk_new w _) hb2, hg, Kd.C_below (Kd.C_below hr hb1) hb2⟩, keeps_and (keeps_blk _ _) (keeps_and (keeps_blk _ _) (keeps_C _ _ _ _))⟩⟩
  clear hb1 hb2 hg hr
  have n1 := blk_lt HS.out.now.1
  have n2 := blk_lt HS.out.now.2.1
  have c0 : ((w.alloc (.cells #[.bool false, .int .i64 x0, .int .i64 x1, .int .i64 x2, .int .i64 x3, .string s] 29)).alloc (.cells #[.bool false, .int .i64 0, .int .i64 0, .int .i64 0, .int .i64 0, .string ⟨#[]⟩] 29)).cell? ⟨w.heap.size, 0, none⟩ = some (.bool false) := HS.out.now.1.cell 0
  have c1 : ((w.alloc (.cells #[.bool false, .int .i64 x0, .int .i64 x1, .int .i64 x2, .int .i64 x3, .string s] 29)).alloc (.cells #[.bool false, .int .i64 0, .int .i64 0, .int .i64 0, .int .i64 0, .string ⟨#[]⟩] 29)).cell? ⟨w.heap.size, 1, none⟩ = some (.int .i64 x0) := HS.out.now.1.cell 1
  have c2 : ((w.alloc (.cells #[.bool false, .int .i64 x0, .int .i64 x1, .int .i64 x2, .int .i64 x3, .string s] 29)).alloc (.cells #[.bool false, .int .i64 0, .int .i64 0, .int .i64 0, .int .i64 0, .string ⟨#[]⟩] 29)).cell? ⟨w.heap.size, 2, none⟩ = some (.int .i64 x1) := HS.out.now.1.cell 2
  have c3 : ((w.alloc (.cells #[.bool false, .int .i64 x0, .int .i64 x1, .int .i64 x2, .int .i64 x3, .string s] 29)).alloc (.cells #[.bool false, .int .i64 0, .int .i64 0, .int .i64 0, .int .i64 0, .string ⟨#[]⟩] 29)).cell? ⟨w.heap.size, 3, none⟩ = some (.int .i64 x2) := HS.out.now.1.cell 3
  have c4 : ((w.alloc (.cells #[.bool false, .int .i64 x0, .int .i64 x1, .int .i64 x2, .int .i64 x3, .string s] 29)).alloc (.cells #[.bool false, .int .i64 0, .int .i64 0, .int .i64 0, .int .i64 0, .string ⟨#[]⟩] 29)).cell? ⟨w.heap.size, 4, none⟩ = some (.int .i64 x3) := HS.out.now.1.cell 4
  have c5 : ((w.alloc (.cells #[.bool false, .int .i64 x0, .int .i64 x1, .int .i64 x2, .int .i64 x3, .string s] 29)).alloc (.cells #[.bool false, .int .i64 0, .int .i64 0, .int .i64 0, .int .i64 0, .string ⟨#[]⟩] 29)).cell? ⟨w.heap.size, 5, none⟩ = some (.string s) := HS.out.now.1.cell 5
  have k0 : ((w.alloc (.cells #[.bool false, .int .i64 x0, .int .i64 x1, .int .i64 x2, .int .i64 x3, .string s] 29)).alloc (.cells #[.bool false, .int .i64 0, .int .i64 0, .int .i64 0, .int .i64 0, .string ⟨#[]⟩] 29)).cell? ⟨w.heap.size + 1, 0, none⟩ = some (.bool false) := HS.out.now.2.1.cell 0
  have f0 := HS.out.now.2.1.frozen 0
  have k1 : ((w.alloc (.cells #[.bool false, .int .i64 x0, .int .i64 x1, .int .i64 x2, .int .i64 x3, .string s] 29)).alloc (.cells #[.bool false, .int .i64 0, .int .i64 0, .int .i64 0, .int .i64 0, .string ⟨#[]⟩] 29)).cell? ⟨w.heap.size + 1, 1, none⟩ = some (.int .i64 0) := HS.out.now.2.1.cell 1
  have f1 := HS.out.now.2.1.frozen 1
  have k2 : ((w.alloc (.cells #[.bool false, .int .i64 x0, .int .i64 x1, .int .i64 x2, .int .i64 x3, .string s] 29)).alloc (.cells #[.bool false, .int .i64 0, .int .i64 0, .int .i64 0, .int .i64 0, .string ⟨#[]⟩] 29)).cell? ⟨w.heap.size + 1, 2, none⟩ = some (.int .i64 0) := HS.out.now.2.1.cell 2
  have f2 := HS.out.now.2.1.frozen 2
  have k3 : ((w.alloc (.cells #[.bool false, .int .i64 x0, .int .i64 x1, .int .i64 x2, .int .i64 x3, .string s] 29)).alloc (.cells #[.bool false, .int .i64 0, .int .i64 0, .int .i64 0, .int .i64 0, .string ⟨#[]⟩] 29)).cell? ⟨w.heap.size + 1, 3, none⟩ = some (.int .i64 0) := HS.out.now.2.1.cell 3
  have f3 := HS.out.now.2.1.frozen 3
  have k4 : ((w.alloc (.cells #[.bool false, .int .i64 x0, .int .i64 x1, .int .i64 x2, .int .i64 x3, .string s] 29)).alloc (.cells #[.bool false, .int .i64 0, .int .i64 0, .int .i64 0, .int .i64 0, .string ⟨#[]⟩] 29)).cell? ⟨w.heap.size + 1, 4, none⟩ = some (.int .i64 0) := HS.out.now.2.1.cell 4
  have f4 := HS.out.now.2.1.frozen 4
  have k5 : ((w.alloc (.cells #[.bool false, .int .i64 x0, .int .i64 x1, .int .i64 x2, .int .i64 x3, .string s] 29)).alloc (.cells #[.bool false, .int .i64 0, .int .i64 0, .int .i64 0, .int .i64 0, .string ⟨#[]⟩] 29)).cell? ⟨w.heap.size + 1, 5, none⟩ = some (.string ⟨#[]⟩) := HS.out.now.2.1.cell 5
  have f5 := HS.out.now.2.1.frozen 5
  have HC := Aside0.mk hc
  have HBY := Aside0.mk hB
  obtain ⟨a, hea⟩ : ∃ a, (ech l (bytesOf s) false x0 x1 x2 x3).1 = a := ⟨_, rfl⟩
  obtain ⟨b, heb⟩ : ∃ a, (ech l (bytesOf s) false x0 x1 x2 x3).2.1 = a := ⟨_, rfl⟩
  obtain ⟨out, heo⟩ : ∃ a, (ech l (bytesOf s) false x0 x1 x2 x3).2.2.1 = a := ⟨_, rfl⟩
  obtain ⟨er, hee⟩ : ∃ a, (ech l (bytesOf s) false x0 x1 x2 x3).2.2.2 = a := ⟨_, rfl⟩
  have HEA := Aside0.mk hea
  have HEB := Aside0.mk heb
  have HEO := Aside0.mk heo
  have HEE := Aside0.mk hee
  have ks0 := fun (W : World) (A1 : Option Addr) (n1 c1 : Nat) (xs : List Int) (h : Kd.C (Kd.int .u8) W A1 n1 xs) => Kd.C_string (P := Try.prog) (w := W) (src := 22) (dst := 9) (e := 5) (c := c1) Try.underlying22 Try.underlying5 Try.underlying9 h
  have HKS := Aside0.mk ks0
  clear ks0
  try rw [hsb]
  rw [hee] at her
  have hv0 : V l := (ech_V hB (bytesOf_B s) false x0 x1 x2 x3 (hee.trans her)).1
  rw [heo, hea] at hp1 hp2 ⊢
  rw [heb]
  have ha0 := (esp_range hB hv0 false x0 x1 x2 x3)
  have hox := ech_V hB (bytesOf_B s) false x0 x1 x2 x3 (hee.trans her)
  rw [heo] at hox
  obtain ⟨-, -, hvo, hbo, hlo, -, hq1, hq2, hq3⟩ := hox
  rw [hea] at hq1
  rw [heb] at hq2
  rw [← hq1, ← hq2] at ha0 hq3
  have hol : (a : Int) + s.size ≤ out.length := by
    rw [hq3]; simp only [List.length_append, List.length_take, List.length_drop, bytesOf_length]; omega
  obtain ⟨a0, hab, hbl⟩ := ha0
  have hlo2 : out.length ≤ 1048576 := by omega
  have hko := Check_f out hbo hlo2 (Nat.lt_succ_self _)
  rw [show chk out = ((chk out).1, 0) from Prod.ext rfl ((chk_V hbo).2 hvo)] at hko
  have HKO := Aside0.mk hko
  have HLO := Aside0.mk hlo2
  have HBO := Aside0.mk hbo
  have HVO := Aside0.mk hvo
  clear hko hbo hvo hq1 hq2 hq3 hlo hlo2 hB hv0
  subst her
  have HSB := Aside0.mk hsb
  clear hsb hea heb heo hee hc
  obtain ⟨SB, sd, E2, hCs, hsd⟩ := cut_seg w A c l a b hrw HC.out a0 hab hbl
  generalize (l.take b.toNat).drop a.toNat = seg at *
  obtain ⟨ss, hss⟩ : ∃ ss, strOfNums seg = ss := ⟨_, rfl⟩
  rw [hss]
  have HSS := Aside0.mk hss
  have HCS : Aside0 (∀ W, Below w.heap.size w W → Kd.C (Kd.int .u8) W SB seg.length seg) := ⟨fun W hW => Kd.C_below hCs hW⟩
  clear hss hCs hrw
  have HP1 := Aside0.mk hp1
  have HP2 := Aside0.mk hp2
  obtain ⟨fa, hfa⟩ : ∃ x : Int, (fnd out a : Int) = x := ⟨_, rfl⟩
  obtain ⟨pa, hpa⟩ : ∃ x : Int, pch out a = x := ⟨_, rfl⟩
  obtain ⟨fb, hfb⟩ : ∃ x : Int, (fnd out (a + s.size) : Int) = x := ⟨_, rfl⟩
  obtain ⟨pb, hpb⟩ : ∃ x : Int, pch out (a + s.size) = x := ⟨_, rfl⟩
  rw [hfa, hpa, hfb, hpb]
  have HFA := Aside0.mk hfa
  have HPA := Aside0.mk hpa
  have HFB := Aside0.mk hfb
  have HPB := Aside0.mk hpb
  clear hp1 hp2 hfa hpa hfb hpb
  have ti1 := True.intro
  have ti2 := True.intro
  go_enter Try.func24, Try.ntmps24
  go_upto_region 12 with (first | (go_at_call 59; refine (change_is A c l false x0 x1 x2 x3 s _ (HS.out.step (by repeat (first | exact Below.refl _ _ | apply below_alloc | apply pw_below_drewN | apply below_drew1 | apply bytes_step))).now.2.2 HC.out hn HBY.out hs hs2 hx1 hx3).mono ?_; rintro e w1 ⟨v, rfl, hR, hb⟩; rw [HEA.out, HEB.out, HEE.out]; rw [HEO.out] at hR; obtain ⟨A2, cc2, rfl, hl2, hn2, hC2⟩ := Ap.read (.inr hR); have HL2 := Aside0.mk hl2; have HN2 := Aside0.mk hn2; clear hR hl2 hn2; have m_ := Aside0.mk ((HS.out.call (by repeat (first | exact Below.refl _ _ | apply below_alloc | apply pw_below_drewN | apply below_drew1 | apply bytes_step)) hb).add hC2 (keeps_C _ _ _ _)); clear HS hb hC2; have HS := m_; clear m_; have n1 := blk_lt HS.out.now.2.1; have n2 := blk_lt HS.out.now.2.2.1; have c0 : w1.cell? ⟨w.heap.size, 0, none⟩ = some (.bool false) := HS.out.now.2.1.cell 0; have c0a := cell_alloc1 c0; have c1 : w1.cell? ⟨w.heap.size, 1, none⟩ = some (.int .i64 x0) := HS.out.now.2.1.cell 1; have c1a := cell_alloc1 c1; have c2 : w1.cell? ⟨w.heap.size, 2, none⟩ = some (.int .i64 x1) := HS.out.now.2.1.cell 2; have c2a := cell_alloc1 c2; have c3 : w1.cell? ⟨w.heap.size, 3, none⟩ = some (.int .i64 x2) := HS.out.now.2.1.cell 3; have c3a := cell_alloc1 c3; have c4 : w1.cell? ⟨w.heap.size, 4, none⟩ = some (.int .i64 x3) := HS.out.now.2.1.cell 4; have c4a := cell_alloc1 c4; have c5 : w1.cell? ⟨w.heap.size, 5, none⟩ = some (.string s) := HS.out.now.2.1.cell 5; have c5a := cell_alloc1 c5; have k0 : w1.cell? ⟨w.heap.size + 1, 0, none⟩ = some (.bool false) := HS.out.now.2.2.1.cell 0; have f0 := HS.out.now.2.2.1.frozen 0; have k0a := cell_alloc1 k0; have f0a := froz_alloc1 k0 f0; have k0b := cell_alloc2 k0; have f0b := froz_alloc2 k0 f0; have k1 : w1.cell? ⟨w.heap.size + 1, 1, none⟩ = some (.int .i64 0) := HS.out.now.2.2.1.cell 1; have f1 := HS.out.now.2.2.1.frozen 1; have k1a := cell_alloc1 k1; have f1a := froz_alloc1 k1 f1; have k1b := cell_alloc2 k1; have f1b := froz_alloc2 k1 f1; have k2 : w1.cell? ⟨w.heap.size + 1, 2, none⟩ = some (.int .i64 0) := HS.out.now.2.2.1.cell 2; have f2 := HS.out.now.2.2.1.frozen 2; have k2a := cell_alloc1 k2; have f2a := froz_alloc1 k2 f2; have k2b := cell_alloc2 k2; have f2b := froz_alloc2 k2 f2; have k3 : w1.cell? ⟨w.heap.size + 1, 3, none⟩ = some (.int .i64 0) := HS.out.now.2.2.1.cell 3; have f3 := HS.out.now.2.2.1.frozen 3; have k3a := cell_alloc1 k3; have f3a := froz_alloc1 k3 f3; have k3b := cell_alloc2 k3; have f3b := froz_alloc2 k3 f3; have k4 : w1.cell? ⟨w.heap.size + 1, 4, none⟩ = some (.int .i64 0) := HS.out.now.2.2.1.cell 4; have f4 := HS.out.now.2.2.1.frozen 4; have k4a := cell_alloc1 k4; have f4a := froz_alloc1 k4 f4; have k4b := cell_alloc2 k4; have f4b := froz_alloc2 k4 f4; have k5 : w1.cell? ⟨w.heap.size + 1, 5, none⟩ = some (.string ⟨#[]⟩) := HS.out.now.2.2.1.cell 5; have f5 := HS.out.now.2.2.1.frozen 5; have k5a := cell_alloc1 k5; have f5a := froz_alloc1 k5 f5; have k5b := cell_alloc2 k5; have f5b := froz_alloc2 k5 f5; have ks := HKS.out (w1.alloc (.cells #[.int .i64 a, .int .i64 b] 44)) A l.length c l (HS.out.step (by repeat (first | exact Below.refl _ _ | apply below_alloc | apply pw_below_drewN | apply below_drew1 | apply bytes_step))).now.2.2.2; rw [HSB.out] at ks; have HGE := Aside0.mk n2) | (go_at_call 25; refine (MNew_ok _ A2 cc2 out _ _ (HS.out.step (by repeat (first | exact Below.refl _ _ | apply below_alloc | apply pw_below_drewN | apply below_drew1 | apply bytes_step))).now.1 HL2.out HN2.out HKO.out HLO.out).mono ?_; rintro e w2 ⟨m, rfl, hM, hb⟩; have hb0 := below_alloc (Below.refl _ (w1.alloc (.cells #[.int .i64 a, .int .i64 b] 44))) (.cells #[.bool true, .int .i64 0, .int .i64 0, .int .i64 0, .int .i64 0, .string sb] 29); have hbx := IsBlk.below (IsBlk.below (blk_new w1 (.cells #[.int .i64 a, .int .i64 b] 44)) hb0) hb; have hby := IsBlk.below (blk_new2 w1 (.cells #[.int .i64 a, .int .i64 b] 44) (.cells #[.bool true, .int .i64 0, .int .i64 0, .int .i64 0, .int .i64 0, .string sb] 29)) hb; clear hb0; have m_ := Aside0.mk ((((HS.out.call (by repeat (first | exact Below.refl _ _ | apply below_alloc | apply pw_below_drewN | apply below_drew1 | apply bytes_step)) hb).add hbx (keeps_blk _ _)).add hby (keeps_blk _ _)).add hM (keeps_map _ _)); clear HS hb hbx hby hM; have HS := m_; clear m_; have n1 := blk_lt HS.out.now.2.2.2.2.1; have n2 := blk_lt HS.out.now.2.2.2.2.2.1; have c0 : w2.cell? ⟨w.heap.size, 0, none⟩ = some (.bool false) := HS.out.now.2.2.2.2.1.cell 0; have c1 : w2.cell? ⟨w.heap.size, 1, none⟩ = some (.int .i64 x0) := HS.out.now.2.2.2.2.1.cell 1; have c2 : w2.cell? ⟨w.heap.size, 2, none⟩ = some (.int .i64 x1) := HS.out.now.2.2.2.2.1.cell 2; have c3 : w2.cell? ⟨w.heap.size, 3, none⟩ = some (.int .i64 x2) := HS.out.now.2.2.2.2.1.cell 3; have c4 : w2.cell? ⟨w.heap.size, 4, none⟩ = some (.int .i64 x3) := HS.out.now.2.2.2.2.1.cell 4; have c5 : w2.cell? ⟨w.heap.size, 5, none⟩ = some (.string s) := HS.out.now.2.2.2.2.1.cell 5; have k0 : w2.cell? ⟨w.heap.size + 1, 0, none⟩ = some (.bool false) := HS.out.now.2.2.2.2.2.1.cell 0; have f0 := HS.out.now.2.2.2.2.2.1.frozen 0; have k1 : w2.cell? ⟨w.heap.size + 1, 1, none⟩ = some (.int .i64 0) := HS.out.now.2.2.2.2.2.1.cell 1; have f1 := HS.out.now.2.2.2.2.2.1.frozen 1; have k2 : w2.cell? ⟨w.heap.size + 1, 2, none⟩ = some (.int .i64 0) := HS.out.now.2.2.2.2.2.1.cell 2; have f2 := HS.out.now.2.2.2.2.2.1.frozen 2; have k3 : w2.cell? ⟨w.heap.size + 1, 3, none⟩ = some (.int .i64 0) := HS.out.now.2.2.2.2.2.1.cell 3; have f3 := HS.out.now.2.2.2.2.2.1.frozen 3; have k4 : w2.cell? ⟨w.heap.size + 1, 4, none⟩ = some (.int .i64 0) := HS.out.now.2.2.2.2.2.1.cell 4; have f4 := HS.out.now.2.2.2.2.2.1.frozen 4; have k5 : w2.cell? ⟨w.heap.size + 1, 5, none⟩ = some (.string ⟨#[]⟩) := HS.out.now.2.2.2.2.2.1.cell 5; have f5 := HS.out.now.2.2.2.2.2.1.frozen 5; have q0 : w2.cell? ⟨w1.heap.size, 0, none⟩ = some (.int .i64 a) := HS.out.now.2.2.1.cell 0; have q0a := cell_alloc1 q0; have q1 : w2.cell? ⟨w1.heap.size, 1, none⟩ = some (.int .i64 b) := HS.out.now.2.2.1.cell 1; have q1a := cell_alloc1 q1; have r0 : w2.cell? ⟨w1.heap.size + 1, 0, none⟩ = some (.bool true) := HS.out.now.2.1.cell 0; have r1 : w2.cell? ⟨w1.heap.size + 1, 1, none⟩ = some (.int .i64 0) := HS.out.now.2.1.cell 1; have r2 : w2.cell? ⟨w1.heap.size + 1, 2, none⟩ = some (.int .i64 0) := HS.out.now.2.1.cell 2; have r3 : w2.cell? ⟨w1.heap.size + 1, 3, none⟩ = some (.int .i64 0) := HS.out.now.2.1.cell 3; have r4 : w2.cell? ⟨w1.heap.size + 1, 4, none⟩ = some (.int .i64 0) := HS.out.now.2.1.cell 4; have r5 : w2.cell? ⟨w1.heap.size + 1, 5, none⟩ = some (.string sb) := HS.out.now.2.1.cell 5) | (have _t := ti1; go_at_call 52; refine (Mis_is m out a _ (HS.out.step (by repeat (first | exact Below.refl _ _ | apply below_alloc | apply pw_below_drewN | apply below_drew1 | apply bytes_step))).now.1 HLO.out HBO.out HVO.out (by omega) (by omega)).mono ?_; rintro e w3 ⟨rfl, hb⟩; rw [HP1.out]; have m_ := Aside0.mk (HS.out.call (by repeat (first | exact Below.refl _ _ | apply below_alloc | apply pw_below_drewN | apply below_drew1 | apply bytes_step)) hb); clear HS hb ; have HS := m_; clear m_; have n1 := blk_lt HS.out.now.2.2.2.2.1; have n2 := blk_lt HS.out.now.2.2.2.2.2.1; have c0 : w3.cell? ⟨w.heap.size, 0, none⟩ = some (.bool false) := HS.out.now.2.2.2.2.1.cell 0; have c1 : w3.cell? ⟨w.heap.size, 1, none⟩ = some (.int .i64 x0) := HS.out.now.2.2.2.2.1.cell 1; have c2 : w3.cell? ⟨w.heap.size, 2, none⟩ = some (.int .i64 x1) := HS.out.now.2.2.2.2.1.cell 2; have c3 : w3.cell? ⟨w.heap.size, 3, none⟩ = some (.int .i64 x2) := HS.out.now.2.2.2.2.1.cell 3; have c4 : w3.cell? ⟨w.heap.size, 4, none⟩ = some (.int .i64 x3) := HS.out.now.2.2.2.2.1.cell 4; have c5 : w3.cell? ⟨w.heap.size, 5, none⟩ = some (.string s) := HS.out.now.2.2.2.2.1.cell 5; have k0 : w3.cell? ⟨w.heap.size + 1, 0, none⟩ = some (.bool false) := HS.out.now.2.2.2.2.2.1.cell 0; have f0 := HS.out.now.2.2.2.2.2.1.frozen 0; have k1 : w3.cell? ⟨w.heap.size + 1, 1, none⟩ = some (.int .i64 0) := HS.out.now.2.2.2.2.2.1.cell 1; have f1 := HS.out.now.2.2.2.2.2.1.frozen 1; have k2 : w3.cell? ⟨w.heap.size + 1, 2, none⟩ = some (.int .i64 0) := HS.out.now.2.2.2.2.2.1.cell 2; have f2 := HS.out.now.2.2.2.2.2.1.frozen 2; have k3 : w3.cell? ⟨w.heap.size + 1, 3, none⟩ = some (.int .i64 0) := HS.out.now.2.2.2.2.2.1.cell 3; have f3 := HS.out.now.2.2.2.2.2.1.frozen 3; have k4 : w3.cell? ⟨w.heap.size + 1, 4, none⟩ = some (.int .i64 0) := HS.out.now.2.2.2.2.2.1.cell 4; have f4 := HS.out.now.2.2.2.2.2.1.frozen 4; have k5 : w3.cell? ⟨w.heap.size + 1, 5, none⟩ = some (.string ⟨#[]⟩) := HS.out.now.2.2.2.2.2.1.cell 5; have f5 := HS.out.now.2.2.2.2.2.1.frozen 5; have q0 : w3.cell? ⟨w1.heap.size, 0, none⟩ = some (.int .i64 a) := HS.out.now.2.2.1.cell 0; have q0a := cell_alloc1 q0; have q1 : w3.cell? ⟨w1.heap.size, 1, none⟩ = some (.int .i64 b) := HS.out.now.2.2.1.cell 1; have q1a := cell_alloc1 q1; have r0 : w3.cell? ⟨w1.heap.size + 1, 0, none⟩ = some (.bool true) := HS.out.now.2.1.cell 0; have r1 : w3.cell? ⟨w1.heap.size + 1, 1, none⟩ = some (.int .i64 0) := HS.out.now.2.1.cell 1; have r2 : w3.cell? ⟨w1.heap.size + 1, 2, none⟩ = some (.int .i64 0) := HS.out.now.2.1.cell 2; have r3 : w3.cell? ⟨w1.heap.size + 1, 3, none⟩ = some (.int .i64 0) := HS.out.now.2.1.cell 3; have r4 : w3.cell? ⟨w1.heap.size + 1, 4, none⟩ = some (.int .i64 0) := HS.out.now.2.1.cell 4; have r5 : w3.cell? ⟨w1.heap.size + 1, 5, none⟩ = some (.string sb) := HS.out.now.2.1.cell 5; clear ti1 _t) | (have _t := ti2; go_at_call 52; refine (Mis_is m out (a + s.size) _ (HS.out.step (by repeat (first | exact Below.refl _ _ | apply below_alloc | apply pw_below_drewN | apply below_drew1 | apply bytes_step))).now.1 HLO.out HBO.out HVO.out (by omega) (by omega)).mono ?_; rintro e w4 ⟨rfl, hb⟩; rw [HP2.out]; have m_ := Aside0.mk (HS.out.call (by repeat (first | exact Below.refl _ _ | apply below_alloc | apply pw_below_drewN | apply below_drew1 | apply bytes_step)) hb); clear HS hb ; have HS := m_; clear m_; have n1 := blk_lt HS.out.now.2.2.2.2.1; have n2 := blk_lt HS.out.now.2.2.2.2.2.1; have c0 : w4.cell? ⟨w.heap.size, 0, none⟩ = some (.bool false) := HS.out.now.2.2.2.2.1.cell 0; have c1 : w4.cell? ⟨w.heap.size, 1, none⟩ = some (.int .i64 x0) := HS.out.now.2.2.2.2.1.cell 1; have c2 : w4.cell? ⟨w.heap.size, 2, none⟩ = some (.int .i64 x1) := HS.out.now.2.2.2.2.1.cell 2; have c3 : w4.cell? ⟨w.heap.size, 3, none⟩ = some (.int .i64 x2) := HS.out.now.2.2.2.2.1.cell 3; have c4 : w4.cell? ⟨w.heap.size, 4, none⟩ = some (.int .i64 x3) := HS.out.now.2.2.2.2.1.cell 4; have c5 : w4.cell? ⟨w.heap.size, 5, none⟩ = some (.string s) := HS.out.now.2.2.2.2.1.cell 5; have k0 : w4.cell? ⟨w.heap.size + 1, 0, none⟩ = some (.bool false) := HS.out.now.2.2.2.2.2.1.cell 0; have f0 := HS.out.now.2.2.2.2.2.1.frozen 0; have k1 : w4.cell? ⟨w.heap.size + 1, 1, none⟩ = some (.int .i64 0) := HS.out.now.2.2.2.2.2.1.cell 1; have f1 := HS.out.now.2.2.2.2.2.1.frozen 1; have k2 : w4.cell? ⟨w.heap.size + 1, 2, none⟩ = some (.int .i64 0) := HS.out.now.2.2.2.2.2.1.cell 2; have f2 := HS.out.now.2.2.2.2.2.1.frozen 2; have k3 : w4.cell? ⟨w.heap.size + 1, 3, none⟩ = some (.int .i64 0) := HS.out.now.2.2.2.2.2.1.cell 3; have f3 := HS.out.now.2.2.2.2.2.1.frozen 3; have k4 : w4.cell? ⟨w.heap.size + 1, 4, none⟩ = some (.int .i64 0) := HS.out.now.2.2.2.2.2.1.cell 4; have f4 := HS.out.now.2.2.2.2.2.1.frozen 4; have k5 : w4.cell? ⟨w.heap.size + 1, 5, none⟩ = some (.string ⟨#[]⟩) := HS.out.now.2.2.2.2.2.1.cell 5; have f5 := HS.out.now.2.2.2.2.2.1.frozen 5; have q0 : w4.cell? ⟨w1.heap.size, 0, none⟩ = some (.int .i64 a) := HS.out.now.2.2.1.cell 0; have q0a := cell_alloc1 q0; have q1 : w4.cell? ⟨w1.heap.size, 1, none⟩ = some (.int .i64 b) := HS.out.now.2.2.1.cell 1; have q1a := cell_alloc1 q1; have r0 : w4.cell? ⟨w1.heap.size + 1, 0, none⟩ = some (.bool true) := HS.out.now.2.1.cell 0; have r1 : w4.cell? ⟨w1.heap.size + 1, 1, none⟩ = some (.int .i64 0) := HS.out.now.2.1.cell 1; have r2 : w4.cell? ⟨w1.heap.size + 1, 2, none⟩ = some (.int .i64 0) := HS.out.now.2.1.cell 2; have r3 : w4.cell? ⟨w1.heap.size + 1, 3, none⟩ = some (.int .i64 0) := HS.out.now.2.1.cell 3; have r4 : w4.cell? ⟨w1.heap.size + 1, 4, none⟩ = some (.int .i64 0) := HS.out.now.2.1.cell 4; have r5 : w4.cell? ⟨w1.heap.size + 1, 5, none⟩ = some (.string sb) := HS.out.now.2.1.cell 5; clear ti2 _t) | (go_at_call 53; refine (MRange_is m out a (a + s.size) _ (HS.out.step (by repeat (first | exact Below.refl _ _ | apply below_alloc | apply pw_below_drewN | apply below_drew1 | apply bytes_step))).now.1 HLO.out HBO.out HVO.out (by omega) (by omega) (by omega)).mono ?_; rintro e w5 ⟨rfl, hb⟩; rw [HFA.out, HPA.out, HFB.out, HPB.out]; have m_ := Aside0.mk (HS.out.call (by repeat (first | exact Below.refl _ _ | apply below_alloc | apply pw_below_drewN | apply below_drew1 | apply bytes_step)) hb); clear HS hb ; have HS := m_; clear m_; have n1 := blk_lt HS.out.now.2.2.2.2.1; have n2 := blk_lt HS.out.now.2.2.2.2.2.1; have c0 : w5.cell? ⟨w.heap.size, 0, none⟩ = some (.bool false) := HS.out.now.2.2.2.2.1.cell 0; have c0a := cell_alloc1 c0; have c1 : w5.cell? ⟨w.heap.size, 1, none⟩ = some (.int .i64 x0) := HS.out.now.2.2.2.2.1.cell 1; have c1a := cell_alloc1 c1; have c2 : w5.cell? ⟨w.heap.size, 2, none⟩ = some (.int .i64 x1) := HS.out.now.2.2.2.2.1.cell 2; have c2a := cell_alloc1 c2; have c3 : w5.cell? ⟨w.heap.size, 3, none⟩ = some (.int .i64 x2) := HS.out.now.2.2.2.2.1.cell 3; have c3a := cell_alloc1 c3; have c4 : w5.cell? ⟨w.heap.size, 4, none⟩ = some (.int .i64 x3) := HS.out.now.2.2.2.2.1.cell 4; have c4a := cell_alloc1 c4; have c5 : w5.cell? ⟨w.heap.size, 5, none⟩ = some (.string s) := HS.out.now.2.2.2.2.1.cell 5; have c5a := cell_alloc1 c5; have k0 : w5.cell? ⟨w.heap.size + 1, 0, none⟩ = some (.bool false) := HS.out.now.2.2.2.2.2.1.cell 0; have f0 := HS.out.now.2.2.2.2.2.1.frozen 0; have k0a := cell_alloc1 k0; have f0a := froz_alloc1 k0 f0; have k0b := cell_alloc2 k0; have f0b := froz_alloc2 k0 f0; have k1 : w5.cell? ⟨w.heap.size + 1, 1, none⟩ = some (.int .i64 0) := HS.out.now.2.2.2.2.2.1.cell 1; have f1 := HS.out.now.2.2.2.2.2.1.frozen 1; have k1a := cell_alloc1 k1; have f1a := froz_alloc1 k1 f1; have k1b := cell_alloc2 k1; have f1b := froz_alloc2 k1 f1; have k2 : w5.cell? ⟨w.heap.size + 1, 2, none⟩ = some (.int .i64 0) := HS.out.now.2.2.2.2.2.1.cell 2; have f2 := HS.out.now.2.2.2.2.2.1.frozen 2; have k2a := cell_alloc1 k2; have f2a := froz_alloc1 k2 f2; have k2b := cell_alloc2 k2; have f2b := froz_alloc2 k2 f2; have k3 : w5.cell? ⟨w.heap.size + 1, 3, none⟩ = some (.int .i64 0) := HS.out.now.2.2.2.2.2.1.cell 3; have f3 := HS.out.now.2.2.2.2.2.1.frozen 3; have k3a := cell_alloc1 k3; have f3a := froz_alloc1 k3 f3; have k3b := cell_alloc2 k3; have f3b := froz_alloc2 k3 f3; have k4 : w5.cell? ⟨w.heap.size + 1, 4, none⟩ = some (.int .i64 0) := HS.out.now.2.2.2.2.2.1.cell 4; have f4 := HS.out.now.2.2.2.2.2.1.frozen 4; have k4a := cell_alloc1 k4; have f4a := froz_alloc1 k4 f4; have k4b := cell_alloc2 k4; have f4b := froz_alloc2 k4 f4; have k5 : w5.cell? ⟨w.heap.size + 1, 5, none⟩ = some (.string ⟨#[]⟩) := HS.out.now.2.2.2.2.2.1.cell 5; have f5 := HS.out.now.2.2.2.2.2.1.frozen 5; have k5a := cell_alloc1 k5; have f5a := froz_alloc1 k5 f5; have k5b := cell_alloc2 k5; have f5b := froz_alloc2 k5 f5; have q0 : w5.cell? ⟨w1.heap.size, 0, none⟩ = some (.int .i64 a) := HS.out.now.2.2.1.cell 0; have q0a := cell_alloc1 q0; have q1 : w5.cell? ⟨w1.heap.size, 1, none⟩ = some (.int .i64 b) := HS.out.now.2.2.1.cell 1; have q1a := cell_alloc1 q1; have ks2 := HKS.out ((w5.alloc (.cells #[.int .i64 fa, .int .i64 pa, .int .i64 fb, .int .i64 pb] 27)).drew) SB seg.length sd seg (Kd.C_drew (Kd.C_below (HCS.out w5 HS.out.bel) (below_alloc (Below.refl _ _) _))); have ks3 := HKS.out (w5.alloc (.cells #[.int .i64 fa, .int .i64 pa, .int .i64 fb, .int .i64 pb] 27)) SB seg.length sd seg (Kd.C_below (HCS.out w5 HS.out.bel) (below_alloc (Below.refl _ _) _)); simp only [HSS.out] at ks2 ks3))
  have e1 := Nat.ne_of_lt HGE.out
  have e2 := Ne.symm e1
  have e3 := Nat.ne_of_lt n2
  have e4 := Ne.symm e3
  have HS9 := Aside0.mk ((HS.out.step (below_alloc (Below.refl w5.heap.size w5) (.cells #[.int .i64 fa, .int .i64 pa, .int .i64 fb, .int .i64 pb] 27))).add (blk_new w5 (.cells #[.int .i64 fa, .int .i64 pa, .int .i64 fb, .int .i64 pb] 27)) (keeps_blk _ _))
  clear HS c0 k0 f0 c0a k0a f0a k0b f0b c1 k1 f1 c1a k1a f1a k1b f1b c2 k2 f2 c2a k2a f2a k2b f2b c3 k3 f3 c3a k3a f3a k3b f3b c4 k4 f4 c4a k4a f4a k4b f4b c5 k5 f5 c5a k5a f5a k5b f5b q0 q1 q0a q1a n1 n2
  generalize w5.alloc (.cells #[.int .i64 fa, .int .i64 pa, .int .i64 fb, .int .i64 pb] 27) = W6 at HS9 ks2 ks3 ⊢
  generalize w5.heap.size = g6 at HS9 e3 e4 ⊢
  have HS := HS9
  clear HS9
  have n1 := blk_lt HS.out.now.2.2.2.2.2.1
  have n2 := blk_lt HS.out.now.2.2.2.2.2.2.1
  have c0 : W6.cell? ⟨w.heap.size, 0, none⟩ = some (.bool false) := HS.out.now.2.2.2.2.2.1.cell 0
  have c1 : W6.cell? ⟨w.heap.size, 1, none⟩ = some (.int .i64 x0) := HS.out.now.2.2.2.2.2.1.cell 1
  have c2 : W6.cell? ⟨w.heap.size, 2, none⟩ = some (.int .i64 x1) := HS.out.now.2.2.2.2.2.1.cell 2
  have c3 : W6.cell? ⟨w.heap.size, 3, none⟩ = some (.int .i64 x2) := HS.out.now.2.2.2.2.2.1.cell 3
  have c4 : W6.cell? ⟨w.heap.size, 4, none⟩ = some (.int .i64 x3) := HS.out.now.2.2.2.2.2.1.cell 4
  have c5 : W6.cell? ⟨w.heap.size, 5, none⟩ = some (.string s) := HS.out.now.2.2.2.2.2.1.cell 5
  have k0 : W6.cell? ⟨w.heap.size + 1, 0, none⟩ = some (.bool false) := HS.out.now.2.2.2.2.2.2.1.cell 0
  have f0 := HS.out.now.2.2.2.2.2.2.1.frozen 0
  have k1 : W6.cell? ⟨w.heap.size + 1, 1, none⟩ = some (.int .i64 0) := HS.out.now.2.2.2.2.2.2.1.cell 1
  have f1 := HS.out.now.2.2.2.2.2.2.1.frozen 1
  have k2 : W6.cell? ⟨w.heap.size + 1, 2, none⟩ = some (.int .i64 0) := HS.out.now.2.2.2.2.2.2.1.cell 2
  have f2 := HS.out.now.2.2.2.2.2.2.1.frozen 2
  have k3 : W6.cell? ⟨w.heap.size + 1, 3, none⟩ = some (.int .i64 0) := HS.out.now.2.2.2.2.2.2.1.cell 3
  have f3 := HS.out.now.2.2.2.2.2.2.1.frozen 3
  have k4 : W6.cell? ⟨w.heap.size + 1, 4, none⟩ = some (.int .i64 0) := HS.out.now.2.2.2.2.2.2.1.cell 4
  have f4 := HS.out.now.2.2.2.2.2.2.1.frozen 4
  have k5 : W6.cell? ⟨w.heap.size + 1, 5, none⟩ = some (.string ⟨#[]⟩) := HS.out.now.2.2.2.2.2.2.1.cell 5
  have f5 := HS.out.now.2.2.2.2.2.2.1.frozen 5
  have z0 : W6.cell? ⟨g6, 0, none⟩ = some (.int .i64 fa) := HS.out.now.1.cell 0
  have z1 : W6.cell? ⟨g6, 1, none⟩ = some (.int .i64 pa) := HS.out.now.1.cell 1
  have z2 : W6.cell? ⟨g6, 2, none⟩ = some (.int .i64 fb) := HS.out.now.1.cell 2
  have z3 : W6.cell? ⟨g6, 3, none⟩ = some (.int .i64 pb) := HS.out.now.1.cell 3
  have q0 : W6.cell? ⟨w1.heap.size, 0, none⟩ = some (.int .i64 a) := HS.out.now.2.2.2.1.cell 0
  have q0a := cell_alloc1 q0
  have q1 : W6.cell? ⟨w1.heap.size, 1, none⟩ = some (.int .i64 b) := HS.out.now.2.2.2.1.cell 1
  have q1a := cell_alloc1 q1
  have q9 : Below w.heap.size w ((((((W6.setCell ⟨w.heap.size + 1, 0, none⟩ (.bool false)).setCell ⟨w.heap.size + 1, 1, none⟩ (.int .i64 fa)).setCell ⟨w.heap.size + 1, 2, none⟩ (.int .i64 pa)).setCell ⟨w.heap.size + 1, 3, none⟩ (.int .i64 fb)).setCell ⟨w.heap.size + 1, 4, none⟩ (.int .i64 pb)).setCell ⟨w.heap.size + 1, 5, none⟩ (.string ss)) := ((((((HS.out.bel.setCell (Nat.le_succ _) _).setCell (Nat.le_succ _) _).setCell (Nat.le_succ _) _).setCell (Nat.le_succ _) _).setCell (Nat.le_succ _) _).setCell (Nat.le_succ _) _)
  have ks5 := HKS.out (((((((W6.setCell ⟨w.heap.size + 1, 0, none⟩ (.bool false)).setCell ⟨w.heap.size + 1, 1, none⟩ (.int .i64 fa)).setCell ⟨w.heap.size + 1, 2, none⟩ (.int .i64 pa)).setCell ⟨w.heap.size + 1, 3, none⟩ (.int .i64 fb)).setCell ⟨w.heap.size + 1, 4, none⟩ (.int .i64 pb)).setCell ⟨w.heap.size + 1, 5, none⟩ (.string ss)).drew) SB seg.length sd seg (Kd.C_drew (HCS.out _ q9))
  simp only [HSS.out] at ks5
  clear q9
  go_region_held3 (fun wx => wx.cell? ⟨g6, 0, none⟩ = some (.int .i64 fa) ∧ wx.cell? ⟨g6, 1, none⟩ = some (.int .i64 pa) ∧ wx.cell? ⟨g6, 2, none⟩ = some (.int .i64 fb) ∧ wx.cell? ⟨g6, 3, none⟩ = some (.int .i64 pb) ∧ wx.cell? ⟨w1.heap.size, 0, none⟩ = some (.int .i64 a) ∧ wx.cell? ⟨w1.heap.size, 1, none⟩ = some (.int .i64 b) ∧ (convert 22 9 (.slice SB seg.length sd)).run Try.prog wx = .ok (.string ss) wx) (go_keep) (fail)
  all_goals
    go_wp2
    first | rw [Exit.noGoto_ret] | skip
    refine bodyPost_ret (v := .tuple #[.agg #[.bool false, .int .i64 fa, .int .i64 pa, .int .i64 fb, .int .i64 pb, .string ss], .int .i64 0]) (results_ct (p := 4) (u := 5) (ty := 29) rfl _ _ (w.heap.size + 1) 29 #[.bool false, .int .i64 fa, .int .i64 pa, .int .i64 fb, .int .i64 pb, .string ss] (0, 0) _ rfl ?_ Try.underlying29 rfl (by kernel_rfl)) rfl ⟨rfl, ?_⟩
    · show IsBlk _ (w.heap.size + 1) _
      (repeat (with_reducible first | refine IsBlk.alloc ?_ _ | refine IsBlk.drewN ?_ _ | refine IsBlk.drew1 ?_))
      with_reducible refine blk6 (z0 := .bool false) (z1 := .int .i64 0) (z2 := .int .i64 0) (z3 := .int .i64 0) (z4 := .int .i64 0) (z5 := (.string ⟨#[]⟩)) ?_ _ _ _ _ _ _
      repeat (with_reducible first | exact HS.out.now.2.2.2.2.2.2.1 | refine IsBlk.alloc ?_ _ | refine IsBlk.drewN ?_ _ | refine IsBlk.drew1 ?_)
    · have hS := HS.out.bel
      (repeat (first | (with_reducible exact hS) | (with_reducible refine below_alloc ?_ _) | (with_reducible refine pw_below_drewN ?_ _) | (with_reducible refine below_drew1 ?_) | ((with_reducible refine Below.setCell ?_ ?_ _); rotate_left; (focus (first | (simp; done) | (simp; omega))))))

end Go.Proofs.Ytjebkpcekkkbkaa.B

/-
  edit: Diff.
-/
namespace Go.Proofs.Ytjebkpcekkkbkaa.B
open Go.RowKit Go.Shelf Go.Proofs Go.Proofs.YtjebkpcekkkbkaaW.PrintWords Go.Proofs.YtjebkpcekkkbkaaW.PrintLast Go.Proofs.YtjebkpcekkkbkaaW.PrintMore Go.Proofs.Ytjebkpcekkkbkaa.FBase
set_option linter.unusedVariables false
set_option linter.unusedSimpArgs false

theorem row2_at (W : World) (g : Nat) (hg : W.heap.size = g) (A B : Option Addr) (c d : Nat) (l t : List Int) (hr : Kd.C (Kd.int .u8) W A l.length l) (hc : l.length ≤ c) (hr2 : Kd.C (Kd.int .u8) W B t.length t) (hd : t.length ≤ d) (o : TypeId) :
    Kd.C (Kd.slice 5 (Kd.int .u8)) (W.alloc (.cells #[.slice A l.length c, .slice B t.length d] o)) (some ⟨g, 0, none⟩) [l, t].length [l, t] := by
  subst hg
  exact row2_C W A B c d l t hr hc hr2 hd o
theorem row1_at (W : World) (g : Nat) (hg : W.heap.size = g) (A : Option Addr) (c : Nat) (l : List Int) (hr : Kd.C (Kd.int .u8) W A l.length l) (hc : l.length ≤ c) (o : TypeId) :
    Kd.C (Kd.slice 5 (Kd.int .u8)) (W.alloc (.cells #[.slice A l.length c] o)) (some ⟨g, 0, none⟩) [l].length [l] := by
  subst hg
  exact row1_C W A c l hr hc o

/-- What both texts begin with. -/
structure Pre (a b : List Int) (k : Nat) : Prop where
  la : k ≤ a.length
  lb : k ≤ b.length
  eq : a.take k = b.take k
theorem Pre.step {a b : List Int} {k : Nat} (h : Pre a b k) (h1 : k < a.length) (h2 : k < b.length) (h3 : rd a k = rd b k) : Pre a b (k + 1) := by
  refine ⟨h1, h2, ?_⟩
  have e1 : rd a k = a[k] := by simp [rd, List.getD, h1]
  have e2 : rd b k = b[k] := by simp [rd, List.getD, h2]
  rw [List.take_succ_eq_append_getElem h1, List.take_succ_eq_append_getElem h2, h.eq, ← e1, ← e2, h3]
theorem Pre.stop {a b : List Int} {k : Nat} (h : k = a.length ∨ k = b.length ∨ rd a k ≠ rd b k) : ∀ n, k < n → n ≤ a.length → n ≤ b.length → a.take n ≠ b.take n := by
  intro n hk h1 h2 he
  have g := congrArg (fun l : List Int => l[k]?) he
  simp only [List.getElem?_take, if_pos hk] at g
  rcases h with h | h | h
  · omega
  · omega
  · apply h
    have e1 : rd a k = a[k] := by simp [rd, List.getD, show k < a.length by omega]
    have e2 : rd b k = b[k] := by simp [rd, List.getD, show k < b.length by omega]
    rw [List.getElem?_eq_getElem (show k < a.length by omega), List.getElem?_eq_getElem (show k < b.length by omega)] at g
    rw [e1, e2]
    exact Option.some.inj g
/-- Till where the way down has come. -/
structure Down (a b : List Int) (k : Nat) : Prop where
  pre : Pre a b k
  most : ∀ n : Nat, k < n → n ≤ a.length → n ≤ b.length → a.take n = b.take n → ¬ IsP a n
theorem Down.step {a b : List Int} {k : Nat} (hA : Bytes a) (hv : V a) (h : Down a b k) (hp : isPb a k = false) : 0 < k ∧ Down a b (k - 1) := by
  have hn : ¬ IsP a k := fun e => by rw [(isPb_iff a k).2 e] at hp; cases hp
  have hk : 0 < k := by
    rcases Nat.eq_zero_or_pos k with h0 | h0
    · subst h0
      exact absurd (isP_0 hA hv) hn
    · exact h0
  refine ⟨hk, ⟨by have := h.pre.la; omega, by have := h.pre.lb; omega, ?_⟩, fun n h1 h2 h3 h4 => ?_⟩
  · have := congrArg (List.take (k - 1)) h.pre.eq
    rw [List.take_take, List.take_take, Nat.min_eq_left (by omega)] at this
    exact this
  · by_cases hkn : n = k
    · subst hkn; exact hn
    · exact h.most n (by omega) h2 h3 h4
/-- What both texts end with, behind f bytes. -/
structure Suf (a b : List Int) (f k : Nat) : Prop where
  la : f + k ≤ a.length
  lb : f + k ≤ b.length
  eq : a.drop (a.length - k) = b.drop (b.length - k)
theorem Suf.step {a b : List Int} {f k : Nat} (h : Suf a b f k) (h1 : f + k < a.length) (h2 : f + k < b.length) (h3 : rd a ((a.length - 1 - k : Nat) : Int) = rd b ((b.length - 1 - k : Nat) : Int)) : Suf a b f (k + 1) := by
  refine ⟨h1, h2, ?_⟩
  have l1 : a.length - 1 - k < a.length := by omega
  have l2 : b.length - 1 - k < b.length := by omega
  have e1 : rd a ((a.length - 1 - k : Nat) : Int) = a[a.length - 1 - k] := by simp [rd, List.getD, l1]
  have e2 : rd b ((b.length - 1 - k : Nat) : Int) = b[b.length - 1 - k] := by simp [rd, List.getD, l2]
  rw [show a.length - (k + 1) = a.length - 1 - k by omega, show b.length - (k + 1) = b.length - 1 - k by omega, List.drop_eq_getElem_cons l1, List.drop_eq_getElem_cons l2, ← e1, ← e2, h3, show a.length - 1 - k + 1 = a.length - k by omega, show b.length - 1 - k + 1 = b.length - k by omega, h.eq]
theorem Suf.stop {a b : List Int} {f k : Nat} (h : f + k = a.length ∨ f + k = b.length ∨ rd a ((a.length - 1 - k : Nat) : Int) ≠ rd b ((b.length - 1 - k : Nat) : Int)) : ∀ n, k < n → f + n ≤ a.length → f + n ≤ b.length → a.drop (a.length - n) ≠ b.drop (b.length - n) := by
  intro n hk h1 h2 he
  rcases h with h | h | h
  · omega
  · omega
  · apply h
    have l1 : a.length - 1 - k < a.length := by omega
    have l2 : b.length - 1 - k < b.length := by omega
    have e1 : rd a ((a.length - 1 - k : Nat) : Int) = a[a.length - 1 - k] := by simp [rd, List.getD, l1]
    have e2 : rd b ((b.length - 1 - k : Nat) : Int) = b[b.length - 1 - k] := by simp [rd, List.getD, l2]
    have g := congrArg (fun l : List Int => l[n - 1 - k]?) he
    simp only [List.getElem?_drop] at g
    rw [show a.length - n + (n - 1 - k) = a.length - 1 - k by omega, show b.length - n + (n - 1 - k) = b.length - 1 - k by omega, List.getElem?_eq_getElem l1, List.getElem?_eq_getElem l2] at g
    rw [e1, e2]
    exact Option.some.inj g
structure Far (a b : List Int) (f k : Nat) : Prop where
  suf : Suf a b f k
  far : ∀ n : Nat, k < n → f + n ≤ a.length → f + n ≤ b.length → a.drop (a.length - n) = b.drop (b.length - n) → ¬ IsP a ((a.length - n : Nat) : Int)
theorem Far.step {a b : List Int} {f k : Nat} (hA : Bytes a) (hv : V a) (h : Far a b f k) (hp : isPb a ((a.length - k : Nat) : Int) = false) : 0 < k ∧ Far a b f (k - 1) := by
  have hn : ¬ IsP a ((a.length - k : Nat) : Int) := fun e => by rw [(isPb_iff a _).2 e] at hp; cases hp
  have hk : 0 < k := by
    rcases Nat.eq_zero_or_pos k with h0 | h0
    · subst h0
      exact absurd (isP_end hA hv) hn
    · exact h0
  refine ⟨hk, ⟨by have := h.suf.la; omega, by have := h.suf.lb; omega, ?_⟩, fun n h1 h2 h3 h4 => ?_⟩
  · have l1 := h.suf.la
    have l2 := h.suf.lb
    have := congrArg (List.drop 1) h.suf.eq
    rw [List.drop_drop, List.drop_drop, show a.length - k + 1 = a.length - (k - 1) by omega, show b.length - k + 1 = b.length - (k - 1) by omega] at this
    exact this
  · by_cases hkn : n = k
    · subst hkn; exact hn
    · exact h.far n (by omega) h2 h3 h4
end Go.Proofs.Ytjebkpcekkkbkaa.B

/-
  edit: Diff, walked.
-/
namespace Go.Proofs.Ytjebkpcekkkbkaa.B
open Go.RowKit Go.Shelf Go.Proofs Go.Proofs.YtjebkpcekkkbkaaW.PrintWords Go.Proofs.YtjebkpcekkkbkaaW.PrintLast Go.Proofs.YtjebkpcekkkbkaaW.PrintMore Go.Proofs.Ytjebkpcekkkbkaa.FBase
set_option linter.unusedVariables false
set_option linter.unusedSimpArgs false
attribute [local go_sem] max2_int min2_int max_two min_two

set_option maxRecDepth 100000 in
set_option maxHeartbeats 4000000 in
theorem Diff_ok (A B : Option Addr) (c d : Nat) (a b : List Int) (w : World) (hr : Kd.C (Kd.int .u8) w A a.length a) (hc : a.length ≤ c) (hr2 : Kd.C (Kd.int .u8) w B b.length b) (hd : b.length ≤ d) (hn : A = none → c = 0) (hA : Bytes a) (hB : Bytes b) (hs : a.length ≤ 1048576) (hs2 : b.length ≤ 140737488351232) (hl : (chk a).2 = 0) (ht : (chk b).2 = 0) (hlim : ¬ 8192 < b.length) :
    Calls Try.prog 18 #[.slice A a.length c, .slice B b.length d] w fun e w' => (∃ f t : Nat, IsDiff a b f t ∧ e = .returned (.tuple #[.agg #[.bool false, .int .i64 (fnd a f : Int), .int .i64 (pch a f), .int .i64 (fnd a ((a.length - t : Nat) : Int) : Int), .int .i64 (pch a ((a.length - t : Nat) : Int)), .string (strOfNums ((b.take (b.length - t)).drop f))], .int .i64 0])) ∧ Below w.heap.size w w' := by
  have HR2 := Aside0.mk hr2
  have hb1 := below_alloc (Below.refl _ w) (.cells #[.bool false, .int .i64 0, .int .i64 0, .int .i64 0, .int .i64 0, .string ⟨#[]⟩] 29)
  have HS : Aside0 (Sta w (w.alloc (.cells #[.bool false, .int .i64 0, .int .i64 0, .int .i64 0, .int .i64 0, .string ⟨#[]⟩] 29)) (fun W => IsBlk W w.heap.size (.cells #[.bool false, .int .i64 0, .int .i64 0, .int .i64 0, .int .i64 0, .string ⟨#[]⟩] 29) ∧ Kd.C (Kd.int .u8) W A a.length a ∧ Kd.C (Kd.int .u8) W B b.length b)) := ⟨⟨hb1, ⟨blk_new w _, Kd.C_below hr hb1, Kd.C_below hr2 hb1⟩, keeps_and (keeps_blk _ _) (keeps_and (keeps_C _ _ _ _) (keeps_C _ _ _ _))⟩⟩
  clear hb1 hr hr2
  have n1 := blk_lt HS.out.now.1
  have k0 : (w.alloc (.cells #[.bool false, .int .i64 0, .int .i64 0, .int .i64 0, .int .i64 0, .string ⟨#[]⟩] 29)).cell? ⟨w.heap.size, 0, none⟩ = some (.bool false) := HS.out.now.1.cell 0
  have f0 := HS.out.now.1.frozen 0
  have k1 : (w.alloc (.cells #[.bool false, .int .i64 0, .int .i64 0, .int .i64 0, .int .i64 0, .string ⟨#[]⟩] 29)).cell? ⟨w.heap.size, 1, none⟩ = some (.int .i64 0) := HS.out.now.1.cell 1
  have f1 := HS.out.now.1.frozen 1
  have k2 : (w.alloc (.cells #[.bool false, .int .i64 0, .int .i64 0, .int .i64 0, .int .i64 0, .string ⟨#[]⟩] 29)).cell? ⟨w.heap.size, 2, none⟩ = some (.int .i64 0) := HS.out.now.1.cell 2
  have f2 := HS.out.now.1.frozen 2
  have k3 : (w.alloc (.cells #[.bool false, .int .i64 0, .int .i64 0, .int .i64 0, .int .i64 0, .string ⟨#[]⟩] 29)).cell? ⟨w.heap.size, 3, none⟩ = some (.int .i64 0) := HS.out.now.1.cell 3
  have f3 := HS.out.now.1.frozen 3
  have k4 : (w.alloc (.cells #[.bool false, .int .i64 0, .int .i64 0, .int .i64 0, .int .i64 0, .string ⟨#[]⟩] 29)).cell? ⟨w.heap.size, 4, none⟩ = some (.int .i64 0) := HS.out.now.1.cell 4
  have f4 := HS.out.now.1.frozen 4
  have k5 : (w.alloc (.cells #[.bool false, .int .i64 0, .int .i64 0, .int .i64 0, .int .i64 0, .string ⟨#[]⟩] 29)).cell? ⟨w.heap.size, 5, none⟩ = some (.string ⟨#[]⟩) := HS.out.now.1.cell 5
  have f5 := HS.out.now.1.frozen 5
  have HC := Aside0.mk hc
  have HD := Aside0.mk hd
  have HAY := Aside0.mk hA
  have HBY := Aside0.mk hB
  have HT := Aside0.mk (texts2_f a b hA hB hs hs2)
  clear hc hd
  rw [hl, ht, if_neg (by simp)] at HT
  have g9 : decide (8192 < (b.length : Int)) = false := decide_eq_false (by omega)
  have hv := (chk_V hA).1 hl
  have hkk := Check_f a hA hs (Nat.lt_succ_self _)
  rw [show chk a = ((chk a).1, 0) from Prod.ext rfl hl] at hkk
  have HK := Aside0.mk hkk
  have HV := Aside0.mk hv
  clear hl ht hA hB hkk hv hlim
  obtain ⟨M, hM, M1, M2, M3⟩ : ∃ M : Nat, (if b.length < a.length then (b.length : Int) else (a.length : Int)) = (M : Int) ∧ M ≤ a.length ∧ M ≤ b.length ∧ (M = a.length ∨ M = b.length) := by
    by_cases h : b.length < a.length
    · exact ⟨b.length, if_pos h, by omega, Nat.le_refl _, .inr rfl⟩
    · exact ⟨a.length, if_neg h, Nat.le_refl _, by omega, .inl rfl⟩
  go_enter Try.func18, Try.ntmps18
  go_upto_block 0 with (first | (go_at_call 51; refine (edit_texts.calls _ _ _ [a, b] _ _ (row2_at _ _ (by simp) _ _ _ _ a b (HS.out.step (by repeat (first | exact Below.refl _ _ | apply below_alloc | apply pw_below_drewN | apply below_drew1 | apply bytes_step))).now.2.1 HC.out (HS.out.step (by repeat (first | exact Below.refl _ _ | apply below_alloc | apply pw_below_drewN | apply below_drew1 | apply bytes_step))).now.2.2 HD.out _) (Nat.le_refl _) HT.out).mono ?_; rintro e w1 ⟨rfl, hd⟩; have hb := hd.below; clear hd; have m_ := Aside0.mk (HS.out.call (by repeat (first | exact Below.refl _ _ | apply below_alloc | apply pw_below_drewN | apply below_drew1 | apply bytes_step)) hb); clear HS hb ; have HS := m_; clear m_; have n1 := blk_lt HS.out.now.1; have k0 : w1.cell? ⟨w.heap.size, 0, none⟩ = some (.bool false) := HS.out.now.1.cell 0; have f0 := HS.out.now.1.frozen 0; have k1 : w1.cell? ⟨w.heap.size, 1, none⟩ = some (.int .i64 0) := HS.out.now.1.cell 1; have f1 := HS.out.now.1.frozen 1; have k2 : w1.cell? ⟨w.heap.size, 2, none⟩ = some (.int .i64 0) := HS.out.now.1.cell 2; have f2 := HS.out.now.1.frozen 2; have k3 : w1.cell? ⟨w.heap.size, 3, none⟩ = some (.int .i64 0) := HS.out.now.1.cell 3; have f3 := HS.out.now.1.frozen 3; have k4 : w1.cell? ⟨w.heap.size, 4, none⟩ = some (.int .i64 0) := HS.out.now.1.cell 4; have f4 := HS.out.now.1.frozen 4; have k5 : w1.cell? ⟨w.heap.size, 5, none⟩ = some (.string ⟨#[]⟩) := HS.out.now.1.cell 5; have f5 := HS.out.now.1.frozen 5) | (go_at_call 25; refine (MNew_ok _ A c a _ _ (HS.out.step (by repeat (first | exact Below.refl _ _ | apply below_alloc | apply pw_below_drewN | apply below_drew1 | apply bytes_step))).now.2.1 HC.out hn HK.out hs).mono ?_; rintro e w2 ⟨m, rfl, hM, hb⟩; have m_ := Aside0.mk ((HS.out.call (by repeat (first | exact Below.refl _ _ | apply below_alloc | apply pw_below_drewN | apply below_drew1 | apply bytes_step)) hb).add hM (keeps_map _ _)); clear HS hb hM; have HS := m_; clear m_))
  go_cut [9] from 13 (fun s9 W => ∃ k : Nat, s9 = .int .i64 k ∧ k ≤ a.length ∧ k ≤ b.length ∧ Aside0 (Pre a b k) ∧ Aside0 (∀ n, k < n → n ≤ a.length → n ≤ b.length → a.take n ≠ b.take n) ∧ Aside0 (Sta w W (fun W => IsMap W m a ∧ IsBlk W w.heap.size (.cells #[.bool false, .int .i64 0, .int .i64 0, .int .i64 0, .int .i64 0, .string ⟨#[]⟩] 29) ∧ Kd.C (Kd.int .u8) W A a.length a ∧ Kd.C (Kd.int .u8) W B b.length b)))
  case first =>
    go_wp2
    go_loopw [9] (fun s9 W => ∃ k : Nat, s9 = .int .i64 k ∧ k ≤ a.length ∧ k ≤ b.length ∧ Aside0 (Pre a b k) ∧ Aside0 (Sta w W (fun W => IsMap W m a ∧ IsBlk W w.heap.size (.cells #[.bool false, .int .i64 0, .int .i64 0, .int .i64 0, .int .i64 0, .string ⟨#[]⟩] 29) ∧ Kd.C (Kd.int .u8) W A a.length a ∧ Kd.C (Kd.int .u8) W B b.length b))) (fun s9 _ => a.length - (intOf s9).toNat)
    case atStart => exact ⟨0, rfl, Nat.zero_le _, Nat.zero_le _, ⟨⟨Nat.zero_le _, Nat.zero_le _, rfl⟩⟩, HS⟩
    case round =>
      clear HS
      obtain ⟨k, rfl, hk1, hk2, HP, HS⟩ := hrel
      by_cases h0 : k < M
      · have h1 : k < a.length := by omega
        have h2 : k < b.length := by omega
        have g1 : decide (k < M) = true := decide_eq_true h0
        obtain ⟨ad1, e1, x1⟩ := Kd.at_int HS.out.now.2.2.1 (k : Int) (by omega) (by omega)
        obtain ⟨ad2, e2, x2⟩ := Kd.at_int HS.out.now.2.2.2 (k : Int) (by omega) (by omega)
        cases e1
        cases e2
        rw [Int.toNat_natCast] at x1 x2
        by_cases h3 : rd a k = rd b k
        · have g3 : (rd a k == rd b k) = true := beq_iff_eq.mpr h3
          have HP2 := Aside0.mk (HP.out.step h1 h2 h3)
          clear h3
          go_wp2
          repeat (go_quiet (fail); try go_wp2)
          go_roundw
          case measure => simp [intOf]; omega
          case rel => exact ⟨k + 1, by simp, by omega, by omega, HP2, ⟨HS.out.step (by repeat (first | exact Below.refl _ _ | apply below_alloc | apply pw_below_drewN | apply below_drew1 | apply bytes_step))⟩⟩
        · have g3 : (rd a k == rd b k) = false := beq_eq_false_iff_ne.mpr h3
          have HQ := Aside0.mk (Pre.stop (.inr (.inr h3)))
          clear h3
          go_wp2
          repeat (go_quiet (fail); try go_wp2)
          go_meet
          exact ⟨k, rfl, hk1, hk2, HP, HQ, ⟨HS.out.step (by repeat (first | exact Below.refl _ _ | apply below_alloc | apply pw_below_drewN | apply below_drew1 | apply bytes_step))⟩⟩
      · have g1 : decide (k < M) = false := decide_eq_false h0
        have HQ : Aside0 (∀ n, k < n → n ≤ a.length → n ≤ b.length → a.take n ≠ b.take n) := ⟨Pre.stop (by omega)⟩
        go_wp2
        repeat (go_quiet (fail); try go_wp2)
        go_meet
        exact ⟨k, rfl, hk1, hk2, HP, HQ, ⟨HS.out.step (by repeat (first | exact Below.refl _ _ | apply below_alloc | apply pw_below_drewN | apply below_drew1 | apply bytes_step))⟩⟩
  case rest =>
    clear HS
    obtain ⟨k1, rfl, hka, hkb, HP, HQ, HS⟩ := hcut
    go_upto_block 2 with (fail)
    go_cut [9] from 13 (fun s9 W => ∃ k : Nat, s9 = .int .i64 k ∧ k ≤ a.length ∧ k ≤ b.length ∧ Aside0 (Down a b k) ∧ Aside0 (isPb a k = true) ∧ Aside0 (Sta w W (fun W => IsMap W m a ∧ IsBlk W w.heap.size (.cells #[.bool false, .int .i64 0, .int .i64 0, .int .i64 0, .int .i64 0, .string ⟨#[]⟩] 29) ∧ Kd.C (Kd.int .u8) W A a.length a ∧ Kd.C (Kd.int .u8) W B b.length b)))
    case first =>
      go_wp2
      go_loopw [9] (fun s9 W => ∃ k : Nat, s9 = .int .i64 k ∧ k ≤ a.length ∧ k ≤ b.length ∧ Aside0 (Down a b k) ∧ Aside0 (Sta w W (fun W => IsMap W m a ∧ IsBlk W w.heap.size (.cells #[.bool false, .int .i64 0, .int .i64 0, .int .i64 0, .int .i64 0, .string ⟨#[]⟩] 29) ∧ Kd.C (Kd.int .u8) W A a.length a ∧ Kd.C (Kd.int .u8) W B b.length b))) (fun s9 _ => (intOf s9).toNat)
      case atStart => exact ⟨k1, rfl, hka, hkb, ⟨⟨HP.out, fun n h1 h2 h3 h4 => absurd h4 (HQ.out n h1 h2 h3)⟩⟩, HS⟩
      case round =>
        clear HS HP HQ hka hkb
        obtain ⟨k, rfl, hka, hkb, HP, HS⟩ := hrel
        by_cases h1 : isPb a k = true
        · have HI := Aside0.mk h1
          clear h1
          go_wp2_with (go_at_call 52; refine (Mis_is m a (k : Int) _ (HS.out.step (by repeat (first | exact Below.refl _ _ | apply below_alloc | apply pw_below_drewN | apply below_drew1 | apply bytes_step))).now.1 hs HAY.out HV.out (by omega) (by omega)).mono ?_; rintro e w3 ⟨rfl, hb⟩; rw [HI.out]; have m_ := Aside0.mk (HS.out.call (by repeat (first | exact Below.refl _ _ | apply below_alloc | apply pw_below_drewN | apply below_drew1 | apply bytes_step)) hb); clear HS hb ; have HS := m_; clear m_)
          go_meet
          exact ⟨k, rfl, hka, hkb, HP, HI, HS⟩
        · have h2 : isPb a k = false := by cases h : isPb a k with | true => exact absurd h h1 | false => rfl
          have HI := Aside0.mk h2
          obtain ⟨hk0, hdn⟩ := HP.out.step HAY.out HV.out h2
          have HD2 := Aside0.mk hdn
          clear h1 h2 hdn
          go_wp2_with (go_at_call 52; refine (Mis_is m a (k : Int) _ (HS.out.step (by repeat (first | exact Below.refl _ _ | apply below_alloc | apply pw_below_drewN | apply below_drew1 | apply bytes_step))).now.1 hs HAY.out HV.out (by omega) (by omega)).mono ?_; rintro e w3 ⟨rfl, hb⟩; rw [HI.out]; have m_ := Aside0.mk (HS.out.call (by repeat (first | exact Below.refl _ _ | apply below_alloc | apply pw_below_drewN | apply below_drew1 | apply bytes_step)) hb); clear HS hb ; have HS := m_; clear m_)
          go_roundw
          case measure => simp [intOf]; omega
          case rel => exact ⟨k - 1, by rw [show (k : Int) - 1 = ((k - 1 : Nat) : Int) by omega], by omega, by omega, HD2, HS⟩
    case rest =>
      clear HS HP HQ hka hkb
      obtain ⟨f, rfl, hfa, hfb, HP, HI, HS⟩ := hcut
      go_upto_block 4 with (fail)
      go_cut [10] from 13 (fun s10 W => ∃ k : Nat, s10 = .int .i64 k ∧ f + k ≤ a.length ∧ f + k ≤ b.length ∧ Aside0 (Suf a b f k) ∧ Aside0 (∀ n, k < n → f + n ≤ a.length → f + n ≤ b.length → a.drop (a.length - n) ≠ b.drop (b.length - n)) ∧ Aside0 (Sta w W (fun W => IsMap W m a ∧ IsBlk W w.heap.size (.cells #[.bool false, .int .i64 0, .int .i64 0, .int .i64 0, .int .i64 0, .string ⟨#[]⟩] 29) ∧ Kd.C (Kd.int .u8) W A a.length a ∧ Kd.C (Kd.int .u8) W B b.length b)))
      case first =>
        go_wp2
        go_loopw [10] (fun s10 W => ∃ k : Nat, s10 = .int .i64 k ∧ f + k ≤ a.length ∧ f + k ≤ b.length ∧ Aside0 (Suf a b f k) ∧ Aside0 (Sta w W (fun W => IsMap W m a ∧ IsBlk W w.heap.size (.cells #[.bool false, .int .i64 0, .int .i64 0, .int .i64 0, .int .i64 0, .string ⟨#[]⟩] 29) ∧ Kd.C (Kd.int .u8) W A a.length a ∧ Kd.C (Kd.int .u8) W B b.length b))) (fun s10 _ => a.length - (intOf s10).toNat)
        case atStart => exact ⟨0, rfl, by omega, by omega, ⟨⟨by omega, by omega, by simp⟩⟩, HS⟩
        case round =>
          clear HS
          obtain ⟨k, rfl, hka, hkb, HQ, HS⟩ := hrel
          have v0 : IntKind.i64.wrap ((M : Int) - f) = (M : Int) - f := IntWalk.i64_in _ (by omega)
          by_cases h0 : (k : Int) < (M : Int) - f
          · have h1 : f + k < a.length := by omega
            have h2 : f + k < b.length := by omega
            have g1 : decide ((k : Int) < (M : Int) - f) = true := decide_eq_true h0
            obtain ⟨ad1, e1, x1⟩ := Kd.at_int HS.out.now.2.2.1 ((a.length - 1 - k : Nat) : Int) (by omega) (by omega)
            obtain ⟨ad2, e2, x2⟩ := Kd.at_int HS.out.now.2.2.2 ((b.length - 1 - k : Nat) : Int) (by omega) (by omega)
            cases e1
            cases e2
            rw [Int.toNat_natCast] at x1 x2
            have v1 : IntKind.i64.wrap ((a.length : Int) - 1) = (a.length : Int) - 1 := IntWalk.i64_in _ (by omega)
            have v2 : IntKind.i64.wrap ((a.length : Int) - 1 - k) = (a.length : Int) - 1 - k := IntWalk.i64_in _ (by omega)
            have v3 : IntKind.i64.wrap ((b.length : Int) - 1) = (b.length : Int) - 1 := IntWalk.i64_in _ (by omega)
            have v4 : IntKind.i64.wrap ((b.length : Int) - 1 - k) = (b.length : Int) - 1 - k := IntWalk.i64_in _ (by omega)
            have u1 : ((a.length : Int) - 1 - k).toNat = a.length - 1 - k := by omega
            have u2 : ((b.length : Int) - 1 - k).toNat = b.length - 1 - k := by omega
            have p1 : (0 : Int) ≤ (a.length : Int) - 1 - k := by omega
            have p2 : (0 : Int) ≤ (b.length : Int) - 1 - k := by omega
            have p3 : (a.length : Int) - 1 - k < a.length := by omega
            have p4 : (b.length : Int) - 1 - k < b.length := by omega
            by_cases h3 : rd a ((a.length - 1 - k : Nat) : Int) = rd b ((b.length - 1 - k : Nat) : Int)
            · have g3 : (rd a ((a.length - 1 - k : Nat) : Int) == rd b ((b.length - 1 - k : Nat) : Int)) = true := beq_iff_eq.mpr h3
              have HP2 := Aside0.mk (HQ.out.step h1 h2 h3)
              clear h3
              go_wp2
              repeat (go_quiet (fail); try go_wp2)
              clear v0 v1 v2 v3 v4
              go_roundw
              case measure => simp [intOf]; omega
              case rel => exact ⟨k + 1, by simp, by omega, by omega, HP2, ⟨HS.out.step (by repeat (first | exact Below.refl _ _ | apply below_alloc | apply pw_below_drewN | apply below_drew1 | apply bytes_step))⟩⟩
            · have g3 : (rd a ((a.length - 1 - k : Nat) : Int) == rd b ((b.length - 1 - k : Nat) : Int)) = false := beq_eq_false_iff_ne.mpr h3
              have HW := Aside0.mk (Suf.stop (a := a) (b := b) (f := f) (k := k) (.inr (.inr h3)))
              clear h3
              go_wp2
              repeat (go_quiet (fail); try go_wp2)
              go_meet
              exact ⟨k, rfl, hka, hkb, HQ, HW, ⟨HS.out.step (by repeat (first | exact Below.refl _ _ | apply below_alloc | apply pw_below_drewN | apply below_drew1 | apply bytes_step))⟩⟩
          · have g1 : decide ((k : Int) < (M : Int) - f) = false := decide_eq_false h0
            have HW : Aside0 (∀ n, k < n → f + n ≤ a.length → f + n ≤ b.length → a.drop (a.length - n) ≠ b.drop (b.length - n)) := ⟨Suf.stop (by omega)⟩
            go_wp2
            repeat (go_quiet (fail); try go_wp2)
            go_meet
            exact ⟨k, rfl, hka, hkb, HQ, HW, ⟨HS.out.step (by repeat (first | exact Below.refl _ _ | apply below_alloc | apply pw_below_drewN | apply below_drew1 | apply bytes_step))⟩⟩
      case rest =>
        clear HS
        obtain ⟨k2, rfl, hja, hjb, HQ, HW, HS⟩ := hcut
        go_upto_block 6 with (fail)
        go_cut [10] from 13 (fun s10 W => ∃ k : Nat, s10 = .int .i64 k ∧ f + k ≤ a.length ∧ f + k ≤ b.length ∧ Aside0 (Far a b f k) ∧ Aside0 (isPb a ((a.length : Int) - k) = true) ∧ Aside0 (Sta w W (fun W => IsMap W m a ∧ IsBlk W w.heap.size (.cells #[.bool false, .int .i64 0, .int .i64 0, .int .i64 0, .int .i64 0, .string ⟨#[]⟩] 29) ∧ Kd.C (Kd.int .u8) W A a.length a ∧ Kd.C (Kd.int .u8) W B b.length b)))
        case first =>
          go_wp2
          go_loopw [10] (fun s10 W => ∃ k : Nat, s10 = .int .i64 k ∧ f + k ≤ a.length ∧ f + k ≤ b.length ∧ Aside0 (Far a b f k) ∧ Aside0 (Sta w W (fun W => IsMap W m a ∧ IsBlk W w.heap.size (.cells #[.bool false, .int .i64 0, .int .i64 0, .int .i64 0, .int .i64 0, .string ⟨#[]⟩] 29) ∧ Kd.C (Kd.int .u8) W A a.length a ∧ Kd.C (Kd.int .u8) W B b.length b))) (fun s10 _ => (intOf s10).toNat)
          case atStart => exact ⟨k2, rfl, hja, hjb, ⟨⟨HQ.out, fun n h1 h2 h3 h4 => absurd h4 (HW.out n h1 h2 h3)⟩⟩, HS⟩
          case round =>
            clear HS HQ HW hja hjb
            obtain ⟨k, rfl, hka, hkb, HQ, HS⟩ := hrel
            by_cases h1 : isPb a ((a.length : Int) - k) = true
            · have HI := Aside0.mk h1
              clear h1
              go_wp2_with (go_at_call 52; refine (Mis_is m a ((a.length : Int) - k) _ (HS.out.step (by repeat (first | exact Below.refl _ _ | apply below_alloc | apply pw_below_drewN | apply below_drew1 | apply bytes_step))).now.1 hs HAY.out HV.out (by omega) (by omega)).mono ?_; rintro e w3 ⟨rfl, hb⟩; rw [HI.out]; have m_ := Aside0.mk (HS.out.call (by repeat (first | exact Below.refl _ _ | apply below_alloc | apply pw_below_drewN | apply below_drew1 | apply bytes_step)) hb); clear HS hb ; have HS := m_; clear m_)
              go_meet
              exact ⟨k, rfl, hka, hkb, HQ, HI, HS⟩
            · have h2 : isPb a ((a.length : Int) - k) = false := by cases h : isPb a ((a.length : Int) - k) with | true => exact absurd h h1 | false => rfl
              have HI := Aside0.mk h2
              obtain ⟨hk0, hdn⟩ := HQ.out.step HAY.out HV.out (by rw [show ((a.length - k : Nat) : Int) = (a.length : Int) - k by omega]; exact h2)
              have HD2 := Aside0.mk hdn
              clear h1 h2 hdn
              go_wp2_with (go_at_call 52; refine (Mis_is m a ((a.length : Int) - k) _ (HS.out.step (by repeat (first | exact Below.refl _ _ | apply below_alloc | apply pw_below_drewN | apply below_drew1 | apply bytes_step))).now.1 hs HAY.out HV.out (by omega) (by omega)).mono ?_; rintro e w3 ⟨rfl, hb⟩; rw [HI.out]; have m_ := Aside0.mk (HS.out.call (by repeat (first | exact Below.refl _ _ | apply below_alloc | apply pw_below_drewN | apply below_drew1 | apply bytes_step)) hb); clear HS hb ; have HS := m_; clear m_)
              go_roundw
              case measure => simp [intOf]; omega
              case rel => exact ⟨k - 1, by rw [show (k : Int) - 1 = ((k - 1 : Nat) : Int) by omega], by omega, by omega, HD2, HS⟩
        case rest =>
          clear HS HW hja hjb
          obtain ⟨t, rfl, hta, htb, HQ, HJ, HS⟩ := hcut
          have hdiff : IsDiff a b f t := ⟨(isPb_iff a f).1 HI.out, hta, htb, HP.out.pre.eq, HP.out.most, by rw [show ((a.length - t : Nat) : Int) = (a.length : Int) - t by omega]; exact (isPb_iff a _).1 HJ.out, HQ.out.suf.eq, HQ.out.far⟩
          obtain ⟨SB, sd, E2, hCs, hsd⟩ := cut_seg w B d b (f : Int) ((b.length : Int) - t) HR2.out HD.out (by omega) (by omega) (by omega)
          rw [show ((b.length : Int) - t).toNat = b.length - t by omega, Int.toNat_natCast] at E2 hCs hsd
          obtain ⟨seg, hseg⟩ : ∃ x, (b.take (b.length - t)).drop f = x := ⟨_, rfl⟩
          rw [hseg] at E2 hCs hsd
          obtain ⟨ss, hss⟩ : ∃ ss, strOfNums seg = ss := ⟨_, rfl⟩
          have HSS := Aside0.mk hss
          obtain ⟨fa, hfa'⟩ : ∃ x : Int, (fnd a (f : Int) : Int) = x := ⟨_, rfl⟩
          obtain ⟨pa, hpa'⟩ : ∃ x : Int, pch a (f : Int) = x := ⟨_, rfl⟩
          obtain ⟨fb, hfb'⟩ : ∃ x : Int, (fnd a ((a.length : Int) - t) : Int) = x := ⟨_, rfl⟩
          obtain ⟨pb, hpb'⟩ : ∃ x : Int, pch a ((a.length : Int) - t) = x := ⟨_, rfl⟩
          have HPO : Aside0 (IsDiff a b f t ∧ Value.agg #[.bool false, .int .i64 fa, .int .i64 pa, .int .i64 fb, .int .i64 pb, .string ss] = .agg #[.bool false, .int .i64 (fnd a f : Int), .int .i64 (pch a f), .int .i64 (fnd a ((a.length - t : Nat) : Int) : Int), .int .i64 (pch a ((a.length - t : Nat) : Int)), .string (strOfNums ((b.take (b.length - t)).drop f))]) := ⟨⟨hdiff, by rw [hseg, hss, show ((a.length - t : Nat) : Int) = (a.length : Int) - t by omega, hfa', hpa', hfb', hpb']⟩⟩
          have HFA := Aside0.mk hfa'
          have HPA := Aside0.mk hpa'
          have HFB := Aside0.mk hfb'
          have HPB := Aside0.mk hpb'
          have HCS : Aside0 (∀ W, Below w.heap.size w W → Kd.C (Kd.int .u8) W SB seg.length seg) := ⟨fun W hW => Kd.C_below hCs hW⟩
          clear hCs hdiff hseg hss hfa' hpa' hfb' hpb' HP HQ HI HJ hsd
          go_upto_region 21 with (go_at_call 53; refine (MRange_is m a (f : Int) ((a.length : Int) - t) _ (HS.out.step (by repeat (first | exact Below.refl _ _ | apply below_alloc | apply pw_below_drewN | apply below_drew1 | apply bytes_step))).now.1 hs HAY.out HV.out (by omega) (by omega) (by omega)).mono ?_; rintro e w4 ⟨rfl, hb⟩; rw [HFA.out, HPA.out, HFB.out, HPB.out]; have m_ := Aside0.mk (HS.out.call (by repeat (first | exact Below.refl _ _ | apply below_alloc | apply pw_below_drewN | apply below_drew1 | apply bytes_step)) hb); clear HS hb ; have HS := m_; clear m_)
          have HKS : ∀ W : World, Kd.C (Kd.int .u8) W SB seg.length seg → (convert 22 9 (.slice SB seg.length sd)).run Try.prog W = .ok (.string ss) W := fun W h => by
            have h2 := Kd.C_string (P := Try.prog) (w := W) (src := 22) (dst := 9) (e := 5) (c := sd) Try.underlying22 Try.underlying5 Try.underlying9 h
            rw [HSS.out] at h2
            exact h2
          have HS9 := Aside0.mk ((HS.out.step (below_alloc (Below.refl w4.heap.size w4) (.cells #[.int .i64 fa, .int .i64 pa, .int .i64 fb, .int .i64 pb] 27))).add (blk_new w4 (.cells #[.int .i64 fa, .int .i64 pa, .int .i64 fb, .int .i64 pb] 27)) (keeps_blk _ _))
          have hg6 := blk_lt HS.out.now.2.1
          clear HS
          generalize w4.alloc (.cells #[.int .i64 fa, .int .i64 pa, .int .i64 fb, .int .i64 pb] 27) = W6 at HS9 ⊢
          generalize w4.heap.size = g6 at HS9 hg6 ⊢
          have HS := HS9
          clear HS9
          have n1 := blk_lt HS.out.now.2.2.1
          have k0 : W6.cell? ⟨w.heap.size, 0, none⟩ = some (.bool false) := HS.out.now.2.2.1.cell 0
          have f0 := HS.out.now.2.2.1.frozen 0
          have k1 : W6.cell? ⟨w.heap.size, 1, none⟩ = some (.int .i64 0) := HS.out.now.2.2.1.cell 1
          have f1 := HS.out.now.2.2.1.frozen 1
          have k2 : W6.cell? ⟨w.heap.size, 2, none⟩ = some (.int .i64 0) := HS.out.now.2.2.1.cell 2
          have f2 := HS.out.now.2.2.1.frozen 2
          have k3 : W6.cell? ⟨w.heap.size, 3, none⟩ = some (.int .i64 0) := HS.out.now.2.2.1.cell 3
          have f3 := HS.out.now.2.2.1.frozen 3
          have k4 : W6.cell? ⟨w.heap.size, 4, none⟩ = some (.int .i64 0) := HS.out.now.2.2.1.cell 4
          have f4 := HS.out.now.2.2.1.frozen 4
          have k5 : W6.cell? ⟨w.heap.size, 5, none⟩ = some (.string ⟨#[]⟩) := HS.out.now.2.2.1.cell 5
          have f5 := HS.out.now.2.2.1.frozen 5
          have z0 : W6.cell? ⟨g6, 0, none⟩ = some (.int .i64 fa) := HS.out.now.1.cell 0
          have z1 : W6.cell? ⟨g6, 1, none⟩ = some (.int .i64 pa) := HS.out.now.1.cell 1
          have z2 : W6.cell? ⟨g6, 2, none⟩ = some (.int .i64 fb) := HS.out.now.1.cell 2
          have z3 : W6.cell? ⟨g6, 3, none⟩ = some (.int .i64 pb) := HS.out.now.1.cell 3
          have e3 := Nat.ne_of_lt hg6
          have e4 := Ne.symm e3
          have ks0 := HKS W6 (HCS.out _ HS.out.bel)
          have ks1 := HKS W6.drew (Kd.C_drew (HCS.out _ HS.out.bel))
          have q9 : Below w.heap.size w ((((((W6.setCell ⟨w.heap.size, 0, none⟩ (.bool false)).setCell ⟨w.heap.size, 1, none⟩ (.int .i64 fa)).setCell ⟨w.heap.size, 2, none⟩ (.int .i64 pa)).setCell ⟨w.heap.size, 3, none⟩ (.int .i64 fb)).setCell ⟨w.heap.size, 4, none⟩ (.int .i64 pb)).setCell ⟨w.heap.size, 5, none⟩ (.string ss)) := ((((((HS.out.bel.setCell (Nat.le_refl _) _).setCell (Nat.le_refl _) _).setCell (Nat.le_refl _) _).setCell (Nat.le_refl _) _).setCell (Nat.le_refl _) _).setCell (Nat.le_refl _) _)
          have ks5 := HKS (((((((W6.setCell ⟨w.heap.size, 0, none⟩ (.bool false)).setCell ⟨w.heap.size, 1, none⟩ (.int .i64 fa)).setCell ⟨w.heap.size, 2, none⟩ (.int .i64 pa)).setCell ⟨w.heap.size, 3, none⟩ (.int .i64 fb)).setCell ⟨w.heap.size, 4, none⟩ (.int .i64 pb)).setCell ⟨w.heap.size, 5, none⟩ (.string ss)).drew) (Kd.C_drew (HCS.out _ q9))
          clear q9 HKS
          have v5 : IntKind.i64.wrap ((b.length : Int) - t) = (b.length : Int) - t := IntWalk.i64_in _ (by omega)
          have v6 : (0 : Int) ≤ f := by omega
          have v7 : (f : Int) ≤ (b.length : Int) - t := by omega
          go_region_held3 (fun wx => wx.cell? ⟨g6, 0, none⟩ = some (.int .i64 fa) ∧ wx.cell? ⟨g6, 1, none⟩ = some (.int .i64 pa) ∧ wx.cell? ⟨g6, 2, none⟩ = some (.int .i64 fb) ∧ wx.cell? ⟨g6, 3, none⟩ = some (.int .i64 pb) ∧ (convert 22 9 (.slice SB seg.length sd)).run Try.prog wx = .ok (.string ss) wx) (go_keep) (fail)
          all_goals
            go_wp2
            first | rw [Exit.noGoto_ret] | skip
            refine bodyPost_ret (v := .tuple #[.agg #[.bool false, .int .i64 fa, .int .i64 pa, .int .i64 fb, .int .i64 pb, .string ss], .int .i64 0]) (results_ct (p := 4) (u := 5) (ty := 29) rfl _ _ w.heap.size 29 #[.bool false, .int .i64 fa, .int .i64 pa, .int .i64 fb, .int .i64 pb, .string ss] (0, 0) _ rfl ?_ Try.underlying29 rfl (by kernel_rfl)) rfl ⟨⟨f, t, HPO.out.1, by rw [HPO.out.2]⟩, ?_⟩
            · show IsBlk _ w.heap.size _
              (repeat (with_reducible first | refine IsBlk.alloc ?_ _ | refine IsBlk.drewN ?_ _ | refine IsBlk.drew1 ?_))
              with_reducible refine blk6 (z0 := .bool false) (z1 := .int .i64 0) (z2 := .int .i64 0) (z3 := .int .i64 0) (z4 := .int .i64 0) (z5 := .string ⟨#[]⟩) ?_ _ _ _ _ _ _
              repeat (with_reducible first | exact HS.out.now.2.2.1 | refine IsBlk.alloc ?_ _ | refine IsBlk.drewN ?_ _ | refine IsBlk.drew1 ?_)
            · have hS := HS.out.bel
              (repeat (first | (with_reducible exact hS) | (with_reducible refine below_alloc ?_ _) | (with_reducible refine pw_below_drewN ?_ _) | (with_reducible refine below_drew1 ?_) | ((with_reducible refine Below.setCell ?_ ?_ _); rotate_left; (focus (first | (simp; done) | (simp; omega))))))
          
end Go.Proofs.Ytjebkpcekkkbkaa.B

/-
  edit: Apply.
-/
namespace Go.Proofs.Ytjebkpcekkkbkaa.B
open Go.RowKit Go.Shelf Go.Proofs Go.Proofs.YtjebkpcekkkbkaaW.PrintWords Go.Proofs.YtjebkpcekkkbkaaW.PrintLast Go.Proofs.YtjebkpcekkkbkaaW.PrintMore Go.Proofs.Ytjebkpcekkkbkaa.FBase
set_option linter.unusedVariables false
set_option linter.unusedSimpArgs false

/-- An edit, as the plain laws have it. -/
def edOf (x : S29) : Ed := ⟨x.f0, x.f1.f0.f0, x.f1.f0.f1, x.f1.f1.f0, x.f1.f1.f1, bytesOf x.f2⟩
theorem eall_snoc (l : List Int) (a : List Ed) (e : Ed) (cur : List Int) (h : eall l a = (cur, 0)) : eall l (a ++ [e]) = if (eone cur e).2 ≠ 0 then ([], (eone cur e).2) else ((eone cur e).1, 0) := by
  rw [eall_app, h, if_neg (by simp)]
  simp [eall]
theorem eall_stop (l : List Int) (a b : List Ed) (h : (eall l a).2 ≠ 0) : eall l (a ++ b) = ([], (eall l a).2) := by
  rw [eall_app, if_pos h]

set_option maxRecDepth 100000 in
set_option maxHeartbeats 4000000 in
theorem Apply_bad (A E : Option Addr) (c d : Nat) (l : List Int) (es : List S29) (w : World) (hr : Kd.C (Kd.int .u8) w A l.length l) (hc : l.length ≤ c) (hn : A = none → c = 0) (hre : Kd.C k29 w E es.length es) (hB : Bytes l) (hs : l.length ≤ 1048576) (hz : (chk l).2 ≠ 0) :
    Calls Try.prog 27 #[.slice A l.length c, .slice E es.length d] w fun e w' => ∃ v : Value, e = .returned (.tuple #[v, .int .i64 (chk l).2]) ∧ Kd.R (Kd.int .u8) 5 w' w.heap.size (fun _ => True) v [] ∧ Below w.heap.size w w' := by
  have HS : Aside0 (Sta w w (fun W => Kd.C (Kd.int .u8) W A l.length l ∧ Kd.C k29 W E es.length es)) := ⟨⟨Below.refl _ _, ⟨hr, hre⟩, keeps_and (keeps_C _ _ _ _) (keeps_C _ _ _ _)⟩⟩
  have HC := Aside0.mk hc
  have HBY := Aside0.mk hB
  have HT := Aside0.mk (texts1_f l hB hs)
  obtain ⟨r, hk⟩ : ∃ r, (chk l).2 = r := ⟨_, rfl⟩
  rw [hk] at HT hz ⊢
  have hz1 : (r != 0) = true := bne_iff_ne.mpr hz
  clear hz hk hB hr hre hc
  go_enter Try.func27, Try.ntmps27
  go_wp2_with (go_at_call 51; refine (edit_texts.calls _ _ _ [l] _ _ (row1_at _ _ (by simp) _ _ l (HS.out.step (by repeat (first | exact Below.refl _ _ | apply below_alloc | apply pw_below_drewN | apply below_drew1 | apply bytes_step))).now.1 HC.out _) (Nat.le_refl _) HT.out).mono ?_; rintro e w1 ⟨rfl, hd⟩; have hb := hd.below; clear hd; have m_ := Aside0.mk (HS.out.call (by repeat (first | exact Below.refl _ _ | apply below_alloc | apply pw_below_drewN | apply below_drew1 | apply bytes_step)) hb); clear HS hb ; have HS := m_; clear m_)
  go_ret2
  exact ⟨_, rfl, Kd.R_nil _ _ _ _ _, HS.out.bel⟩

set_option maxRecDepth 100000 in
set_option maxHeartbeats 4000000 in
theorem Apply_many (A E : Option Addr) (c d : Nat) (l : List Int) (es : List S29) (w : World) (hr : Kd.C (Kd.int .u8) w A l.length l) (hc : l.length ≤ c) (hn : A = none → c = 0) (hre : Kd.C k29 w E es.length es) (hB : Bytes l) (hs : l.length ≤ 1048576) (hz : (chk l).2 = 0) (hm : 32 < es.length) :
    Calls Try.prog 27 #[.slice A l.length c, .slice E es.length d] w fun e w' => ∃ v : Value, e = .returned (.tuple #[v, .int .i64 5]) ∧ Kd.R (Kd.int .u8) 5 w' w.heap.size (fun _ => True) v [] ∧ Below w.heap.size w w' := by
  have HS : Aside0 (Sta w w (fun W => Kd.C (Kd.int .u8) W A l.length l ∧ Kd.C k29 W E es.length es)) := ⟨⟨Below.refl _ _, ⟨hr, hre⟩, keeps_and (keeps_C _ _ _ _) (keeps_C _ _ _ _)⟩⟩
  have HC := Aside0.mk hc
  have HBY := Aside0.mk hB
  have HT := Aside0.mk (texts1_f l hB hs)
  rw [hz] at HT
  have g1 : decide (32 < (es.length : Int)) = true := decide_eq_true (by omega)
  clear hz hB hr hre hc
  go_enter Try.func27, Try.ntmps27
  go_wp2_with (go_at_call 51; refine (edit_texts.calls _ _ _ [l] _ _ (row1_at _ _ (by simp) _ _ l (HS.out.step (by repeat (first | exact Below.refl _ _ | apply below_alloc | apply pw_below_drewN | apply below_drew1 | apply bytes_step))).now.1 HC.out _) (Nat.le_refl _) HT.out).mono ?_; rintro e w1 ⟨rfl, hd⟩; have hb := hd.below; clear hd; have m_ := Aside0.mk (HS.out.call (by repeat (first | exact Below.refl _ _ | apply below_alloc | apply pw_below_drewN | apply below_drew1 | apply bytes_step)) hb); clear HS hb ; have HS := m_; clear m_)
  go_ret2
  exact ⟨_, rfl, Kd.R_nil _ _ _ _ _, HS.out.bel⟩

set_option maxRecDepth 100000 in
set_option maxHeartbeats 4000000 in
theorem Apply_ok (A E : Option Addr) (c d : Nat) (l : List Int) (es : List S29) (w : World) (hr : Kd.C (Kd.int .u8) w A l.length l) (hc : l.length ≤ c) (hn : A = none → c = 0) (hre : Kd.C k29 w E es.length es) (hB : Bytes l) (hs : l.length ≤ 1048576) (he : ∀ x ∈ es, x.f2.size ≤ 140737488351232 ∧ x.f1.f0.f1 ≤ 9223372036854775807 ∧ x.f1.f1.f1 ≤ 9223372036854775807) (hz : (chk l).2 = 0) (hm : ¬ 32 < es.length) :
    Calls Try.prog 27 #[.slice A l.length c, .slice E es.length d] w fun e w' => ∃ v : Value, e = .returned (.tuple #[v, .int .i64 (eall l (es.map edOf)).2]) ∧ Kd.R (Kd.int .u8) 5 w' w.heap.size (fun _ => True) v (eall l (es.map edOf)).1 ∧ Below w.heap.size w w' := by
  have HS : Aside0 (Sta w w (fun W => Kd.C (Kd.int .u8) W A l.length l ∧ Kd.C k29 W E es.length es)) := ⟨⟨Below.refl _ _, ⟨hr, hre⟩, keeps_and (keeps_C _ _ _ _) (keeps_C _ _ _ _)⟩⟩
  have HC := Aside0.mk hc
  have HBY := Aside0.mk hB
  have HT := Aside0.mk (texts1_f l hB hs)
  rw [hz] at HT
  have hv := (chk_V hB).1 hz
  have g1 : decide (32 < (es.length : Int)) = false := decide_eq_false (by omega)
  have HV := Aside0.mk hv
  have HE := Aside0.mk he
  clear hz hB hr hre hc hv he
  go_enter Try.func27, Try.ntmps27
  go_wp2_with (first | (go_at_call 51; refine (edit_texts.calls _ _ _ [l] _ _ (row1_at _ _ (by simp) _ _ l (HS.out.step (by repeat (first | exact Below.refl _ _ | apply below_alloc | apply pw_below_drewN | apply below_drew1 | apply bytes_step))).now.1 HC.out _) (Nat.le_refl _) HT.out).mono ?_; rintro e w1 ⟨rfl, hd⟩; have hb := hd.below; clear hd; have m_ := Aside0.mk (HS.out.call (by repeat (first | exact Below.refl _ _ | apply below_alloc | apply pw_below_drewN | apply below_drew1 | apply bytes_step)) hb); clear HS hb ; have HS := m_; clear m_) | (go_at_call 63; refine (BClone_ok A c l _ (HS.out.step (by repeat (first | exact Below.refl _ _ | apply below_alloc | apply pw_below_drewN | apply below_drew1 | apply bytes_step))).now.1 HC.out hn (by omega)).mono ?_; rintro e w2 ⟨v, rfl, hR, hb⟩; have hR2 := Kd.R_lower hR (HS.out.step (by repeat (first | exact Below.refl _ _ | apply below_alloc | apply pw_below_drewN | apply below_drew1 | apply bytes_step))).bel.size; clear hR; obtain ⟨A2, c2, rfl, hl2, hn2, hC2⟩ := Ap.read (.inr hR2); clear hC2; have HL2 := Aside0.mk hl2; have HN2 := Aside0.mk hn2; clear hl2 hn2; have m_ := Aside0.mk ((HS.out.call (by repeat (first | exact Below.refl _ _ | apply below_alloc | apply pw_below_drewN | apply below_drew1 | apply bytes_step)) hb).add hR2 (keeps_R _ _ _ _ _ _)); clear HS hb hR2; have HS := m_; clear m_))
  go_loopw [7, 25] (fun s7 s25 W => ∃ (k : Nat) (A2 : Option Addr) (c2 : Nat) (cur : List Int), s25 = .int .i64 k ∧ s7 = .slice A2 cur.length c2 ∧ k ≤ es.length ∧ cur.length ≤ 1048576 ∧ Aside0 (cur.length ≤ c2) ∧ Aside0 (A2 = none → c2 = 0) ∧ Aside0 (Bytes cur) ∧ Aside0 (V cur) ∧ Aside0 (eall l ((es.take k).map edOf) = (cur, 0)) ∧ Aside0 (Sta w W (fun W => Kd.R (Kd.int .u8) 5 W w.heap.size (fun _ => True) (.slice A2 cur.length c2) cur ∧ Kd.C (Kd.int .u8) W A l.length l ∧ Kd.C k29 W E es.length es))) (fun _ s25 _ => es.length - (intOf s25).toNat)
  case atStart => exact ⟨0, A2, c2, l, rfl, rfl, Nat.zero_le _, hs, HL2, HN2, HBY, HV, ⟨rfl⟩, HS⟩
  case round =>
    clear HS HL2 HN2
    obtain ⟨k, A2, c2, cur, rfl, rfl, hk, hcl, HL2, HN2, HBC, HVC, HEA, HS⟩ := hrel
    by_cases h1 : k < es.length
    · have g2 : decide (k < es.length) = true := decide_eq_true h1
      obtain ⟨ad, e1, y0, y1, y2, y3, y4, y5⟩ := at_T29 HS.out.now.2.2 (k : Int) (by omega) (by omega)
      cases e1
      rw [Int.toNat_natCast] at y0 y1 y2 y3 y4 y5
      have hx : rd_T29 es (k : Int) ∈ es := by
        have : rd_T29 es (k : Int) = es[k] := by simp [rd_T29, List.getD, h1]
        rw [this]
        exact List.getElem_mem _
      have htk : (es.take (k + 1)).map edOf = (es.take k).map edOf ++ [edOf (rd_T29 es (k : Int))] := by
        rw [List.take_succ_eq_append_getElem h1, List.map_append]
        simp [rd_T29, List.getD, h1]
      obtain ⟨hx0, hx1, hx2⟩ := HE.out _ hx
      have hsn := eall_snoc l _ (edOf (rd_T29 es (k : Int))) cur HEA.out
      rw [← htk] at hsn
      generalize rd_T29 es (k : Int) = x at *
      obtain ⟨out, hout⟩ : ∃ o, (ech cur (bytesOf x.f2) x.f0 x.f1.f0.f0 x.f1.f0.f1 x.f1.f1.f0 x.f1.f1.f1).2.2.1 = o := ⟨_, rfl⟩
      obtain ⟨er, her⟩ : ∃ o, (ech cur (bytesOf x.f2) x.f0 x.f1.f0.f0 x.f1.f0.f1 x.f1.f1.f0 x.f1.f1.f1).2.2.2 = o := ⟨_, rfl⟩
      have e2 : eone cur (edOf x) = (out, er) := Prod.ext hout her
      rw [e2] at hsn
      have HEO := Aside0.mk hout
      have HEE := Aside0.mk her
      by_cases hz : er = 0
      · rw [if_neg (by simpa using hz)] at hsn
        subst hz
        have hV2 := eone_V (e := edOf x) HBC.out (bytesOf_B _) (by rw [e2])
        rw [e2] at hV2
        have HB3 := Aside0.mk hV2.2.1
        have HV3 := Aside0.mk hV2.1
        have hl3 : out.length ≤ 8192 := hV2.2.2
        have HE3 := Aside0.mk hsn
        clear hsn hV2 e2 hout her hx htk
        go_wp2_with (go_at_call 23; refine (One_is A2 c2 cur x.f0 x.f1.f0.f0 x.f1.f0.f1 x.f1.f1.f0 x.f1.f1.f1 x.f2 _ (Kd.R_reads' (HS.out.step (by repeat (first | exact Below.refl _ _ | apply below_alloc | apply pw_below_drewN | apply below_drew1 | apply bytes_step))).now.1).2.2 HL2.out HN2.out HBC.out hcl hx0 hx1 hx2).mono ?_; rintro e w5 ⟨v, rfl, hR, hb⟩; rw [HEO.out] at hR; rw [HEE.out]; have hR2 := Kd.R_lower hR (HS.out.step (by repeat (first | exact Below.refl _ _ | apply below_alloc | apply pw_below_drewN | apply below_drew1 | apply bytes_step))).bel.size; clear hR; obtain ⟨A3, c3, rfl, hl3, hn3, hC3⟩ := Ap.read (.inr hR2); clear hC3; have HL3 := Aside0.mk hl3; have HN3 := Aside0.mk hn3; clear hl3 hn3; have m_ := Aside0.mk ((HS.out.call (by repeat (first | exact Below.refl _ _ | apply below_alloc | apply pw_below_drewN | apply below_drew1 | apply bytes_step)) hb).add hR2 (keeps_R _ _ _ _ _ _)); clear HS hb hR2; have HS := m_; clear m_)
        go_roundw
        case measure => simp [intOf]; omega
        case rel =>
          refine ⟨k + 1, A3, c3, out, by simp, rfl, by omega, by omega, HL3, HN3, HB3, HV3, HE3, ⟨HS.out.bel, ⟨HS.out.now.1, HS.out.now.2.2⟩, keeps_and (keeps_R _ _ _ _ _ _) (keeps_and (keeps_C _ _ _ _) (keeps_C _ _ _ _))⟩⟩
      · have hz1 : (er != 0) = true := bne_iff_ne.mpr hz
        rw [if_pos hz] at hsn
        have hfin : eall l (es.map edOf) = ([], er) := by
          have h9 := eall_stop l ((es.take (k + 1)).map edOf) ((es.drop (k + 1)).map edOf) (by rw [hsn]; exact hz)
          rw [← List.map_append, List.take_append_drop, hsn] at h9
          exact h9
        have HFIN := Aside0.mk hfin
        clear hsn e2 hout her hx htk hfin hz
        go_wp2_with (go_at_call 23; refine (One_is A2 c2 cur x.f0 x.f1.f0.f0 x.f1.f0.f1 x.f1.f1.f0 x.f1.f1.f1 x.f2 _ (Kd.R_reads' (HS.out.step (by repeat (first | exact Below.refl _ _ | apply below_alloc | apply pw_below_drewN | apply below_drew1 | apply bytes_step))).now.1).2.2 HL2.out HN2.out HBC.out hcl hx0 hx1 hx2).mono ?_; rintro e w5 ⟨v, rfl, hR, hb⟩; rw [HEO.out] at hR; rw [HEE.out]; have hR2 := Kd.R_lower hR (HS.out.step (by repeat (first | exact Below.refl _ _ | apply below_alloc | apply pw_below_drewN | apply below_drew1 | apply bytes_step))).bel.size; clear hR; obtain ⟨A3, c3, rfl, hl3, hn3, hC3⟩ := Ap.read (.inr hR2); clear hC3; have HL3 := Aside0.mk hl3; have HN3 := Aside0.mk hn3; clear hl3 hn3; have m_ := Aside0.mk ((HS.out.call (by repeat (first | exact Below.refl _ _ | apply below_alloc | apply pw_below_drewN | apply below_drew1 | apply bytes_step)) hb).add hR2 (keeps_R _ _ _ _ _ _)); clear HS hb hR2; have HS := m_; clear m_)
        go_ret2
        rw [HFIN.out]
        exact ⟨_, rfl, Kd.R_nil _ _ _ _ _, HS.out.bel⟩
    · have g2 : decide (k < es.length) = false := decide_eq_false h1
      have hfin : eall l (es.map edOf) = (cur, 0) := by
        have h9 := HEA.out
        rw [List.take_of_length_le (by omega)] at h9
        exact h9
      have HFIN := Aside0.mk hfin
      clear hfin
      go_wp2
      go_ret2
      rw [HFIN.out]
      exact ⟨_, rfl, HS.out.now.1, HS.out.bel⟩

theorem Apply_is (A E : Option Addr) (c d : Nat) (l : List Int) (es : List S29) (w : World) (hr : Kd.C (Kd.int .u8) w A l.length l) (hc : l.length ≤ c) (hn : A = none → c = 0) (hre : Kd.C k29 w E es.length es) (hB : Bytes l) (hs : l.length ≤ 1048576) (he : ∀ x ∈ es, x.f2.size ≤ 140737488351232 ∧ x.f1.f0.f1 ≤ 9223372036854775807 ∧ x.f1.f1.f1 ≤ 9223372036854775807) : Calls Try.prog 27 #[.slice A l.length c, .slice E es.length d] w fun e w' => ∃ v : Value, e = .returned (.tuple #[v, .int .i64 (eapp l (es.map edOf)).2]) ∧ Kd.R (Kd.int .u8) 5 w' w.heap.size (fun _ => True) v (eapp l (es.map edOf)).1 ∧ Below w.heap.size w w' := by
  unfold eapp
  rw [List.length_map]
  by_cases h1 : (chk l).2 ≠ 0
  · rw [if_pos h1]
    exact Apply_bad A E c d l es w hr hc hn hre hB hs h1
  · rw [if_neg h1]
    by_cases h2 : 32 < es.length
    · rw [if_pos h2]
      exact Apply_many A E c d l es w hr hc hn hre hB hs (by omega) h2
    · rw [if_neg h2]
      exact Apply_ok A E c d l es w hr hc hn hre hB hs he (by omega) h2
end Go.Proofs.Ytjebkpcekkkbkaa.B

/-
  Chapter 4's statements: what they share.
-/
namespace Go.Proofs.Ytjebkpcekkkbkaa.B
open Go.RowKit Go.Shelf Go.Proofs Go.Proofs.YtjebkpcekkkbkaaW.PrintWords Go.Proofs.YtjebkpcekkkbkaaW.PrintLast Go.Proofs.YtjebkpcekkkbkaaW.PrintMore Go.Proofs.Ytjebkpcekkkbkaa.FBase
set_option linter.unusedVariables false
set_option linter.unusedSimpArgs false

/-- A text's characters, reckoned. -/
def csF : Nat → List Int → Option (List (Int × Int))
  | 0, y => if y = [] then some [] else none
  | n + 1, y => if y = [] then some [] else if (dec y).2.2 = 0 then (csF n (y.drop (dec y).2.1.toNat)).map (fun r => ((dec y).2.1, usz (dec y).1) :: r) else none
theorem csF_ok : ∀ (n : Nat) {y : List Int} {r : List (Int × Int)}, csF n y = some r → Cs y r
  | 0, y, r, h => by
    simp only [csF] at h
    split at h
    · rename_i e
      subst e
      cases h
      exact .nil
    · cases h
  | n + 1, y, r, h => by
    simp only [csF] at h
    split at h
    · rename_i e
      subst e
      cases h
      exact .nil
    · split at h
      · rename_i he
        obtain ⟨q, hq, rfl⟩ := Option.map_eq_some_iff.1 h
        exact .step y q he (csF_ok n hq)
      · cases h
def findB (L : List Ln) (at_ : Int) (r : Nat) : Bool := decide (r < L.length) && (List.range r).all (fun t => decide ((rdLn L (t : Nat)).f2 ≤ at_)) && (decide (¬ r + 1 < L.length) || decide (at_ < (rdLn L r).f2))
theorem findB_ok {L : List Ln} {at_ : Int} {r : Nat} (h : findB L at_ r = true) : FindAt L at_ r := by
  simp only [findB, Bool.and_eq_true, Bool.or_eq_true, decide_eq_true_eq, List.all_eq_true, List.mem_range] at h
  refine ⟨h.1.1, h.1.2, fun h2 => ?_⟩
  rcases h.2 with h3 | h3
  · exact absurd h2 h3
  · exact h3
theorem poff_of {l : List Int} {L : List Ln} {line char : Int} (hL : lns l 0 0 = L) : poff l line char = if (L.length : Int) ≤ line then (l.length : Int) else (rdLn L line).f0 + off (chars (seg l (rdLn L line))) char := by unfold poff; rw [hL]
end Go.Proofs.Ytjebkpcekkkbkaa.B
