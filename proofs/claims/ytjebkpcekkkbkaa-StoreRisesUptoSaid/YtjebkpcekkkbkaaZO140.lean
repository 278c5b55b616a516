/-
  Texts of this session, one behind the other: FBasex0, FBasex1, FBasex2, FBasex3, FBasex4, B0, Row0, FBasex5, Row2, Row3, B1, B2, B3, B4, B5, C0, C1.
-/
import Derived.Test.YtjebkpcekkkbkaaBulk
import Derived.Test.YtjebkpcekkkbkaaProg
import Derived.Below
import Derived.Deep.Draws
import Derived.Deep.AppendLies
import Derived.Maps.AppendAt
import Derived.OwnWalk
import Derived.Laws.BytesArg
import Derived.Laws.MakeOwn
import Derived.Laws.OwnMore
import Derived.Deep.OwnRows
import Derived.Tactics
import Derived.Lib.ConvBytes
import Derived.Laws.Slices
import Derived.WalkKit
import Derived.KernelRfl
import Derived.RowKit3
import Derived.Deep.LoopGhost
import Derived.Deep.QuietTactic
import Derived.BigQuiet
import Derived.WideLaws
import Derived.Deep.DeepCutAuto
import Derived.Deep.CutBlock
import Derived.Deep.RegionHeld3
import Derived.Laws.Rows
import Derived.Lib.AppendStr
import Derived.ArgAppend
import Derived.Laws.IdiomCopy
import Derived.OrdersHeld
import Derived.Laws.BitsLemmas
import Derived.RowKit
import Derived.Test.YtjebkpcekkkbkaaWWords
import Derived.Test.YtjebkpcekkkbkaaWLast
import Derived.Test.YtjebkpcekkkbkaaWTab
import Derived.Test.YtjebkpcekkkbkaaWFour
import Derived.Test.YtjebkpcekkkbkaaWQPut
import Derived.Test.YtjebkpcekkkbkaaWApart
import Derived.Test.YtjebkpcekkkbkaaWArr
import Derived.Test.YtjebkpcekkkbkaaWZeros
import Derived.Test.YtjebkpcekkkbkaaWFoot
import Derived.Test.YtjebkpcekkkbkaaWKept
import Derived.Test.YtjebkpcekkkbkaaWShare
import Derived.Test.YtjebkpcekkkbkaaWN
import Derived.Test.YtjebkpcekkkbkaaWFootNe
import Derived.Test.YtjebkpcekkkbkaaWAt
import Derived.Test.YtjebkpcekkkbkaaWEqStruct
import Derived.Test.YtjebkpcekkkbkaaWRepsOne
import Derived.Test.YtjebkpcekkkbkaaWInv
import Derived.Test.YtjebkpcekkkbkaaWInvWords
import Derived.Test.YtjebkpcekkkbkaaWGuard
import Derived.Test.YtjebkpcekkkbkaaWNEv
import Derived.Test.YtjebkpcekkkbkaaWMore
import Derived.Deep.DeepFit
import Derived.ChangeShapes
import Derived.Lib.SmallJoins
import Derived.WideKeyArgs
import Derived.OpenShut
import Derived.Deep.Slices
import Derived.RangeFuncNested
import Derived.RangeFuncBound
import Derived.RangeFuncCalls
import Derived.RangeFuncLeaves
import Derived.RangeFuncBox
import Derived.Shelf.Abstract
import Derived.Shelf.RegionOpen
import Derived.OwnWalkIn
import Derived.TacticsInMore
import Derived.LoopNIn
import Derived.LoopIn
import Derived.WalkMore
import Derived.WalkSpells
import Derived.Deep.CutRange
import Derived.Maps.OwnSet
import Derived.Sort.KeysCollected
import Derived.IntWalk
import Derived.Lib.SlBytesConst
import Derived.Sort.QuietIn
import Derived.Shelf.SlIter.Nil
import Derived.Shelf.SortM.Plain
import Derived.Shelf.SortM.SortNone
set_option linter.unusedSimpArgs false
set_option linter.unusedVariables false
namespace Go.Proofs.Ytjebkpcekkkbkaa.FBase
open Go.RowKit Go.Proofs.YtjebkpcekkkbkaaW.PrintWords Go.Proofs.YtjebkpcekkkbkaaW.PrintLast Go.Proofs.YtjebkpcekkkbkaaW.PrintMore
attribute [local go_sem] max2_int min2_int max_two min_two max_three min_three max_four min_four   -- for this text's walks alone
def errW : Option Int → Value
  | none => .nilIface
  | some c => .iface 0 (.int .i64 c)
theorem errW_none : errW none = .nilIface := rfl
theorem errW_some (c : Int) : errW (some c) = .iface 0 (.int .i64 c) := rfl
theorem info5 : (Try.prog.info? 5).map (fun i => (i.zero, i.size, i.bytes)) = some (some (.int .u8 0), 1, 1) := by kernel_rfl
theorem info29 : (Try.prog.info? 29).map (fun i => (i.zero, i.size, i.bytes)) = some (some (.agg #[(.bool false), (.int .i64 0), (.int .i64 0), (.int .i64 0), (.int .i64 0), (.string ⟨#[]⟩)]), 6, 56) := by kernel_rfl
def rd_L3 (xs : List (List Int)) (i : Int) : (List Int) := xs.getD i.toNat ([] : List Int)
theorem at_L3 {w : World} {A : Option Addr} {n : Nat} {xs : List (List Int)} (h : Kd.C (Kd.slice 5 (Kd.int .u8)) w A n xs) (i : Int) (h0 : 0 ≤ i) (h1 : i < n) : ∃ ad A0 c0, A = some ad ∧ w.cell? (ad.add i.toNat) = some (.slice A0 (rd_L3 xs i).length c0) ∧ (rd_L3 xs i).length ≤ c0 ∧ (Kd.int .u8).C w A0 (rd_L3 xs i).length (rd_L3 xs i) := by
  obtain ⟨ad, c, e, _, hK, hc0⟩ := Kd.C_get h ([] : List Int) i h0 h1
  have hc : ∀ j u, c[j]? = some u → w.cell? (ad.add (i.toNat * 1 + j)) = some u := hc0
  obtain ⟨A0, c0, rfl, l0, g0⟩ := hK
  exact ⟨ad, A0, c0, e, by have hq := hc 0 _ rfl; rwa [Nat.mul_one, Nat.add_zero] at hq, l0, g0⟩
structure S25 where
  f0 : Int
  f1 : Int
def z25 : S25 := ⟨(0 : Int), (0 : Int)⟩
def k25 : Kd S25 := Kd.iso (Kd.pair (Kd.int .i64) (Kd.int .i64)) (fun x : S25 => (x.f0, x.f1))
theorem k25_open {w : World} {x : S25} {cs : List Value} (h : k25.K w x cs) : cs = [.int .i64 x.f0, .int .i64 x.f1] := by
  obtain ⟨_, _, rfl, rfl, rfl⟩ := h
  exact rfl
theorem k25_mk (w : World) (x : S25)  : k25.K w x [.int .i64 x.f0, .int .i64 x.f1] := ⟨[.int .i64 x.f0], [.int .i64 x.f1], rfl, rfl, rfl⟩
theorem k25_mkM (w : World) (base : Nat) (ok : Nat → Prop) (x : S25)  : k25.M w base ok x [.int .i64 x.f0, .int .i64 x.f1] := ⟨[.int .i64 x.f0], [.int .i64 x.f1], rfl, rfl, rfl⟩
structure S27 where
  f0 : S25
  f1 : S25
def z27 : S27 := ⟨z25, z25⟩
def k27 : Kd S27 := Kd.iso (Kd.pair k25 k25) (fun x : S27 => (x.f0, x.f1))
theorem k27_open {w : World} {x : S27} {cs : List Value} (h : k27.K w x cs) : cs = [.int .i64 x.f0.f0, .int .i64 x.f0.f1, .int .i64 x.f1.f0, .int .i64 x.f1.f1] := by
  obtain ⟨_, _, rfl, s0, s2⟩ := h
  obtain rfl := k25_open s0
  obtain rfl := k25_open s2
  exact rfl
theorem k27_mk (w : World) (x : S27)  : k27.K w x [.int .i64 x.f0.f0, .int .i64 x.f0.f1, .int .i64 x.f1.f0, .int .i64 x.f1.f1] := ⟨[.int .i64 x.f0.f0, .int .i64 x.f0.f1], [.int .i64 x.f1.f0, .int .i64 x.f1.f1], rfl, (k25_mk w x.f0 ), (k25_mk w x.f1 )⟩
theorem k27_mkM (w : World) (base : Nat) (ok : Nat → Prop) (x : S27)  : k27.M w base ok x [.int .i64 x.f0.f0, .int .i64 x.f0.f1, .int .i64 x.f1.f0, .int .i64 x.f1.f1] := ⟨[.int .i64 x.f0.f0, .int .i64 x.f0.f1], [.int .i64 x.f1.f0, .int .i64 x.f1.f1], rfl, (k25_mkM w base ok x.f0 ), (k25_mkM w base ok x.f1 )⟩
structure S29 where
  f0 : Bool
  f1 : S27
  f2 : ByteArray
def z29 : S29 := ⟨false, z27, (⟨#[]⟩ : ByteArray)⟩
def k29 : Kd S29 := Kd.iso (Kd.pair Kd.bool (Kd.pair k27 Kd.string)) (fun x : S29 => (x.f0, x.f1, x.f2))
theorem k29_open {w : World} {x : S29} {cs : List Value} (h : k29.K w x cs) : cs = [.bool x.f0, .int .i64 x.f1.f0.f0, .int .i64 x.f1.f0.f1, .int .i64 x.f1.f1.f0, .int .i64 x.f1.f1.f1, .string x.f2] := by
  obtain ⟨_, _, rfl, rfl, ⟨_, _, rfl, s1, rfl⟩⟩ := h
  obtain rfl := k27_open s1
  exact rfl
theorem k29_mk (w : World) (x : S29)  : k29.K w x [.bool x.f0, .int .i64 x.f1.f0.f0, .int .i64 x.f1.f0.f1, .int .i64 x.f1.f1.f0, .int .i64 x.f1.f1.f1, .string x.f2] := ⟨[.bool x.f0], [.int .i64 x.f1.f0.f0, .int .i64 x.f1.f0.f1, .int .i64 x.f1.f1.f0, .int .i64 x.f1.f1.f1, .string x.f2], rfl, rfl, ⟨[.int .i64 x.f1.f0.f0, .int .i64 x.f1.f0.f1, .int .i64 x.f1.f1.f0, .int .i64 x.f1.f1.f1], [.string x.f2], rfl, (k27_mk w x.f1 ), rfl⟩⟩
theorem k29_mkM (w : World) (base : Nat) (ok : Nat → Prop) (x : S29)  : k29.M w base ok x [.bool x.f0, .int .i64 x.f1.f0.f0, .int .i64 x.f1.f0.f1, .int .i64 x.f1.f1.f0, .int .i64 x.f1.f1.f1, .string x.f2] := ⟨[.bool x.f0], [.int .i64 x.f1.f0.f0, .int .i64 x.f1.f0.f1, .int .i64 x.f1.f1.f0, .int .i64 x.f1.f1.f1, .string x.f2], rfl, rfl, ⟨[.int .i64 x.f1.f0.f0, .int .i64 x.f1.f0.f1, .int .i64 x.f1.f1.f0, .int .i64 x.f1.f1.f1], [.string x.f2], rfl, (k27_mkM w base ok x.f1 ), rfl⟩⟩
def rd_T29 (xs : List S29) (i : Int) : S29 := xs.getD i.toNat z29
theorem at_T29 {w : World} {A : Option Addr} {n : Nat} {xs : List S29} (h : Kd.C k29 w A n xs) (i : Int) (h0 : 0 ≤ i) (h1 : i < n) : ∃ ad , A = some ad ∧ w.cell? (ad.add (i.toNat * 6)) = some (.bool (rd_T29 xs i).f0) ∧ w.cell? ⟨(ad.add (i.toNat * 6)).block, (ad.add (i.toNat * 6)).off + 1, none⟩ = some (.int .i64 (rd_T29 xs i).f1.f0.f0) ∧ w.cell? ⟨(ad.add (i.toNat * 6)).block, (ad.add (i.toNat * 6)).off + 2, none⟩ = some (.int .i64 (rd_T29 xs i).f1.f0.f1) ∧ w.cell? ⟨(ad.add (i.toNat * 6)).block, (ad.add (i.toNat * 6)).off + 3, none⟩ = some (.int .i64 (rd_T29 xs i).f1.f1.f0) ∧ w.cell? ⟨(ad.add (i.toNat * 6)).block, (ad.add (i.toNat * 6)).off + 4, none⟩ = some (.int .i64 (rd_T29 xs i).f1.f1.f1) ∧ w.cell? ⟨(ad.add (i.toNat * 6)).block, (ad.add (i.toNat * 6)).off + 5, none⟩ = some (.string (rd_T29 xs i).f2) := by
  obtain ⟨ad, c, e, _, hK, hc0⟩ := Kd.C_get h z29 i h0 h1
  have hc : ∀ j u, c[j]? = some u → w.cell? (ad.add (i.toNat * 6 + j)) = some u := hc0
  obtain rfl := k29_open hK
  exact ⟨ad, e, hc 0 _ rfl, by rw [← add_field _ _ 1 (by omega)]; exact hc 1 _ rfl, by rw [← add_field _ _ 2 (by omega)]; exact hc 2 _ rfl, by rw [← add_field _ _ 3 (by omega)]; exact hc 3 _ rfl, by rw [← add_field _ _ 4 (by omega)]; exact hc 4 _ rfl, by rw [← add_field _ _ 5 (by omega)]; exact hc 5 _ rfl⟩
end Go.Proofs.Ytjebkpcekkkbkaa.FBase
namespace Go.Proofs.Ytjebkpcekkkbkaa.FBase
open Go.RowKit Go.Proofs.YtjebkpcekkkbkaaW.PrintWords Go.Proofs.YtjebkpcekkkbkaaW.PrintLast Go.Proofs.YtjebkpcekkkbkaaW.PrintMore
attribute [local go_sem] max2_int min2_int max_two min_two max_three min_three max_four min_four   -- for this text's walks alone
def colophonref00_EqBytes.l0 : Nat → List Int → List Int → Int → Option (Bool)
  | 0, _, _, _ => none
  | k + 1, x0, x1, x5 => if x5 < (x0.length : Int) then (if 0 ≤ x5 then (if x5 < (x1.length : Int) then (if (rd x0 x5) = (rd x1 x5) then (colophonref00_EqBytes.l0 k x0 x1 (wrap64 (x5 + 1))) else (some false)) else (none)) else (none)) else (some true)
def colophonref00_EqBytes.f (k : Nat) (l0 : List Int) (l1 : List Int) : Option (Bool) := if (l0.length : Int) = (l1.length : Int) then (colophonref00_EqBytes.l0 k l0 l1 0) else (some false)
theorem colophonref00_EqBytes.mono_l : ∀ k, (∀ y0 y1 y2, LeO (colophonref00_EqBytes.l0 k y0 y1 y2) (colophonref00_EqBytes.l0 (k + 1) y0 y1 y2))
  | 0 => fun _ _ _ r h => by simp [colophonref00_EqBytes.l0] at h
  | k + 1 => by
    have ih0 := colophonref00_EqBytes.mono_l k
    · intro y0 y1 y2
      unfold colophonref00_EqBytes.l0
      repeat' first
      | (with_reducible exact ih0 _ _ _)
      | (with_reducible exact LeO.refl _)
      | (with_reducible exact LeO.none _)
      | (with_reducible refine LeO.ite ?_ ?_)
      | (with_reducible refine LeO.bind ?_ (fun _ => ?_))
      | exact ih0 _ _ _
      | exact LeO.none _
      | refine LeO.ite ?_ ?_
      | refine LeO.bind ?_ (fun _ => ?_)
theorem colophonref00_EqBytes.mono : ∀ a0 a1 k, LeO (colophonref00_EqBytes.f k a0 a1) (colophonref00_EqBytes.f (k + 1) a0 a1) := by
  intro a0 a1 k
  have ih0 := colophonref00_EqBytes.mono_l k
  unfold colophonref00_EqBytes.f
  repeat' first
      | (with_reducible exact ih0 _ _ _)
      | (with_reducible exact LeO.refl _)
      | (with_reducible exact LeO.none _)
      | (with_reducible refine LeO.ite ?_ ?_)
      | (with_reducible refine LeO.bind ?_ (fun _ => ?_))
      | exact ih0 _ _ _
      | exact LeO.none _
      | refine LeO.ite ?_ ?_
      | refine LeO.bind ?_ (fun _ => ?_)
set_option maxHeartbeats 8000000 in
set_option maxRecDepth 100000 in
theorem colophonref00_EqBytes.calls (k : Nat) (A0 : Option Addr) (c0 : Nat) (l0 : List Int) (A1 : Option Addr) (c1 : Nat) (l1 : List Int) (r : Bool) (w : World) (hr0 : Kd.C (Kd.int .u8) w A0 l0.length l0) (hc0 : l0.length ≤ c0) (hr1 : Kd.C (Kd.int .u8) w A1 l1.length l1) (hc1 : l1.length ≤ c1) (h : colophonref00_EqBytes.f k l0 l1 = some r) :
    Calls Try.prog 20 #[.slice A0 l0.length c0, .slice A1 l1.length c1] w fun e w' => e = .returned (.bool r) ∧ Drawn0 w w' := by
  have HR0 := Aside0.mk hr0
  have HC0 := Aside0.mk hc0
  clear hr0 hc0
  have HR1 := Aside0.mk hr1
  have HC1 := Aside0.mk hc1
  clear hr1 hc1
  have H : (if (l0.length : Int) = (l1.length : Int) then (colophonref00_EqBytes.l0 k l0 l1 0) else (some false)) = some r := h
  clear h
  by_cases c3 : (l0.length : Int) = (l1.length : Int)
  · rw [if_pos c3] at H
    have c3b0 : ((l0.length : Int) == (l1.length : Int)) = true := beq_iff_eq.mpr c3
    have c3b1 : ((l0.length : Int) != (l1.length : Int)) = false := bne_eq_false_iff_eq.mpr c3
    have c3b2 : (l0.length == l1.length) = true := by first | simpa using c3 | (simp at c3 ⊢; omega)
    clear c3
    have H' := Aside0.mk H
    clear H
    go_enter Try.func20, Try.ntmps20
    go_wp2
    repeat (go_quiet (fail); try go_wp2)
    go_loopg [5] k (fun kq v5 w' => ∃ (x5_1 : Int), v5 = .int .i64 x5_1 ∧ Aside0 (colophonref00_EqBytes.l0 kq l0 l1 x5_1 = some r) ∧ Aside0 (kq ≤ k) ∧ Drawn0 w w')
    case atStart => exact ⟨(0), (by first | rfl | (simp; done) | (simp [*]; done)), H', ⟨Nat.le_refl _⟩, by repeat (first | exact Drawn0.refl _ | apply Drawn0.step)⟩
    case round =>
      clear H'
      try clear c1
      try clear c2
      try clear p2
      try clear c3
      try clear c3b0
      try clear c3b1
      try clear c3b2
      obtain ⟨x5_1, rfl, HA, HK1, ⟨m1, rfl⟩⟩ := hrel
      cases gk with
      | zero => exact absurd HA.out (by simp [colophonref00_EqBytes.l0])
      | succ k1 =>
        have H := HA.out
        clear HA
        simp only [colophonref00_EqBytes.l0] at H
        by_cases c4 : x5_1 < (l0.length : Int)
        · rw [if_pos c4] at H
          have c4b0 : decide (x5_1 < (l0.length : Int)) = true := decide_eq_true c4
          clear c4
          by_cases c5 : 0 ≤ x5_1
          · rw [if_pos c5] at H
            have c5b0 : decide (0 ≤ x5_1) = true := decide_eq_true c5
            clear c5
            by_cases c6 : x5_1 < (l1.length : Int)
            · rw [if_pos c6] at H
              have c6b0 : decide (x5_1 < (l1.length : Int)) = true := decide_eq_true c6
              clear c6
              by_cases c7 : (rd l0 x5_1) = (rd l1 x5_1)
              · rw [if_pos c7] at H
                have c7b0 : ((rd l0 x5_1) == (rd l1 x5_1)) = true := beq_iff_eq.mpr c7
                have c7b1 : ((rd l0 x5_1) != (rd l1 x5_1)) = false := bne_eq_false_iff_eq.mpr c7
                clear c7
                have H' := Aside0.mk H
                clear H
                have p101 : 0 ≤ (x5_1 : Int) := of_decide_eq_true (by first | (with_reducible assumption) | assumption)
                have q101 : x5_1 < (l0.length : Int) := of_decide_eq_true (by first | (with_reducible assumption) | assumption)
                obtain ⟨ad101, e101, hx101_0⟩ := Kd.at_int HR0.out x5_1 p101 q101
                cases e101
                replace p101 := eq_true p101
                replace q101 := eq_true q101
                have p102 : 0 ≤ (x5_1 : Int) := of_decide_eq_true (by first | (with_reducible assumption) | assumption)
                have q102 : x5_1 < (l1.length : Int) := of_decide_eq_true (by first | (with_reducible assumption) | assumption)
                obtain ⟨ad102, e102, hx102_0⟩ := Kd.at_int HR1.out x5_1 p102 q102
                cases e102
                replace p102 := eq_true p102
                replace q102 := eq_true q102
                go_wp2
                repeat (go_quiet (fail); try go_wp2)
                go_roundg k1
                case measure => have := HK1.out; omega
                case rel => exact ⟨(wrap64 (x5_1 + 1)), (by first | rfl | (simp; done) | (simp [*]; done)), H', ⟨by have := HK1.out; omega⟩, by repeat (first | exact Drawn0.refl _ | apply Drawn0.step)⟩
              · rw [if_neg c7] at H
                have c7b0 : ((rd l0 x5_1) == (rd l1 x5_1)) = false := beq_eq_false_iff_ne.mpr c7
                have c7b1 : ((rd l0 x5_1) != (rd l1 x5_1)) = true := bne_iff_ne.mpr c7
                obtain rfl := Option.some.inj H
                have p101 : 0 ≤ (x5_1 : Int) := of_decide_eq_true (by first | (with_reducible assumption) | assumption)
                have q101 : x5_1 < (l0.length : Int) := of_decide_eq_true (by first | (with_reducible assumption) | assumption)
                obtain ⟨ad101, e101, hx101_0⟩ := Kd.at_int HR0.out x5_1 p101 q101
                cases e101
                replace p101 := eq_true p101
                replace q101 := eq_true q101
                have p102 : 0 ≤ (x5_1 : Int) := of_decide_eq_true (by first | (with_reducible assumption) | assumption)
                have q102 : x5_1 < (l1.length : Int) := of_decide_eq_true (by first | (with_reducible assumption) | assumption)
                obtain ⟨ad102, e102, hx102_0⟩ := Kd.at_int HR1.out x5_1 p102 q102
                cases e102
                replace p102 := eq_true p102
                replace q102 := eq_true q102
                go_wp2
                repeat (go_quiet (fail); try go_wp2)
                go_ret
                exact ⟨by first | rfl | (simp; done) | (simp [*]; done), by repeat (first | exact Drawn0.refl _ | apply Drawn0.step)⟩
            · rw [if_neg c6] at H
              exact absurd H (by simp)
          · rw [if_neg c5] at H
            exact absurd H (by simp)
        · rw [if_neg c4] at H
          have c4b0 : decide (x5_1 < (l0.length : Int)) = false := decide_eq_false c4
          clear c4
          obtain rfl := Option.some.inj H
          go_wp2
          repeat (go_quiet (fail); try go_wp2)
          go_ret
          exact ⟨by first | rfl | (simp; done) | (simp [*]; done), by repeat (first | exact Drawn0.refl _ | apply Drawn0.step)⟩
  · rw [if_neg c3] at H
    have c3b0 : ((l0.length : Int) == (l1.length : Int)) = false := beq_eq_false_iff_ne.mpr c3
    have c3b1 : ((l0.length : Int) != (l1.length : Int)) = true := bne_iff_ne.mpr c3
    have c3b2 : (l0.length == l1.length) = false := by first | simpa using c3 | (simp at c3 ⊢; omega)
    obtain rfl := Option.some.inj H
    go_enter Try.func20, Try.ntmps20
    go_wp2
    repeat (go_quiet (fail); try go_wp2)
    go_ret
    exact ⟨by first | rfl | (simp; done) | (simp [*]; done), by repeat (first | exact Drawn0.refl _ | apply Drawn0.step)⟩
def colophonref00_EqBytes.Pure : Prop := ∀ (l0 : List Int) (l1 : List Int), l0.length ≤ maxLen → l0.length * 1 ≤ 140737488351232 → (∀ x ∈ l0, (Lit.int .u8 x).wf = true) → l1.length ≤ maxLen → l1.length * 1 ≤ 140737488351232 → (∀ x ∈ l1, (Lit.int .u8 x).wf = true) → ∃ k, colophonref00_EqBytes.f k l0 l1 = some true
theorem colophonref00_EqBytes.walk (P : colophonref00_EqBytes.Pure) (a0 : Option Addr) (len0 cap0 : Nat) (z0 : List Int) (a1 : Option Addr) (len1 cap1 : Nat) (z1 : List Int) (w : World) (w0 : (a0 = none ∧ len0 = 0 ∧ cap0 = 0 ∧ z0 = []) ∨ ∃ x, a0 = some x ∧ len0 ≤ cap0 ∧ cap0 ≤ maxLen ∧ z0.length = cap0 ∧ (∀ i, i < z0.length → w.cell? (x.add i) = some (.int .u8 (z0.getD i 0))) ∧ ∀ n ∈ z0, (Lit.int .u8 n).wf = true) (y0 : len0 * 1 ≤ 140737488351232) (w1 : (a1 = none ∧ len1 = 0 ∧ cap1 = 0 ∧ z1 = []) ∨ ∃ x, a1 = some x ∧ len1 ≤ cap1 ∧ cap1 ≤ maxLen ∧ z1.length = cap1 ∧ (∀ i, i < z1.length → w.cell? (x.add i) = some (.int .u8 (z1.getD i 0))) ∧ ∀ n ∈ z1, (Lit.int .u8 n).wf = true) (y1 : len1 * 1 ≤ 140737488351232) :
    Calls Try.prog 20 #[.slice a0 len0 cap0, .slice a1 len1 cap1] w fun e w' => e = .returned (.bool true) ∧ Below w.heap.size w w' := by
  obtain ⟨l0, rfl, hr0, hm0, hw0, hc0⟩ := ReadsInt.ofRowC w0
  obtain ⟨l1, rfl, hr1, hm1, hw1, hc1⟩ := ReadsInt.ofRowC w1
  obtain ⟨k, h⟩ := P l0 l1 hm0 y0 hw0 hm1 y1 hw1
  refine (colophonref00_EqBytes.calls k _ _ l0 _ _ l1 true w (Kd.C_of_reads (d := (0 : Int)) (h1 := fun _ => rfl) hr0) hc0 (Kd.C_of_reads (d := (0 : Int)) (h1 := fun _ => rfl) hr1) hc1 h).mono ?_
  rintro e w' ⟨rfl, hd⟩
  exact ⟨rfl, hd.below⟩
end Go.Proofs.Ytjebkpcekkkbkaa.FBase
namespace Go.Proofs.Ytjebkpcekkkbkaa.FBase
open Go.RowKit Go.Proofs.YtjebkpcekkkbkaaW.PrintWords Go.Proofs.YtjebkpcekkkbkaaW.PrintLast Go.Proofs.YtjebkpcekkkbkaaW.PrintMore
attribute [local go_sem] max2_int min2_int max_two min_two max_three min_three max_four min_four   -- for this text's walks alone
def runes_form.j0 : Nat → Int → Int → Int → Bool → Option (Int × Int × Int × Int)
  | 0, _, _, _, _ => none
  | k + 1, x0, x4, x5, x11 => if x11 = true then (some (0, 0, 0, 0)) else (if x0 < 224 then (some (2, 31, x4, x5)) else (if x0 < 240 then (if x0 = 224 then (if x0 = 237 then (some (3, 15, 160, 159)) else (some (3, 15, 160, x5))) else (if x0 = 237 then (some (3, 15, x4, 159)) else (some (3, 15, x4, x5)))) else (if x0 = 240 then (if x0 = 244 then (some (4, 7, 144, 143)) else (some (4, 7, 144, x5))) else (if x0 = 244 then (some (4, 7, x4, 143)) else (some (4, 7, x4, x5))))))
def runes_form.f (k : Nat) (a0 : Int) : Option (Int × Int × Int × Int) := if a0 < 128 then (some (1, 127, 128, 191)) else (if a0 < 194 then (runes_form.j0 k a0 128 191 true) else (runes_form.j0 k a0 128 191 (decide (a0 > 244))))
theorem runes_form.mono_l : ∀ k, (∀ y0 y1 y2 y3, LeO (runes_form.j0 k y0 y1 y2 y3) (runes_form.j0 (k + 1) y0 y1 y2 y3))
  | 0 => fun _ _ _ _ r h => by simp [runes_form.j0] at h
  | k + 1 => by
    have ih0 := runes_form.mono_l k
    · intro y0 y1 y2 y3
      unfold runes_form.j0
      repeat' first
      | (with_reducible exact ih0 _ _ _ _)
      | (with_reducible exact LeO.refl _)
      | (with_reducible exact LeO.none _)
      | (with_reducible refine LeO.ite ?_ ?_)
      | (with_reducible refine LeO.bind ?_ (fun _ => ?_))
      | exact ih0 _ _ _ _
      | exact LeO.none _
      | refine LeO.ite ?_ ?_
      | refine LeO.bind ?_ (fun _ => ?_)
theorem runes_form.mono : ∀ a0 k, LeO (runes_form.f k a0) (runes_form.f (k + 1) a0) := by
  intro a0 k
  have ih0 := runes_form.mono_l k
  unfold runes_form.f
  repeat' first
      | (with_reducible exact ih0 _ _ _ _)
      | (with_reducible exact LeO.refl _)
      | (with_reducible exact LeO.none _)
      | (with_reducible refine LeO.ite ?_ ?_)
      | (with_reducible refine LeO.bind ?_ (fun _ => ?_))
      | exact ih0 _ _ _ _
      | exact LeO.none _
      | refine LeO.ite ?_ ?_
      | refine LeO.bind ?_ (fun _ => ?_)
set_option maxHeartbeats 8000000 in
set_option maxRecDepth 100000 in
theorem runes_form.calls (k : Nat) (a0 : Int) (r1 : Int) (r2 : Int) (r3 : Int) (r4 : Int) (w : World) (h : runes_form.f k a0 = some (r1, r2, r3, r4)) :
    Calls Try.prog 111 #[.int .u8 a0] w fun e w' => e = .returned (.tuple #[.int .i64 r1, .int .u8 r2, .int .u8 r3, .int .u8 r4]) ∧ Drawn0 w w' := by
  have H : (if a0 < 128 then (some (1, 127, 128, 191)) else (if a0 < 194 then (runes_form.j0 k a0 128 191 true) else (runes_form.j0 k a0 128 191 (decide (a0 > 244))))) = some (r1, r2, r3, r4) := h
  clear h
  by_cases c2 : a0 < 128
  · rw [if_pos c2] at H
    have c2b0 : decide (a0 < 128) = true := decide_eq_true c2
    clear c2
    simp only [Option.some.injEq, Prod.mk.injEq] at H
    obtain ⟨rfl, rfl, rfl, rfl⟩ := H
    go_enter Try.func111, Try.ntmps111
    go_wp2
    refine bodyPost_ret (results_list (rs := [.tmp 2, .tmp 3, .tmp 4, .tmp 5]) rfl (by simp) (.tmp (.tmp (.tmp (.tmp .nil))))) rfl ?_
    exact ⟨by first | rfl | (simp; done) | (simp [*]; done), by repeat (first | exact Drawn0.refl _ | apply Drawn0.step)⟩
  · rw [if_neg c2] at H
    have c2b0 : decide (a0 < 128) = false := decide_eq_false c2
    clear c2
    have HC3 := Aside0.mk H
    clear H
    go_enter Try.func111, Try.ntmps111
    go_upto_region 4 with (fail)
    go_cut [11] (fun v11 wc => ∃ (kq : Nat) (x11_2 : Bool), v11 = .bool x11_2 ∧ Aside0 (runes_form.j0 kq a0 128 191 x11_2 = some (r1, r2, r3, r4)) ∧ Aside0 (kq ≤ k) ∧ Drawn0 w wc)
    case first =>
      have H := HC3.out
      clear HC3
      by_cases c4 : a0 < 194
      · rw [if_pos c4] at H
        have c4b0 : decide (a0 < 194) = true := decide_eq_true c4
        clear c4
        (first | rw [c4b0] | (simp only [i64_w, i32_w]; rw [c4b0]) | skip)
        have H' := Aside0.mk H
        clear H
        go_wp2
        go_meet
        case rel => exact ⟨_, (true), (by first | rfl | (simp; done) | (simp [*]; done)), H', ⟨by first | omega | exact Nat.le_refl _⟩, by repeat (first | exact Drawn0.refl _ | apply Drawn0.step)⟩
      · rw [if_neg c4] at H
        have c4b0 : decide (a0 < 194) = false := decide_eq_false c4
        clear c4
        (first | rw [c4b0] | (simp only [i64_w, i32_w]; rw [c4b0]) | skip)
        have H' := Aside0.mk H
        clear H
        go_wp2
        go_meet
        case rel => exact ⟨_, (decide (a0 > 244)), (by first | rfl | (simp; done) | (simp [*]; done)), H', ⟨by first | omega | exact Nat.le_refl _⟩, by repeat (first | exact Drawn0.refl _ | apply Drawn0.step)⟩
    case rest =>
      clear HC3
      try clear c1
      try clear c2
      try clear c2b0
      try clear p2
      try clear c4
      try clear c4b0
      obtain ⟨kq, x11_2, rfl, HA, HJ2, ⟨mc2, rfl⟩⟩ := hcut
      cases kq with
      | zero => exact absurd HA.out (by simp [runes_form.j0])
      | succ kj2 =>
        have H := HA.out
        clear HA
        simp only [runes_form.j0] at H
        by_cases c5 : x11_2 = true
        · subst c5
          have H1 : (some (0, 0, 0, 0)) = some (r1, r2, r3, r4) := by rw [if_pos rfl] at H; exact H
          clear H
          have H := H1
          clear H1
          simp only [Option.some.injEq, Prod.mk.injEq] at H
          obtain ⟨rfl, rfl, rfl, rfl⟩ := H
          go_wp2
          refine bodyPost_ret (results_list (rs := [.tmp 2, .tmp 3, .tmp 4, .tmp 5]) rfl (by simp) (.tmp (.tmp (.tmp (.tmp .nil))))) rfl ?_
          exact ⟨by first | rfl | (simp; done) | (simp [*]; done), by repeat (first | exact Drawn0.refl _ | apply Drawn0.step)⟩
        · replace c5 := Bool.eq_false_iff.mpr c5
          subst c5
          have H1 : (if a0 < 224 then (some (2, 31, 128, 191)) else (if a0 < 240 then (if a0 = 224 then (if a0 = 237 then (some (3, 15, 160, 159)) else (some (3, 15, 160, 191))) else (if a0 = 237 then (some (3, 15, 128, 159)) else (some (3, 15, 128, 191)))) else (if a0 = 240 then (if a0 = 244 then (some (4, 7, 144, 143)) else (some (4, 7, 144, 191))) else (if a0 = 244 then (some (4, 7, 128, 143)) else (some (4, 7, 128, 191)))))) = some (r1, r2, r3, r4) := by rw [if_neg (show ¬ (false = true) by decide)] at H; exact H
          clear H
          have H := H1
          clear H1
          by_cases c6 : a0 < 224
          · rw [if_pos c6] at H
            have c6b0 : decide (a0 < 224) = true := decide_eq_true c6
            clear c6
            simp only [Option.some.injEq, Prod.mk.injEq] at H
            obtain ⟨rfl, rfl, rfl, rfl⟩ := H
            go_wp2
            refine bodyPost_ret (results_list (rs := [.tmp 2, .tmp 3, .tmp 4, .tmp 5]) rfl (by simp) (.tmp (.tmp (.tmp (.tmp .nil))))) rfl ?_
            exact ⟨by first | rfl | (simp; done) | (simp [*]; done), by repeat (first | exact Drawn0.refl _ | apply Drawn0.step)⟩
          · rw [if_neg c6] at H
            have c6b0 : decide (a0 < 224) = false := decide_eq_false c6
            clear c6
            by_cases c7 : a0 < 240
            · rw [if_pos c7] at H
              have c7b0 : decide (a0 < 240) = true := decide_eq_true c7
              clear c7
              by_cases c8 : a0 = 224
              · rw [if_pos c8] at H
                have c8b0 : (a0 == 224) = true := beq_iff_eq.mpr c8
                have c8b1 : (a0 != 224) = false := bne_eq_false_iff_eq.mpr c8
                clear c8
                by_cases c9 : a0 = 237
                · rw [if_pos c9] at H
                  have c9b0 : (a0 == 237) = true := beq_iff_eq.mpr c9
                  have c9b1 : (a0 != 237) = false := bne_eq_false_iff_eq.mpr c9
                  clear c9
                  simp only [Option.some.injEq, Prod.mk.injEq] at H
                  obtain ⟨rfl, rfl, rfl, rfl⟩ := H
                  go_wp2
                  refine bodyPost_ret (results_list (rs := [.tmp 2, .tmp 3, .tmp 4, .tmp 5]) rfl (by simp) (.tmp (.tmp (.tmp (.tmp .nil))))) rfl ?_
                  exact ⟨by first | rfl | (simp; done) | (simp [*]; done), by repeat (first | exact Drawn0.refl _ | apply Drawn0.step)⟩
                · rw [if_neg c9] at H
                  have c9b0 : (a0 == 237) = false := beq_eq_false_iff_ne.mpr c9
                  have c9b1 : (a0 != 237) = true := bne_iff_ne.mpr c9
                  simp only [Option.some.injEq, Prod.mk.injEq] at H
                  obtain ⟨rfl, rfl, rfl, rfl⟩ := H
                  go_wp2
                  refine bodyPost_ret (results_list (rs := [.tmp 2, .tmp 3, .tmp 4, .tmp 5]) rfl (by simp) (.tmp (.tmp (.tmp (.tmp .nil))))) rfl ?_
                  exact ⟨by first | rfl | (simp; done) | (simp [*]; done), by repeat (first | exact Drawn0.refl _ | apply Drawn0.step)⟩
              · rw [if_neg c8] at H
                have c8b0 : (a0 == 224) = false := beq_eq_false_iff_ne.mpr c8
                have c8b1 : (a0 != 224) = true := bne_iff_ne.mpr c8
                by_cases c10 : a0 = 237
                · rw [if_pos c10] at H
                  have c10b0 : (a0 == 237) = true := beq_iff_eq.mpr c10
                  have c10b1 : (a0 != 237) = false := bne_eq_false_iff_eq.mpr c10
                  clear c10
                  simp only [Option.some.injEq, Prod.mk.injEq] at H
                  obtain ⟨rfl, rfl, rfl, rfl⟩ := H
                  go_wp2
                  refine bodyPost_ret (results_list (rs := [.tmp 2, .tmp 3, .tmp 4, .tmp 5]) rfl (by simp) (.tmp (.tmp (.tmp (.tmp .nil))))) rfl ?_
                  exact ⟨by first | rfl | (simp; done) | (simp [*]; done), by repeat (first | exact Drawn0.refl _ | apply Drawn0.step)⟩
                · rw [if_neg c10] at H
                  have c10b0 : (a0 == 237) = false := beq_eq_false_iff_ne.mpr c10
                  have c10b1 : (a0 != 237) = true := bne_iff_ne.mpr c10
                  simp only [Option.some.injEq, Prod.mk.injEq] at H
                  obtain ⟨rfl, rfl, rfl, rfl⟩ := H
                  go_wp2
                  refine bodyPost_ret (results_list (rs := [.tmp 2, .tmp 3, .tmp 4, .tmp 5]) rfl (by simp) (.tmp (.tmp (.tmp (.tmp .nil))))) rfl ?_
                  exact ⟨by first | rfl | (simp; done) | (simp [*]; done), by repeat (first | exact Drawn0.refl _ | apply Drawn0.step)⟩
            · rw [if_neg c7] at H
              have c7b0 : decide (a0 < 240) = false := decide_eq_false c7
              clear c7
              by_cases c11 : a0 = 240
              · rw [if_pos c11] at H
                have c11b0 : (a0 == 240) = true := beq_iff_eq.mpr c11
                have c11b1 : (a0 != 240) = false := bne_eq_false_iff_eq.mpr c11
                clear c11
                by_cases c12 : a0 = 244
                · rw [if_pos c12] at H
                  have c12b0 : (a0 == 244) = true := beq_iff_eq.mpr c12
                  have c12b1 : (a0 != 244) = false := bne_eq_false_iff_eq.mpr c12
                  clear c12
                  simp only [Option.some.injEq, Prod.mk.injEq] at H
                  obtain ⟨rfl, rfl, rfl, rfl⟩ := H
                  go_wp2
                  refine bodyPost_ret (results_list (rs := [.tmp 2, .tmp 3, .tmp 4, .tmp 5]) rfl (by simp) (.tmp (.tmp (.tmp (.tmp .nil))))) rfl ?_
                  exact ⟨by first | rfl | (simp; done) | (simp [*]; done), by repeat (first | exact Drawn0.refl _ | apply Drawn0.step)⟩
                · rw [if_neg c12] at H
                  have c12b0 : (a0 == 244) = false := beq_eq_false_iff_ne.mpr c12
                  have c12b1 : (a0 != 244) = true := bne_iff_ne.mpr c12
                  simp only [Option.some.injEq, Prod.mk.injEq] at H
                  obtain ⟨rfl, rfl, rfl, rfl⟩ := H
                  go_wp2
                  refine bodyPost_ret (results_list (rs := [.tmp 2, .tmp 3, .tmp 4, .tmp 5]) rfl (by simp) (.tmp (.tmp (.tmp (.tmp .nil))))) rfl ?_
                  exact ⟨by first | rfl | (simp; done) | (simp [*]; done), by repeat (first | exact Drawn0.refl _ | apply Drawn0.step)⟩
              · rw [if_neg c11] at H
                have c11b0 : (a0 == 240) = false := beq_eq_false_iff_ne.mpr c11
                have c11b1 : (a0 != 240) = true := bne_iff_ne.mpr c11
                by_cases c13 : a0 = 244
                · rw [if_pos c13] at H
                  have c13b0 : (a0 == 244) = true := beq_iff_eq.mpr c13
                  have c13b1 : (a0 != 244) = false := bne_eq_false_iff_eq.mpr c13
                  clear c13
                  simp only [Option.some.injEq, Prod.mk.injEq] at H
                  obtain ⟨rfl, rfl, rfl, rfl⟩ := H
                  go_wp2
                  refine bodyPost_ret (results_list (rs := [.tmp 2, .tmp 3, .tmp 4, .tmp 5]) rfl (by simp) (.tmp (.tmp (.tmp (.tmp .nil))))) rfl ?_
                  exact ⟨by first | rfl | (simp; done) | (simp [*]; done), by repeat (first | exact Drawn0.refl _ | apply Drawn0.step)⟩
                · rw [if_neg c13] at H
                  have c13b0 : (a0 == 244) = false := beq_eq_false_iff_ne.mpr c13
                  have c13b1 : (a0 != 244) = true := bne_iff_ne.mpr c13
                  simp only [Option.some.injEq, Prod.mk.injEq] at H
                  obtain ⟨rfl, rfl, rfl, rfl⟩ := H
                  go_wp2
                  refine bodyPost_ret (results_list (rs := [.tmp 2, .tmp 3, .tmp 4, .tmp 5]) rfl (by simp) (.tmp (.tmp (.tmp (.tmp .nil))))) rfl ?_
                  exact ⟨by first | rfl | (simp; done) | (simp [*]; done), by repeat (first | exact Drawn0.refl _ | apply Drawn0.step)⟩
end Go.Proofs.Ytjebkpcekkkbkaa.FBase
namespace Go.Proofs.Ytjebkpcekkkbkaa.FBase
open Go.RowKit Go.Proofs.YtjebkpcekkkbkaaW.PrintWords Go.Proofs.YtjebkpcekkkbkaaW.PrintLast Go.Proofs.YtjebkpcekkkbkaaW.PrintMore
attribute [local go_sem] max2_int min2_int max_two min_two max_three min_three max_four min_four   -- for this text's walks alone
mutual
def runes_Decode.j0 : Nat → List Int → Int → Bool → Option (Int × Int × Int)
  | 0, _, _, _ => none
  | k + 1, x0, x1, x19 => if x19 = true then (some (0, 0, 9)) else (if 0 ≤ x1 then (if x1 ≤ (x0.length : Int) then ((some (x0.drop (x1 : Int).toNat : List Int)).bind fun y200 => (if 0 < (y200.length : Int) then ((runes_form.f k (rd y200 0)).bind fun bt205 => (if bt205.1 = 0 then (some (0, 0, 10)) else (runes_Decode.l0 k (wrap64 (Go.bits .and .u8 (rd y200 0) bt205.2.1)) bt205.1 y200 bt205.2.2.1 bt205.2.2.2 1))) else (none))) else (none)) else (none))
def runes_Decode.l0 : Nat → Int → Int → List Int → Int → Int → Int → Option (Int × Int × Int)
  | 0, _, _, _, _, _, _ => none
  | k + 1, x4, x5, x7, x9, x10, x11 => if x11 < x5 then (if x11 = (x7.length : Int) then (some (0, 0, 3)) else (if 0 ≤ x11 then (if x11 < (x7.length : Int) then (if (rd x7 x11) < x9 then (some (0, 0, 10)) else (if (rd x7 x11) > x10 then (some (0, 0, 10)) else (runes_Decode.l0 k (Go.bits .or .i64 (wrap64 (x4 * 64)) (wrap64 (Go.bits .and .u8 (rd x7 x11) 63))) x5 x7 128 191 (wrap64 (x11 + 1))))) else (none)) else (none))) else (some (x4, x5, 0))
end
def runes_Decode.f (k : Nat) (l0 : List Int) (a1 : Int) : Option (Int × Int × Int) := if a1 < 0 then (runes_Decode.j0 k l0 a1 true) else (runes_Decode.j0 k l0 a1 (decide (a1 ≥ (l0.length : Int))))
theorem runes_Decode.mono_l : ∀ k, (∀ y0 y1 y2, LeO (runes_Decode.j0 k y0 y1 y2) (runes_Decode.j0 (k + 1) y0 y1 y2)) ∧ (∀ y0 y1 y2 y3 y4 y5, LeO (runes_Decode.l0 k y0 y1 y2 y3 y4 y5) (runes_Decode.l0 (k + 1) y0 y1 y2 y3 y4 y5))
  | 0 => ⟨fun _ _ _ r h => by simp [runes_Decode.j0] at h, fun _ _ _ _ _ _ r h => by simp [runes_Decode.l0] at h⟩
  | k + 1 => by
    obtain ⟨ih0, ih1⟩ := runes_Decode.mono_l k
    refine ⟨?_, ?_⟩
    · intro y0 y1 y2
      unfold runes_Decode.j0
      repeat' first
      | (with_reducible exact ih0 _ _ _)
      | (with_reducible exact ih1 _ _ _ _ _ _)
      | (with_reducible exact runes_form.mono _ _)
      | (with_reducible exact LeO.refl _)
      | (with_reducible exact LeO.none _)
      | (with_reducible refine LeO.ite ?_ ?_)
      | (with_reducible refine LeO.bind ?_ (fun _ => ?_))
      | exact ih0 _ _ _
      | exact ih1 _ _ _ _ _ _
      | exact runes_form.mono _ _
      | exact LeO.none _
      | refine LeO.ite ?_ ?_
      | refine LeO.bind ?_ (fun _ => ?_)
    · intro y0 y1 y2 y3 y4 y5
      unfold runes_Decode.l0
      repeat' first
      | (with_reducible exact ih0 _ _ _)
      | (with_reducible exact ih1 _ _ _ _ _ _)
      | (with_reducible exact runes_form.mono _ _)
      | (with_reducible exact LeO.refl _)
      | (with_reducible exact LeO.none _)
      | (with_reducible refine LeO.ite ?_ ?_)
      | (with_reducible refine LeO.bind ?_ (fun _ => ?_))
      | exact ih0 _ _ _
      | exact ih1 _ _ _ _ _ _
      | exact runes_form.mono _ _
      | exact LeO.none _
      | refine LeO.ite ?_ ?_
      | refine LeO.bind ?_ (fun _ => ?_)
theorem runes_Decode.mono : ∀ a0 a1 k, LeO (runes_Decode.f k a0 a1) (runes_Decode.f (k + 1) a0 a1) := by
  intro a0 a1 k
  obtain ⟨ih0, ih1⟩ := runes_Decode.mono_l k
  unfold runes_Decode.f
  repeat' first
      | (with_reducible exact ih0 _ _ _)
      | (with_reducible exact ih1 _ _ _ _ _ _)
      | (with_reducible exact runes_form.mono _ _)
      | (with_reducible exact LeO.refl _)
      | (with_reducible exact LeO.none _)
      | (with_reducible refine LeO.ite ?_ ?_)
      | (with_reducible refine LeO.bind ?_ (fun _ => ?_))
      | exact ih0 _ _ _
      | exact ih1 _ _ _ _ _ _
      | exact runes_form.mono _ _
      | exact LeO.none _
      | refine LeO.ite ?_ ?_
      | refine LeO.bind ?_ (fun _ => ?_)
set_option maxHeartbeats 8000000 in
set_option maxRecDepth 100000 in
theorem runes_Decode.calls (k : Nat) (A0 : Option Addr) (c0 : Nat) (l0 : List Int) (a1 : Int) (r1 : Int) (r2 : Int) (r3 : Int) (w : World) (hr0 : Kd.C (Kd.int .u8) w A0 l0.length l0) (hc0 : l0.length ≤ c0) (h : runes_Decode.f k l0 a1 = some (r1, r2, r3)) :
    Calls Try.prog 85 #[.slice A0 l0.length c0, .int .i64 a1] w fun e w' => e = .returned (.tuple #[.int .i64 r1, .int .i64 r2, .int .i64 r3]) ∧ Drawn0 w w' := by
  have HR0 := Aside0.mk hr0
  have HC0 := Aside0.mk hc0
  clear hr0 hc0
  have H : (if a1 < 0 then (runes_Decode.j0 k l0 a1 true) else (runes_Decode.j0 k l0 a1 (decide (a1 ≥ (l0.length : Int))))) = some (r1, r2, r3) := h
  clear h
  have HC3 := Aside0.mk H
  clear H
  go_enter Try.func85, Try.ntmps85
  go_upto_region 1 with (fail)
  go_cut [19] (fun v19 wc => ∃ (kq : Nat) (x19_2 : Bool), v19 = .bool x19_2 ∧ Aside0 (runes_Decode.j0 kq l0 a1 x19_2 = some (r1, r2, r3)) ∧ Aside0 (kq ≤ k) ∧ Drawn0 w wc)
  case first =>
    have H := HC3.out
    clear HC3
    by_cases c4 : a1 < 0
    · rw [if_pos c4] at H
      have c4b0 : decide (a1 < 0) = true := decide_eq_true c4
      clear c4
      (first | rw [c4b0] | (simp only [i64_w, i32_w]; rw [c4b0]) | skip)
      have H' := Aside0.mk H
      clear H
      go_wp2
      go_meet
      case rel => exact ⟨_, (true), (by first | rfl | (simp; done) | (simp [*]; done)), H', ⟨by first | omega | exact Nat.le_refl _⟩, by repeat (first | exact Drawn0.refl _ | apply Drawn0.step)⟩
    · rw [if_neg c4] at H
      have c4b0 : decide (a1 < 0) = false := decide_eq_false c4
      clear c4
      (first | rw [c4b0] | (simp only [i64_w, i32_w]; rw [c4b0]) | skip)
      have H' := Aside0.mk H
      clear H
      go_wp2
      go_meet
      case rel => exact ⟨_, (decide (a1 ≥ (l0.length : Int))), (by first | rfl | (simp; done) | (simp [*]; done)), H', ⟨by first | omega | exact Nat.le_refl _⟩, by repeat (first | exact Drawn0.refl _ | apply Drawn0.step)⟩
  case rest =>
    clear HC3
    try clear p2
    try clear c4
    try clear c4b0
    obtain ⟨kq, x19_2, rfl, HA, HJ2, ⟨mc2, rfl⟩⟩ := hcut
    cases kq with
    | zero => exact absurd HA.out (by simp [runes_Decode.j0])
    | succ kj2 =>
      have H := HA.out
      clear HA
      simp only [runes_Decode.j0] at H
      by_cases c5 : x19_2 = true
      · subst c5
        have H1 : (some (0, 0, 9)) = some (r1, r2, r3) := by rw [if_pos rfl] at H; exact H
        clear H
        have H := H1
        clear H1
        simp only [Option.some.injEq, Prod.mk.injEq] at H
        obtain ⟨rfl, rfl, rfl⟩ := H
        go_wp2
        go_ret3
        exact ⟨by first | rfl | (simp; done) | (simp [*]; done), by repeat (first | exact Drawn0.refl _ | apply Drawn0.step)⟩
      · replace c5 := Bool.eq_false_iff.mpr c5
        subst c5
        have H1 : (if 0 ≤ a1 then (if a1 ≤ (l0.length : Int) then ((some (l0.drop (a1 : Int).toNat : List Int)).bind fun y200 => (if 0 < (y200.length : Int) then ((runes_form.f kj2 (rd y200 0)).bind fun bt205 => (if bt205.1 = 0 then (some (0, 0, 10)) else (runes_Decode.l0 kj2 (wrap64 (Go.bits .and .u8 (rd y200 0) bt205.2.1)) bt205.1 y200 bt205.2.2.1 bt205.2.2.2 1))) else (none))) else (none)) else (none)) = some (r1, r2, r3) := by rw [if_neg (show ¬ (false = true) by decide)] at H; exact H
        clear H
        have H := H1
        clear H1
        by_cases c6 : 0 ≤ a1
        · rw [if_pos c6] at H
          have c6b0 := eq_true c6
          have c6b1 : decide (0 ≤ a1) = true := decide_eq_true c6
          clear c6
          by_cases c7 : a1 ≤ (l0.length : Int)
          · rw [if_pos c7] at H
            have c7b0 := eq_true c7
            have c7b1 : decide (a1 ≤ (l0.length : Int)) = true := decide_eq_true c7
            clear c7
            obtain ⟨y200, hy200⟩ : ∃ y_ : List Int, y_ = (l0.drop (a1 : Int).toNat) := ⟨_, rfl⟩
            replace H : (if 0 < (y200.length : Int) then ((runes_form.f kj2 (rd y200 0)).bind fun bt205 => (if bt205.1 = 0 then (some (0, 0, 10)) else (runes_Decode.l0 kj2 (wrap64 (Go.bits .and .u8 (rd y200 0) bt205.2.1)) bt205.1 y200 bt205.2.2.1 bt205.2.2.2 1))) else (none)) = some (r1, r2, r3) := by first | (rw [hy200]; with_reducible exact H) | (have H2_ := (Option.bind_some _ _).symm.trans H; rw [hy200]; with_reducible exact H2_) | (have H2_ := (Option.bind_some _ _).symm.trans H; with_reducible exact H2_) | with_reducible exact H | (rw [hy200]; exact H) | exact H
            have Ny200 := Aside0.mk hy200
            clear hy200
            by_cases c8 : 0 < (y200.length : Int)
            · rw [if_pos c8] at H
              have c8b0 : decide (0 < (y200.length : Int)) = true := decide_eq_true c8
              have c8b1 : decide (0 < y200.length) = true := decide_eq_true (by omega)
              clear c8
              replace H := Option.bind_eq_some_iff.mp H
              obtain ⟨⟨t205, t206, t207, t208⟩, A90, H⟩ := H
              replace H : (if t205 = 0 then (some (0, 0, 10)) else (runes_Decode.l0 kj2 (wrap64 (Go.bits .and .u8 (rd y200 0) t206)) t205 y200 t207 t208 1)) = some (r1, r2, r3) := H
              have A9 := Aside0.mk A90
              clear A90
              by_cases c10 : t205 = 0
              · rw [if_pos c10] at H
                have c10b0 : (t205 == 0) = true := beq_iff_eq.mpr c10
                have c10b1 : (t205 != 0) = false := bne_eq_false_iff_eq.mpr c10
                clear c10
                simp only [Option.some.injEq, Prod.mk.injEq] at H
                obtain ⟨rfl, rfl, rfl⟩ := H
                have q11 : (a1 : Int) ≤ ((l0.length : Int) : Int) := of_decide_eq_true (by first | (with_reducible assumption) | assumption)
                obtain ⟨i011, hi011, _, hsz11, _⟩ := info_parts info5
                have hroom11 : l0.length ≤ c0 := HC0.out
                have hC11 : Kd.C (Kd.int .u8) _ A0 l0.length l0 := HR0.out
                have q011 : (0 : Int) ≤ (a1 : Int) := of_decide_eq_true (by first | (with_reducible assumption) | assumption)
                have hcut11 := cut_from (P := Try.prog) 22 5 .i64 Try.underlying22 hi011 1 hsz11 A0 l0.length c0 a1 q011 q11
                have hr11 := Kd.C_drop (m := (a1 : Int).toNat) (c := c0) hC11 (by omega) hroom11
                obtain ⟨A11, hA11⟩ : ∃ A1, A1 = (if c0 = (a1 : Int).toNat then A0 else (A0 : Option Addr).map (·.add ((a1 : Int).toNat * 1))) := ⟨_, rfl⟩
                obtain ⟨c11, hc11⟩ : ∃ c1, c1 = c0 - (a1 : Int).toNat := ⟨_, rfl⟩
                have hy11 : y200.length = l0.length - (a1 : Int).toNat := (by rw [Ny200.out, List.length_drop] <;> omega)
                rw [show (l0).drop (a1 : Int).toNat = y200 from Ny200.out.symm] at hr11
                replace hr11 : Kd.C (Kd.int .u8) _ A11 y200.length y200 := (by rw [hA11]; exact hr11)
                rw [← hy11, ← hA11, ← hc11] at hcut11
                have HR203 := Aside0.mk hr11
                have HC203 := Aside0.mk (show y200.length ≤ c11 from by rw [hy11, hc11]; exact Nat.sub_le_sub_right hroom11 _)
                clear hr11 hC11 hroom11 hi011 hsz11 hc11
                have KY11 := Aside0.mk hy11
                have KA11 := Aside0.mk hA11
                clear hy11 hA11
                replace q11 := eq_true q11
                have p204 : 0 ≤ (0 : Int) := (by omega)
                have q204 : 0 < (y200.length : Int) := of_decide_eq_true (by first | (with_reducible assumption) | assumption)
                obtain ⟨ad204, e204, hx204_0⟩ := Kd.at_int HR203.out 0 p204 q204
                cases e204
                have qi204 : (0 < y200.length) = True := eq_true (by omega)
                (try rw [show ((0 : Int)).toNat = 0 from rfl] at hx204_0)
                (try rw [Addr.add_zero'] at hx204_0)
                replace p204 := eq_true p204
                replace q204 := eq_true q204
                go_wp2_with (first | ((with_reducible refine gate_callee (f := 111) rfl ?_); refine goesL_ (some 27) rfl rfl Try.func111 (by kernel_rfl) rfl #[.int .u8 (rd y200 0)] rfl (by (try simp only [List.map_toArray, List.map_cons, List.map_nil]); first | done | rfl | (simp only [List.length_drop, List.length_take]; rfl)) ?_; (with_reducible refine (runes_form.calls kj2 (rd y200 0) t205 t206 t207 t208 _ A9.out).mono ?_); rintro e w' ⟨rfl, ⟨nd, rfl⟩⟩; refine ⟨_, rfl, ?_⟩))
                go_ret3
                exact ⟨by first | rfl | (simp; done) | (simp [*]; done), by repeat (first | exact Drawn0.refl _ | apply Drawn0.step)⟩
              · rw [if_neg c10] at H
                have c10b0 : (t205 == 0) = false := beq_eq_false_iff_ne.mpr c10
                have c10b1 : (t205 != 0) = true := bne_iff_ne.mpr c10
                have H' := Aside0.mk H
                clear H
                have q12 : (a1 : Int) ≤ ((l0.length : Int) : Int) := of_decide_eq_true (by first | (with_reducible assumption) | assumption)
                obtain ⟨i012, hi012, _, hsz12, _⟩ := info_parts info5
                have hroom12 : l0.length ≤ c0 := HC0.out
                have hC12 : Kd.C (Kd.int .u8) _ A0 l0.length l0 := HR0.out
                have q012 : (0 : Int) ≤ (a1 : Int) := of_decide_eq_true (by first | (with_reducible assumption) | assumption)
                have hcut12 := cut_from (P := Try.prog) 22 5 .i64 Try.underlying22 hi012 1 hsz12 A0 l0.length c0 a1 q012 q12
                have hr12 := Kd.C_drop (m := (a1 : Int).toNat) (c := c0) hC12 (by omega) hroom12
                obtain ⟨A12, hA12⟩ : ∃ A1, A1 = (if c0 = (a1 : Int).toNat then A0 else (A0 : Option Addr).map (·.add ((a1 : Int).toNat * 1))) := ⟨_, rfl⟩
                obtain ⟨c12, hc12⟩ : ∃ c1, c1 = c0 - (a1 : Int).toNat := ⟨_, rfl⟩
                have hy12 : y200.length = l0.length - (a1 : Int).toNat := (by rw [Ny200.out, List.length_drop] <;> omega)
                rw [show (l0).drop (a1 : Int).toNat = y200 from Ny200.out.symm] at hr12
                replace hr12 : Kd.C (Kd.int .u8) _ A12 y200.length y200 := (by rw [hA12]; exact hr12)
                rw [← hy12, ← hA12, ← hc12] at hcut12
                have HR203 := Aside0.mk hr12
                have HC203 := Aside0.mk (show y200.length ≤ c12 from by rw [hy12, hc12]; exact Nat.sub_le_sub_right hroom12 _)
                clear hr12 hC12 hroom12 hi012 hsz12 hc12
                have KY12 := Aside0.mk hy12
                have KA12 := Aside0.mk hA12
                clear hy12 hA12
                replace q12 := eq_true q12
                have p204 : 0 ≤ (0 : Int) := (by omega)
                have q204 : 0 < (y200.length : Int) := of_decide_eq_true (by first | (with_reducible assumption) | assumption)
                obtain ⟨ad204, e204, hx204_0⟩ := Kd.at_int HR203.out 0 p204 q204
                cases e204
                have qi204 : (0 < y200.length) = True := eq_true (by omega)
                (try rw [show ((0 : Int)).toNat = 0 from rfl] at hx204_0)
                (try rw [Addr.add_zero'] at hx204_0)
                replace p204 := eq_true p204
                replace q204 := eq_true q204
                go_wp2_with (first | ((with_reducible refine gate_callee (f := 111) rfl ?_); refine goesL_ (some 27) rfl rfl Try.func111 (by kernel_rfl) rfl #[.int .u8 (rd y200 0)] rfl (by (try simp only [List.map_toArray, List.map_cons, List.map_nil]); first | done | rfl | (simp only [List.length_drop, List.length_take]; rfl)) ?_; (with_reducible refine (runes_form.calls kj2 (rd y200 0) t205 t206 t207 t208 _ A9.out).mono ?_); rintro e w' ⟨rfl, ⟨nd, rfl⟩⟩; refine ⟨_, rfl, ?_⟩; have p209 : 0 ≤ (0 : Int) := (by omega); have q209 : 0 < (y200.length : Int) := of_decide_eq_true (by first | (with_reducible assumption) | assumption); obtain ⟨ad209, e209, hx209_0⟩ := Kd.at_int HR203.out 0 p209 q209; obtain rfl : ad204 = ad209 := (by injection e209); have qi209 : (0 < y200.length) = True := eq_true (by omega); (try rw [show ((0 : Int)).toNat = 0 from rfl] at hx209_0); (try rw [Addr.add_zero'] at hx209_0); replace p209 := eq_true p209; replace q209 := eq_true q209))
                go_loopg [4, 5, 9, 10, 11] kj2 (fun kq v4 v5 v9 v10 v11 w' => ∃ (x4_2 : Int) (x5_2 : Int) (x9_2 : Int) (x10_2 : Int) (x11_2 : Int), v4 = .int .i64 x4_2 ∧ v5 = .int .i64 x5_2 ∧ v9 = .int .u8 x9_2 ∧ v10 = .int .u8 x10_2 ∧ v11 = .int .i64 x11_2 ∧ Aside0 (runes_Decode.l0 kq x4_2 x5_2 y200 x9_2 x10_2 x11_2 = some (r1, r2, r3)) ∧ Aside0 (kq ≤ kj2) ∧ Drawn0 w w')
                case atStart => exact ⟨(wrap64 (Go.bits .and .u8 (rd y200 0) t206)), (t205), (t207), (t208), (1), (by first | rfl | (simp; done) | (simp [*]; done)), (by first | rfl | (simp; done) | (simp [*]; done)), (by first | rfl | (simp; done) | (simp [*]; done)), (by first | rfl | (simp; done) | (simp [*]; done)), (by first | rfl | (simp; done) | (simp [*]; done)), H', ⟨Nat.le_refl _⟩, by repeat (first | exact Drawn0.refl _ | apply Drawn0.step)⟩
                case round =>
                  clear H'
                  try clear c1
                  try clear q1
                  try clear c2
                  try clear p2
                  try clear q2
                  try clear hx2
                  try clear qi2
                  try clear c4
                  try clear c4b0
                  try clear c5
                  try clear c6
                  try clear c6b0
                  try clear c6b1
                  try clear p6
                  try clear c7
                  try clear c7b0
                  try clear c7b1
                  try clear c8
                  try clear c8b0
                  try clear c8b1
                  try clear c10
                  try clear c10b0
                  try clear c10b1
                  try clear c11
                  try clear q11
                  try clear c12
                  try clear q12
                  try clear hx204_0
                  try clear hx209_0
                  try clear p2
                  try clear p204
                  try clear p209
                  try clear q011
                  try clear q012
                  try clear q11
                  try clear q12
                  try clear q204
                  try clear q209
                  obtain ⟨x4_2, x5_2, x9_2, x10_2, x11_2, rfl, rfl, rfl, rfl, rfl, HA, HK2, ⟨m2, rfl⟩⟩ := hrel
                  cases gk with
                  | zero => exact absurd HA.out (by simp [runes_Decode.l0])
                  | succ k2 =>
                    have H := HA.out
                    clear HA
                    simp only [runes_Decode.l0] at H
                    by_cases c13 : x11_2 < x5_2
                    · rw [if_pos c13] at H
                      have c13b0 : decide (x11_2 < x5_2) = true := decide_eq_true c13
                      clear c13
                      by_cases c14 : x11_2 = (y200.length : Int)
                      · rw [if_pos c14] at H
                        have c14b0 : (x11_2 == (y200.length : Int)) = true := beq_iff_eq.mpr c14
                        have c14b1 : (x11_2 != (y200.length : Int)) = false := bne_eq_false_iff_eq.mpr c14
                        clear c14
                        simp only [Option.some.injEq, Prod.mk.injEq] at H
                        obtain ⟨rfl, rfl, rfl⟩ := H
                        go_wp2
                        go_ret3
                        exact ⟨by first | rfl | (simp; done) | (simp [*]; done), by repeat (first | exact Drawn0.refl _ | apply Drawn0.step)⟩
                      · rw [if_neg c14] at H
                        have c14b0 : (x11_2 == (y200.length : Int)) = false := beq_eq_false_iff_ne.mpr c14
                        have c14b1 : (x11_2 != (y200.length : Int)) = true := bne_iff_ne.mpr c14
                        by_cases c15 : 0 ≤ x11_2
                        · rw [if_pos c15] at H
                          have c15b0 : decide (0 ≤ x11_2) = true := decide_eq_true c15
                          clear c15
                          by_cases c16 : x11_2 < (y200.length : Int)
                          · rw [if_pos c16] at H
                            have c16b0 : decide (x11_2 < (y200.length : Int)) = true := decide_eq_true c16
                            clear c16
                            by_cases c17 : (rd y200 x11_2) < x9_2
                            · rw [if_pos c17] at H
                              have c17b0 : decide ((rd y200 x11_2) < x9_2) = true := decide_eq_true c17
                              clear c17
                              simp only [Option.some.injEq, Prod.mk.injEq] at H
                              obtain ⟨rfl, rfl, rfl⟩ := H
                              have p210 : 0 ≤ (x11_2 : Int) := of_decide_eq_true (by first | (with_reducible assumption) | assumption)
                              have q210 : x11_2 < (y200.length : Int) := of_decide_eq_true (by first | (with_reducible assumption) | assumption)
                              obtain ⟨ad210, e210, hx210_0⟩ := Kd.at_int HR203.out x11_2 p210 q210
                              obtain rfl : ad204 = ad210 := (by injection e210)
                              replace p210 := eq_true p210
                              replace q210 := eq_true q210
                              go_wp2
                              go_ret3
                              exact ⟨by first | rfl | (simp; done) | (simp [*]; done), by repeat (first | exact Drawn0.refl _ | apply Drawn0.step)⟩
                            · rw [if_neg c17] at H
                              have c17b0 : decide ((rd y200 x11_2) < x9_2) = false := decide_eq_false c17
                              clear c17
                              by_cases c18 : (rd y200 x11_2) > x10_2
                              · rw [if_pos c18] at H
                                have c18b0 : decide (x10_2 < (rd y200 x11_2)) = true := decide_eq_true c18
                                clear c18
                                simp only [Option.some.injEq, Prod.mk.injEq] at H
                                obtain ⟨rfl, rfl, rfl⟩ := H
                                have p210 : 0 ≤ (x11_2 : Int) := of_decide_eq_true (by first | (with_reducible assumption) | assumption)
                                have q210 : x11_2 < (y200.length : Int) := of_decide_eq_true (by first | (with_reducible assumption) | assumption)
                                obtain ⟨ad210, e210, hx210_0⟩ := Kd.at_int HR203.out x11_2 p210 q210
                                obtain rfl : ad204 = ad210 := (by injection e210)
                                replace p210 := eq_true p210
                                replace q210 := eq_true q210
                                have p211 : 0 ≤ (x11_2 : Int) := of_decide_eq_true (by first | (with_reducible assumption) | assumption)
                                have q211 : x11_2 < (y200.length : Int) := of_decide_eq_true (by first | (with_reducible assumption) | assumption)
                                obtain ⟨ad211, e211, hx211_0⟩ := Kd.at_int HR203.out x11_2 p211 q211
                                obtain rfl : ad204 = ad211 := (by injection e211)
                                replace p211 := eq_true p211
                                replace q211 := eq_true q211
                                go_wp2
                                go_ret3
                                exact ⟨by first | rfl | (simp; done) | (simp [*]; done), by repeat (first | exact Drawn0.refl _ | apply Drawn0.step)⟩
                              · rw [if_neg c18] at H
                                have c18b0 : decide (x10_2 < (rd y200 x11_2)) = false := decide_eq_false c18
                                clear c18
                                have H' := Aside0.mk H
                                clear H
                                have p210 : 0 ≤ (x11_2 : Int) := of_decide_eq_true (by first | (with_reducible assumption) | assumption)
                                have q210 : x11_2 < (y200.length : Int) := of_decide_eq_true (by first | (with_reducible assumption) | assumption)
                                obtain ⟨ad210, e210, hx210_0⟩ := Kd.at_int HR203.out x11_2 p210 q210
                                obtain rfl : ad204 = ad210 := (by injection e210)
                                replace p210 := eq_true p210
                                replace q210 := eq_true q210
                                have p211 : 0 ≤ (x11_2 : Int) := of_decide_eq_true (by first | (with_reducible assumption) | assumption)
                                have q211 : x11_2 < (y200.length : Int) := of_decide_eq_true (by first | (with_reducible assumption) | assumption)
                                obtain ⟨ad211, e211, hx211_0⟩ := Kd.at_int HR203.out x11_2 p211 q211
                                obtain rfl : ad204 = ad211 := (by injection e211)
                                replace p211 := eq_true p211
                                replace q211 := eq_true q211
                                have p212 : 0 ≤ (x11_2 : Int) := of_decide_eq_true (by first | (with_reducible assumption) | assumption)
                                have q212 : x11_2 < (y200.length : Int) := of_decide_eq_true (by first | (with_reducible assumption) | assumption)
                                obtain ⟨ad212, e212, hx212_0⟩ := Kd.at_int HR203.out x11_2 p212 q212
                                obtain rfl : ad204 = ad212 := (by injection e212)
                                replace p212 := eq_true p212
                                replace q212 := eq_true q212
                                go_wp2
                                go_roundg k2
                                case measure => have := HJ2.out; have := HK2.out; omega
                                case rel => exact ⟨(Go.bits .or .i64 (wrap64 (x4_2 * 64)) (wrap64 (Go.bits .and .u8 (rd y200 x11_2) 63))), (x5_2), (128), (191), (wrap64 (x11_2 + 1)), (by first | rfl | (simp; done) | (simp [*]; done)), (by first | rfl | (simp; done) | (simp [*]; done)), (by first | rfl | (simp; done) | (simp [*]; done)), (by first | rfl | (simp; done) | (simp [*]; done)), (by first | rfl | (simp; done) | (simp [*]; done)), H', ⟨by have := HJ2.out; have := HK2.out; omega⟩, by repeat (first | exact Drawn0.refl _ | apply Drawn0.step)⟩
                          · rw [if_neg c16] at H
                            exact absurd H (by simp)
                        · rw [if_neg c15] at H
                          exact absurd H (by simp)
                    · rw [if_neg c13] at H
                      have c13b0 : decide (x11_2 < x5_2) = false := decide_eq_false c13
                      clear c13
                      simp only [Option.some.injEq, Prod.mk.injEq] at H
                      obtain ⟨rfl, rfl, rfl⟩ := H
                      go_wp2
                      go_ret3
                      exact ⟨by first | rfl | (simp; done) | (simp [*]; done), by repeat (first | exact Drawn0.refl _ | apply Drawn0.step)⟩
            · rw [if_neg c8] at H
              exact absurd H (by simp)
          · rw [if_neg c7] at H
            exact absurd H (by simp)
        · rw [if_neg c6] at H
          exact absurd H (by simp)
def runes_Check.l0 : Nat → List Int → Int → Option (Int × Int)
  | 0, _, _ => none
  | k + 1, x0, x2 => if x2 < (x0.length : Int) then ((runes_Decode.f k x0 x2).bind fun bt213 => (if bt213.2.2 = 0 then (runes_Check.l0 k x0 (wrap64 (x2 + bt213.2.1))) else (some (x2, bt213.2.2)))) else (some (x2, 0))
def runes_Check.f (k : Nat) (l0 : List Int) : Option (Int × Int) := runes_Check.l0 k l0 0
theorem runes_Check.mono_l : ∀ k, (∀ y0 y1, LeO (runes_Check.l0 k y0 y1) (runes_Check.l0 (k + 1) y0 y1))
  | 0 => fun _ _ r h => by simp [runes_Check.l0] at h
  | k + 1 => by
    have ih0 := runes_Check.mono_l k
    · intro y0 y1
      unfold runes_Check.l0
      repeat' first
      | (with_reducible exact ih0 _ _)
      | (with_reducible exact runes_Decode.mono _ _ _)
      | (with_reducible exact LeO.refl _)
      | (with_reducible exact LeO.none _)
      | (with_reducible refine LeO.ite ?_ ?_)
      | (with_reducible refine LeO.bind ?_ (fun _ => ?_))
      | exact ih0 _ _
      | exact runes_Decode.mono _ _ _
      | exact LeO.none _
      | refine LeO.ite ?_ ?_
      | refine LeO.bind ?_ (fun _ => ?_)
theorem runes_Check.mono : ∀ a0 k, LeO (runes_Check.f k a0) (runes_Check.f (k + 1) a0) := by
  intro a0 k
  have ih0 := runes_Check.mono_l k
  unfold runes_Check.f
  repeat' first
      | (with_reducible exact ih0 _ _)
      | (with_reducible exact runes_Decode.mono _ _ _)
      | (with_reducible exact LeO.refl _)
      | (with_reducible exact LeO.none _)
      | (with_reducible refine LeO.ite ?_ ?_)
      | (with_reducible refine LeO.bind ?_ (fun _ => ?_))
      | exact ih0 _ _
      | exact runes_Decode.mono _ _ _
      | exact LeO.none _
      | refine LeO.ite ?_ ?_
      | refine LeO.bind ?_ (fun _ => ?_)
set_option maxHeartbeats 8000000 in
set_option maxRecDepth 100000 in
theorem runes_Check.calls (k : Nat) (A0 : Option Addr) (c0 : Nat) (l0 : List Int) (r1 : Int) (r2 : Int) (w : World) (hr0 : Kd.C (Kd.int .u8) w A0 l0.length l0) (hc0 : l0.length ≤ c0) (h : runes_Check.f k l0 = some (r1, r2)) :
    Calls Try.prog 58 #[.slice A0 l0.length c0] w fun e w' => e = .returned (.tuple #[.int .i64 r1, .int .i64 r2]) ∧ Drawn0 w w' := by
  have HR0 := Aside0.mk hr0
  have HC0 := Aside0.mk hc0
  clear hr0 hc0
  have H : (runes_Check.l0 k l0 0) = some (r1, r2) := h
  clear h
  have H' := Aside0.mk H
  clear H
  go_enter Try.func58, Try.ntmps58
  go_wp2
  go_loopg [2] k (fun kq v2 w' => ∃ (x2_1 : Int), v2 = .int .i64 x2_1 ∧ Aside0 (runes_Check.l0 kq l0 x2_1 = some (r1, r2)) ∧ Aside0 (kq ≤ k) ∧ Drawn0 w w')
  case atStart => exact ⟨(0), (by first | rfl | (simp; done) | (simp [*]; done)), H', ⟨Nat.le_refl _⟩, by repeat (first | exact Drawn0.refl _ | apply Drawn0.step)⟩
  case round =>
    clear H'
    obtain ⟨x2_1, rfl, HA, HK1, ⟨m1, rfl⟩⟩ := hrel
    cases gk with
    | zero => exact absurd HA.out (by simp [runes_Check.l0])
    | succ k1 =>
      have H := HA.out
      clear HA
      simp only [runes_Check.l0] at H
      by_cases c2 : x2_1 < (l0.length : Int)
      · rw [if_pos c2] at H
        have c2b0 : decide (x2_1 < (l0.length : Int)) = true := decide_eq_true c2
        clear c2
        replace H := Option.bind_eq_some_iff.mp H
        obtain ⟨⟨t213, t214, t215⟩, A30, H⟩ := H
        replace H : (if t215 = 0 then (runes_Check.l0 k1 l0 (wrap64 (x2_1 + t214))) else (some (x2_1, t215))) = some (r1, r2) := H
        have A3 := Aside0.mk A30
        clear A30
        by_cases c4 : t215 = 0
        · rw [if_pos c4] at H
          have c4b0 : (t215 == 0) = true := beq_iff_eq.mpr c4
          have c4b1 : (t215 != 0) = false := bne_eq_false_iff_eq.mpr c4
          clear c4
          have H' := Aside0.mk H
          clear H
          go_wp2_with (first | ((with_reducible refine gate_callee (f := 85) rfl ?_); refine goesL_ (some 14) rfl rfl Try.func85 (by kernel_rfl) rfl #[.slice A0 l0.length c0, .int .i64 x2_1] rfl (by (try simp only [List.map_toArray, List.map_cons, List.map_nil]); first | done | rfl | (simp only [List.length_drop, List.length_take]; rfl)) ?_; (with_reducible refine (runes_Decode.calls k1 _ _ l0 x2_1 t213 t214 t215 _ ?side1 ?side2 A3.out).mono ?_); (case side1 => repeat (first | exact HR0.out | (with_reducible refine Kd.C_alloc ?_ _) | (with_reducible refine Kd.C_drewN ?_ _) | (with_reducible refine Kd.C_drew ?_))); (case side2 => exact HC0.out); rintro e w' ⟨rfl, ⟨nd, rfl⟩⟩; refine ⟨_, rfl, ?_⟩))
          go_roundg k1
          case measure => have := HK1.out; omega
          case rel => exact ⟨(wrap64 (x2_1 + t214)), (by first | rfl | (simp; done) | (simp [*]; done)), H', ⟨by have := HK1.out; omega⟩, by repeat (first | exact Drawn0.refl _ | apply Drawn0.step)⟩
        · rw [if_neg c4] at H
          have c4b0 : (t215 == 0) = false := beq_eq_false_iff_ne.mpr c4
          have c4b1 : (t215 != 0) = true := bne_iff_ne.mpr c4
          simp only [Option.some.injEq, Prod.mk.injEq] at H
          obtain ⟨rfl, rfl⟩ := H
          go_wp2_with (first | ((with_reducible refine gate_callee (f := 85) rfl ?_); refine goesL_ (some 14) rfl rfl Try.func85 (by kernel_rfl) rfl #[.slice A0 l0.length c0, .int .i64 x2_1] rfl (by (try simp only [List.map_toArray, List.map_cons, List.map_nil]); first | done | rfl | (simp only [List.length_drop, List.length_take]; rfl)) ?_; (with_reducible refine (runes_Decode.calls k1 _ _ l0 x2_1 t213 t214 t215 _ ?side1 ?side2 A3.out).mono ?_); (case side1 => repeat (first | exact HR0.out | (with_reducible refine Kd.C_alloc ?_ _) | (with_reducible refine Kd.C_drewN ?_ _) | (with_reducible refine Kd.C_drew ?_))); (case side2 => exact HC0.out); rintro e w' ⟨rfl, ⟨nd, rfl⟩⟩; refine ⟨_, rfl, ?_⟩))
          go_ret2
          exact ⟨by first | rfl | (simp; done) | (simp [*]; done), by repeat (first | exact Drawn0.refl _ | apply Drawn0.step)⟩
      · rw [if_neg c2] at H
        have c2b0 : decide (x2_1 < (l0.length : Int)) = false := decide_eq_false c2
        clear c2
        simp only [Option.some.injEq, Prod.mk.injEq] at H
        obtain ⟨rfl, rfl⟩ := H
        go_wp2
        go_ret2
        exact ⟨by first | rfl | (simp; done) | (simp [*]; done), by repeat (first | exact Drawn0.refl _ | apply Drawn0.step)⟩
def units_size.f (a0 : Int) : Option (Int) := if a0 ≥ 65536 then (some 2) else (some 1)
set_option maxHeartbeats 8000000 in
set_option maxRecDepth 100000 in
theorem units_size.calls (a0 : Int) (r : Int) (w : World) (h : units_size.f a0 = some r) :
    Calls Try.prog 114 #[.int .i64 a0] w fun e w' => e = .returned (.int .i64 r) ∧ Drawn0 w w' := by
  have H : (if a0 ≥ 65536 then (some 2) else (some 1)) = some r := h
  clear h
  by_cases c2 : a0 ≥ 65536
  · rw [if_pos c2] at H
    have c2b0 : decide (65536 ≤ a0) = true := decide_eq_true c2
    clear c2
    obtain rfl := Option.some.inj H
    go_enter Try.func114, Try.ntmps114
    go_wp2
    go_ret
    exact ⟨by first | rfl | (simp; done) | (simp [*]; done), by repeat (first | exact Drawn0.refl _ | apply Drawn0.step)⟩
  · rw [if_neg c2] at H
    have c2b0 : decide (65536 ≤ a0) = false := decide_eq_false c2
    clear c2
    obtain rfl := Option.some.inj H
    go_enter Try.func114, Try.ntmps114
    go_wp2
    go_ret
    exact ⟨by first | rfl | (simp; done) | (simp [*]; done), by repeat (first | exact Drawn0.refl _ | apply Drawn0.step)⟩
def colophonref00_CopyBytes.f (l0 : List Int) : Option (List Int) := if ([] : List Int).length + l0.length < 140737488355328 then (some (([] : List Int) ++ l0)) else (none)
set_option maxHeartbeats 8000000 in
set_option maxRecDepth 100000 in
theorem colophonref00_CopyBytes.calls (A0 : Option Addr) (c0 : Nat) (l0 : List Int) (r : List Int) (w : World) (hr0 : Kd.C (Kd.int .u8) w A0 l0.length l0) (hc0 : l0.length ≤ c0) (h : colophonref00_CopyBytes.f l0 = some r) :
    Calls Try.prog 17 #[.slice A0 l0.length c0] w fun e w' => ∃ v0_ : Value, e = .returned (v0_) ∧ Kd.R (Kd.int .u8) 5 w' w.heap.size (fun _ => True) v0_ r ∧ Below w.heap.size w w' := by
  have HR0 := Aside0.mk hr0
  have HC0 := Aside0.mk hc0
  clear hr0 hc0
  have HB := Aside0.mk (Below.refl w.heap.size w)
  have H : (if ([] : List Int).length + l0.length < 140737488355328 then (some (([] : List Int) ++ l0)) else (none)) = some r := h
  clear h
  by_cases c2 : ([] : List Int).length + l0.length < 140737488355328
  · rw [if_pos c2] at H
    have LMc2 := Aside0.mk c2
    clear c2
    obtain ⟨y220, hy220⟩ : ∃ y_ : List Int, y_ = (([] : List Int) ++ l0) := ⟨_, rfl⟩
    replace H : (some y220) = some r := by first | (rw [hy220]; with_reducible exact H) | (have H2_ := (Option.bind_some _ _).symm.trans H; rw [hy220]; with_reducible exact H2_) | (have H2_ := (Option.bind_some _ _).symm.trans H; with_reducible exact H2_) | with_reducible exact H | (rw [hy220]; exact H) | exact H
    have Ny220 := Aside0.mk hy220
    clear hy220
    obtain rfl := Option.some.inj H
    go_enter Try.func17, Try.ntmps17
    go_wp2_with (first | ((with_reducible refine gate_builtin (b := .append) (xs := #[.tmp 4, .tmp 5]) rfl ?_); at_builtin; refine Kd.R_append_rows (Kd.int .u8) (w0 := w) w.heap.size rfl (.tmp 4) (.tmp 5) 22 5 (.int .u8 0) 1 rfl Try.underlying22 info5 rfl (by decide) (by omega) (.slice none 0 0) ([] : List Int) l0 _ _ _ (fun _ => True) (fun _ => False) rfl rfl ?aO ?aR (fun _ _ h => h) (fun _ h => h.elim) ?aF ?aB ?aS ?aL ?_; (case aR => repeat (first | exact HR0.out | (with_reducible refine Kd.C_alloc ?_ _) | (with_reducible refine Kd.C_drewN ?_ _) | (with_reducible refine Kd.C_drew ?_))); (case aB => exact (by repeat (first | (with_reducible first | exact HB.out | apply below_alloc | apply pw_below_drewN | apply below_drew1) | exact HB.out))); (case aF => exact (fun _ _ => trivial)); (case aO => exact ((Kd.R_nil _ _ _ _ (fun _ => True)))); (case aS => exact (below_size (by repeat (first | (with_reducible first | exact HB.out | apply below_alloc | apply pw_below_drewN | apply below_drew1) | exact HB.out)))); (case aL => have := LMc2.out; omega); intro v221 w3 ho hb hg hat; rw [← Ny220.out] at ho; have n0_ := Aside0.mk (hb); have n1_ := Aside0.mk (ho); clear HB; have HB := n0_; have HO222 := n1_; clear n0_ n1_; clear ho hb hg hat))
    go_ret
    exact ⟨_, by first | rfl | (simp [errW_none, errW_some] <;> rfl) | (simp [*, errW_none, errW_some] <;> rfl), by (with_reducible repeat (first | apply Kd.R_alloc | apply Kd.R_drewN | apply Kd.R_drew)); exact HO222.out, by repeat (first | (with_reducible first | exact HB.out | apply below_alloc | apply pw_below_drewN | apply below_drew1) | exact HB.out)⟩
  · rw [if_neg c2] at H
    exact absurd H (by simp)
def colophonref00_Bring.f (a0 : Int) (a1 : Int) : Option (Int) := if a1 ≤ 0 then (some 0) else (if a1 = 0 then (none) else (if (Int.tmod a0 a1) < 0 then (some (wrap64 ((Int.tmod a0 a1) + a1))) else (some (Int.tmod a0 a1))))
set_option maxHeartbeats 8000000 in
set_option maxRecDepth 100000 in
theorem colophonref00_Bring.calls (a0 : Int) (a1 : Int) (r : Int) (w : World) (h : colophonref00_Bring.f a0 a1 = some r) :
    Calls Try.prog 29 #[.int .i64 a0, .int .i64 a1] w fun e w' => e = .returned (.int .i64 r) ∧ Drawn0 w w' := by
  have H : (if a1 ≤ 0 then (some 0) else (if a1 = 0 then (none) else (if (Int.tmod a0 a1) < 0 then (some (wrap64 ((Int.tmod a0 a1) + a1))) else (some (Int.tmod a0 a1))))) = some r := h
  clear h
  by_cases c3 : a1 ≤ 0
  · rw [if_pos c3] at H
    have c3b0 : decide (a1 ≤ 0) = true := decide_eq_true c3
    clear c3
    obtain rfl := Option.some.inj H
    go_enter Try.func29, Try.ntmps29
    go_wp2
    go_ret
    exact ⟨by first | rfl | (simp; done) | (simp [*]; done), by repeat (first | exact Drawn0.refl _ | apply Drawn0.step)⟩
  · rw [if_neg c3] at H
    have c3b0 : decide (a1 ≤ 0) = false := decide_eq_false c3
    clear c3
    by_cases c4 : a1 = 0
    · rw [if_pos c4] at H
      exact absurd H (by simp)
    · rw [if_neg c4] at H
      have c4b0 : (a1 == 0) = false := beq_eq_false_iff_ne.mpr c4
      have c4b1 : (a1 != 0) = true := bne_iff_ne.mpr c4
      by_cases c5 : (Int.tmod a0 a1) < 0
      · rw [if_pos c5] at H
        have c5b0 : decide ((Int.tmod a0 a1) < 0) = true := decide_eq_true c5
        clear c5
        obtain rfl := Option.some.inj H
        go_enter Try.func29, Try.ntmps29
        go_wp2
        go_ret
        exact ⟨by first | rfl | (simp; done) | (simp [*]; done), by repeat (first | exact Drawn0.refl _ | apply Drawn0.step)⟩
      · rw [if_neg c5] at H
        have c5b0 : decide ((Int.tmod a0 a1) < 0) = false := decide_eq_false c5
        clear c5
        obtain rfl := Option.some.inj H
        go_enter Try.func29, Try.ntmps29
        go_wp2
        go_ret
        exact ⟨by first | rfl | (simp; done) | (simp [*]; done), by repeat (first | exact Drawn0.refl _ | apply Drawn0.step)⟩
end Go.Proofs.Ytjebkpcekkkbkaa.FBase
namespace Go.Proofs.Ytjebkpcekkkbkaa.B
open Go.RowKit Go.Proofs.YtjebkpcekkkbkaaW.PrintWords Go.Proofs.YtjebkpcekkkbkaaW.PrintLast Go.Proofs.YtjebkpcekkkbkaaW.PrintMore
theorem infoLn : (Try.prog.info? 150).map (fun i => (i.zero, i.size, i.bytes)) = some (some (.agg #[.int .i64 0, .int .i64 0, .int .i64 0]), 3, 24) := by kernel_rfl
structure Ln where
  f0 : Int
  f1 : Int
  f2 : Int
deriving DecidableEq
def zLn : Ln := ⟨0, 0, 0⟩
def kLn : Kd Ln := Kd.iso (Kd.pair (Kd.int .i64) (Kd.pair (Kd.int .i64) (Kd.int .i64))) (fun x : Ln => (x.f0, x.f1, x.f2))
theorem kLn_open {w : World} {x : Ln} {cs : List Value} (h : kLn.K w x cs) : cs = [.int .i64 x.f0, .int .i64 x.f1, .int .i64 x.f2] := by
  obtain ⟨_, _, rfl, rfl, _, _, rfl, rfl, rfl⟩ := h
  exact rfl
theorem kLn_mkM (w : World) (base : Nat) (ok : Nat → Prop) (x : Ln) : kLn.M w base ok x [.int .i64 x.f0, .int .i64 x.f1, .int .i64 x.f2] :=
  ⟨[.int .i64 x.f0], [.int .i64 x.f1, .int .i64 x.f2], rfl, rfl, ⟨[.int .i64 x.f1], [.int .i64 x.f2], rfl, rfl, rfl⟩⟩
def rdLn (xs : List Ln) (i : Int) : Ln := xs.getD i.toNat zLn
theorem atLn {w : World} {A : Option Addr} {n : Nat} {xs : List Ln} (h : Kd.C kLn w A n xs) (i : Int) (h0 : 0 ≤ i) (h1 : i < n) : ∃ ad , A = some ad ∧ w.cell? (ad.add (i.toNat * 3)) = some (.int .i64 (rdLn xs i).f0) ∧ w.cell? ⟨(ad.add (i.toNat * 3)).block, (ad.add (i.toNat * 3)).off + 1, none⟩ = some (.int .i64 (rdLn xs i).f1) ∧ w.cell? ⟨(ad.add (i.toNat * 3)).block, (ad.add (i.toNat * 3)).off + 2, none⟩ = some (.int .i64 (rdLn xs i).f2) := by
  obtain ⟨ad, c, e, _, hK, hc0⟩ := Kd.C_get h zLn i h0 h1
  have hc : ∀ j u, c[j]? = some u → w.cell? (ad.add (i.toNat * 3 + j)) = some u := hc0
  obtain rfl := kLn_open hK
  exact ⟨ad, e, hc 0 _ rfl, by rw [← add_field _ _ 1 (by omega)]; exact hc 1 _ rfl, by rw [← add_field _ _ 2 (by omega)]; exact hc 2 _ rfl⟩
def IsIdx (W : World) (a : Nat) (L : List Ln) : Prop :=
  ∃ A c, W.heap[a]? = some (.cells #[.slice A L.length c] 148 (0, 0)) ∧ L.length ≤ c ∧ Kd.C kLn W A L.length L
theorem IsIdx.lt {W : World} {a : Nat} {L : List Ln} (h : IsIdx W a L) : a < W.heap.size := by
  obtain ⟨A, c, hb, _⟩ := h
  exact blk_lt hb
theorem IsIdx.below {W W1 : World} {a : Nat} {L : List Ln} (h : IsIdx W a L) (hb : Below W.heap.size W W1) : IsIdx W1 a L := by
  have hl := h.lt
  obtain ⟨A, c, h1, h2, h3⟩ := h
  exact ⟨A, c, (hb.block a hl).trans h1, h2, Kd.C_below h3 hb⟩
theorem IsIdx.alloc {W : World} {a : Nat} {L : List Ln} (h : IsIdx W a L) (o : Obj) : IsIdx (W.alloc o) a L := h.below (below_alloc (Below.refl _ _) o)
theorem IsIdx.drewN {W : World} {a : Nat} {L : List Ln} (h : IsIdx W a L) (m : Nat) : IsIdx (W.drewN m) a L := h.below (pw_below_drewN (Below.refl _ _) m)
theorem IsIdx.drew {W : World} {a : Nat} {L : List Ln} (h : IsIdx W a L) : IsIdx W.drew a L := h.below (below_drew (Below.refl _ _))
theorem IsIdx.cell {W : World} {a : Nat} {L : List Ln} (h : IsIdx W a L) : ∃ A c, W.cell? ⟨a, 0, none⟩ = some (.slice A L.length c) ∧ L.length ≤ c ∧ Kd.C kLn W A L.length L := by
  obtain ⟨A, c, hb, hl, hc⟩ := h
  exact ⟨A, c, (blk_cell hb 0).trans rfl, hl, hc⟩
theorem none_idx (w : World) (a : Nat) (L : List Ln) (h : IsIdx w a L) (hL : 0 < L.length) : Calls Try.prog 113 #[.pointer (some ⟨a, 0, none⟩)] w fun e w' => e = .returned (.bool false) ∧ w = w' := by
  obtain ⟨A, c, hc, hl, _⟩ := h.cell
  have hz : ((L.length : Int) == 0) = false := by rw [beq_eq_false_iff_ne]; omega
  have hz2 : ¬ (L = []) := by rintro rfl; simp at hL
  generalize L.length = n at *
  go_enter Try.func113, Try.ntmps113
  go_wp2
  go_ret
  exact ⟨rfl, rfl⟩
def IsRow (k : IntKind) (w : World) (a : Option Addr) (len cap : Nat) (zs : List Int) : Prop :=
  (a = none ∧ len = 0 ∧ cap = 0 ∧ zs = []) ∨
  ∃ x, a = some x ∧ len ≤ cap ∧ cap ≤ maxLen ∧ zs.length = cap ∧ (∀ i, i < zs.length → w.cell? (x.add i) = some (.int k (zs.getD i 0))) ∧ ∀ n ∈ zs, (Lit.int k n).wf = true
theorem IsRow.reads {k : IntKind} {w : World} {a : Option Addr} {len cap : Nat} {zs : List Int} (h : IsRow k w a len cap zs) : ∃ l, l.length = len ∧ l.length ≤ cap ∧ Kd.C (Kd.int k) w a l.length l ∧ ∀ x ∈ l, (Lit.int k x).wf = true := by
  rcases h with ⟨rfl, rfl, rfl, rfl⟩ | ⟨x, rfl, hl, hm, hz, hc, hw⟩
  · exact ⟨[], rfl, Nat.le_refl _, Kd.C_nil _ _, fun x hx => by cases hx⟩
  · have hlen : (zs.take len).length = len := by rw [List.length_take]; omega
    unfold maxLen at hm
    refine ⟨zs.take len, hlen, by omega, Kd.C_of_reads (d := 0) ⟨rfl, by omega, fun _ => ⟨x, rfl, fun j hj => ?_⟩⟩, fun y hy => hw y (List.mem_of_mem_take hy)⟩
    rw [hc j (by omega)]
    have hj2 : j < len := by omega
    congr 2
    simp only [List.getD, List.getElem?_take, if_pos hj2]
theorem byte_wf {x : Int} (h : (Lit.int .u8 x).wf = true) : 0 ≤ x ∧ x < 256 := by
  have : 0 ≤ x ∧ x ≤ 255 := by simpa [Lit.wf, IntKind.min, IntKind.max, IntKind.signed, IntKind.bits] using h
  omega
theorem int_wf {x : Int} (h : (Lit.int .i64 x).wf = true) : -9223372036854775808 ≤ x ∧ x ≤ 9223372036854775807 := by
  simpa [Lit.wf, IntKind.min, IntKind.max, IntKind.signed, IntKind.bits] using h
end Go.Proofs.Ytjebkpcekkkbkaa.B
namespace Go.Proofs.Ytjebkpcekkkbkaa.FBase
open Go.RowKit Go.Proofs.YtjebkpcekkkbkaaW.PrintWords Go.Proofs.YtjebkpcekkkbkaaW.PrintLast Go.Proofs.YtjebkpcekkkbkaaW.PrintMore
attribute [local go_sem] max2_int min2_int max_two min_two max_three min_three max_four min_four   -- for this text's walks alone
def edit_texts.l0 : Nat → List (List Int) → Int → Int → Option (Int)
  | 0, _, _, _ => none
  | k + 1, x7, x8, x9 => if x9 < x8 then (if 0 ≤ x9 then (if x9 < (x7.length : Int) then ((runes_Check.f k (rd_L3 x7 x9)).bind fun bt228 => (if bt228.2 = 0 then (edit_texts.l0 k x7 x8 (wrap64 (x9 + 1))) else (some bt228.2))) else (none)) else (none)) else (some 0)
def edit_texts.f (k : Nat) (l0 : List (List Int)) : Option (Int) := edit_texts.l0 k l0 (l0.length : Int) 0
theorem edit_texts.mono_l : ∀ k, (∀ y0 y1 y2, LeO (edit_texts.l0 k y0 y1 y2) (edit_texts.l0 (k + 1) y0 y1 y2))
  | 0 => fun _ _ _ r h => by simp [edit_texts.l0] at h
  | k + 1 => by
    have ih0 := edit_texts.mono_l k
    · intro y0 y1 y2
      unfold edit_texts.l0
      repeat' first
      | (with_reducible exact ih0 _ _ _)
      | (with_reducible exact runes_Check.mono _ _)
      | (with_reducible exact LeO.refl _)
      | (with_reducible exact LeO.none _)
      | (with_reducible refine LeO.ite ?_ ?_)
      | (with_reducible refine LeO.bind ?_ (fun _ => ?_))
      | exact ih0 _ _ _
      | exact runes_Check.mono _ _
      | exact LeO.none _
      | refine LeO.ite ?_ ?_
      | refine LeO.bind ?_ (fun _ => ?_)
theorem edit_texts.mono : ∀ a0 k, LeO (edit_texts.f k a0) (edit_texts.f (k + 1) a0) := by
  intro a0 k
  have ih0 := edit_texts.mono_l k
  unfold edit_texts.f
  repeat' first
      | (with_reducible exact ih0 _ _ _)
      | (with_reducible exact runes_Check.mono _ _)
      | (with_reducible exact LeO.refl _)
      | (with_reducible exact LeO.none _)
      | (with_reducible refine LeO.ite ?_ ?_)
      | (with_reducible refine LeO.bind ?_ (fun _ => ?_))
      | exact ih0 _ _ _
      | exact runes_Check.mono _ _
      | exact LeO.none _
      | refine LeO.ite ?_ ?_
      | refine LeO.bind ?_ (fun _ => ?_)
set_option maxHeartbeats 8000000 in
set_option maxRecDepth 100000 in
theorem edit_texts.calls (k : Nat) (A0 : Option Addr) (c0 : Nat) (l0 : List (List Int)) (r : Int) (w : World) (hr0 : Kd.C (Kd.slice 5 (Kd.int .u8)) w A0 l0.length l0) (hc0 : l0.length ≤ c0) (h : edit_texts.f k l0 = some r) :
    Calls Try.prog 51 #[.slice A0 l0.length c0] w fun e w' => e = .returned (.int .i64 r) ∧ Drawn0 w w' := by
  have HR0 := Aside0.mk hr0
  have HC0 := Aside0.mk hc0
  clear hr0 hc0
  have H : (edit_texts.l0 k l0 (l0.length : Int) 0) = some r := h
  clear h
  have H' := Aside0.mk H
  clear H
  go_enter Try.func51, Try.ntmps51
  go_wp2
  go_loopg [9] k (fun kq v9 w' => ∃ (x9_1 : Int), v9 = .int .i64 x9_1 ∧ Aside0 (edit_texts.l0 kq l0 (l0.length : Int) x9_1 = some r) ∧ Aside0 (kq ≤ k) ∧ Drawn0 w w')
  case atStart => exact ⟨(0), (by first | rfl | (simp; done) | (simp [*]; done)), H', ⟨Nat.le_refl _⟩, by repeat (first | exact Drawn0.refl _ | apply Drawn0.step)⟩
  case round =>
    clear H'
    obtain ⟨x9_1, rfl, HA, HK1, ⟨m1, rfl⟩⟩ := hrel
    cases gk with
    | zero => exact absurd HA.out (by simp [edit_texts.l0])
    | succ k1 =>
      have H := HA.out
      clear HA
      simp only [edit_texts.l0] at H
      by_cases c2 : x9_1 < (l0.length : Int)
      · rw [if_pos c2] at H
        have c2b0 : decide (x9_1 < (l0.length : Int)) = true := decide_eq_true c2
        clear c2
        by_cases c3 : 0 ≤ x9_1
        · rw [if_pos c3] at H
          have c3b0 : decide (0 ≤ x9_1) = true := decide_eq_true c3
          clear c3
          by_cases c4 : x9_1 < (l0.length : Int)
          · rw [if_pos c4] at H
            have c4b0 : decide (x9_1 < (l0.length : Int)) = true := decide_eq_true c4
            clear c4
            replace H := Option.bind_eq_some_iff.mp H
            obtain ⟨⟨t228, t229⟩, A50, H⟩ := H
            replace H : (if t229 = 0 then (edit_texts.l0 k1 l0 (l0.length : Int) (wrap64 (x9_1 + 1))) else (some t229)) = some r := H
            have A5 := Aside0.mk A50
            clear A50
            by_cases c6 : t229 = 0
            · rw [if_pos c6] at H
              have c6b0 : (t229 == 0) = true := beq_iff_eq.mpr c6
              have c6b1 : (t229 != 0) = false := bne_eq_false_iff_eq.mpr c6
              clear c6
              have H' := Aside0.mk H
              clear H
              have p227 : 0 ≤ (x9_1 : Int) := of_decide_eq_true (by first | (with_reducible assumption) | assumption)
              have q227 : x9_1 < (l0.length : Int) := of_decide_eq_true (by first | (with_reducible assumption) | assumption)
              obtain ⟨ad227, A227_0, c227_0, e227, hx227_0, hl227_0, hi227_0⟩ := at_L3 HR0.out x9_1 p227 q227
              cases e227
              have HR227_0 := Aside0.mk hi227_0
              have HC227_0 := Aside0.mk hl227_0
              clear hi227_0 hl227_0
              replace p227 := eq_true p227
              replace q227 := eq_true q227
              go_wp2_with (first | ((with_reducible refine gate_callee (f := 58) rfl ?_); refine goesL_ (some 15) rfl rfl Try.func58 (by kernel_rfl) rfl #[.slice A227_0 (rd_L3 l0 x9_1).length c227_0] rfl (by (try simp only [List.map_toArray, List.map_cons, List.map_nil]); first | done | rfl | (simp only [List.length_drop, List.length_take]; rfl)) ?_; (with_reducible refine (runes_Check.calls k1 _ _ (rd_L3 l0 x9_1) t228 t229 _ ?side1 ?side2 A5.out).mono ?_); (case side1 => repeat (first | exact HR227_0.out | (with_reducible refine Kd.C_alloc ?_ _) | (with_reducible refine Kd.C_drewN ?_ _) | (with_reducible refine Kd.C_drew ?_))); (case side2 => exact HC227_0.out); rintro e w' ⟨rfl, ⟨nd, rfl⟩⟩; refine ⟨_, rfl, ?_⟩))
              go_roundg k1
              case measure => have := HK1.out; omega
              case rel => exact ⟨(wrap64 (x9_1 + 1)), (by first | rfl | (simp; done) | (simp [*]; done)), H', ⟨by have := HK1.out; omega⟩, by repeat (first | exact Drawn0.refl _ | apply Drawn0.step)⟩
            · rw [if_neg c6] at H
              have c6b0 : (t229 == 0) = false := beq_eq_false_iff_ne.mpr c6
              have c6b1 : (t229 != 0) = true := bne_iff_ne.mpr c6
              obtain rfl := Option.some.inj H
              have p227 : 0 ≤ (x9_1 : Int) := of_decide_eq_true (by first | (with_reducible assumption) | assumption)
              have q227 : x9_1 < (l0.length : Int) := of_decide_eq_true (by first | (with_reducible assumption) | assumption)
              obtain ⟨ad227, A227_0, c227_0, e227, hx227_0, hl227_0, hi227_0⟩ := at_L3 HR0.out x9_1 p227 q227
              cases e227
              have HR227_0 := Aside0.mk hi227_0
              have HC227_0 := Aside0.mk hl227_0
              clear hi227_0 hl227_0
              replace p227 := eq_true p227
              replace q227 := eq_true q227
              go_wp2_with (first | ((with_reducible refine gate_callee (f := 58) rfl ?_); refine goesL_ (some 15) rfl rfl Try.func58 (by kernel_rfl) rfl #[.slice A227_0 (rd_L3 l0 x9_1).length c227_0] rfl (by (try simp only [List.map_toArray, List.map_cons, List.map_nil]); first | done | rfl | (simp only [List.length_drop, List.length_take]; rfl)) ?_; (with_reducible refine (runes_Check.calls k1 _ _ (rd_L3 l0 x9_1) t228 t229 _ ?side1 ?side2 A5.out).mono ?_); (case side1 => repeat (first | exact HR227_0.out | (with_reducible refine Kd.C_alloc ?_ _) | (with_reducible refine Kd.C_drewN ?_ _) | (with_reducible refine Kd.C_drew ?_))); (case side2 => exact HC227_0.out); rintro e w' ⟨rfl, ⟨nd, rfl⟩⟩; refine ⟨_, rfl, ?_⟩))
              go_ret
              exact ⟨by first | rfl | (simp; done) | (simp [*]; done), by repeat (first | exact Drawn0.refl _ | apply Drawn0.step)⟩
          · rw [if_neg c4] at H
            exact absurd H (by simp)
        · rw [if_neg c3] at H
          exact absurd H (by simp)
      · rw [if_neg c2] at H
        have c2b0 : decide (x9_1 < (l0.length : Int)) = false := decide_eq_false c2
        clear c2
        obtain rfl := Option.some.inj H
        go_wp2
        go_ret
        exact ⟨by first | rfl | (simp; done) | (simp [*]; done), by repeat (first | exact Drawn0.refl _ | apply Drawn0.step)⟩
def colophonref10_EqTexts.l0 : Nat → List ByteArray → List ByteArray → Int → Option (Bool)
  | 0, _, _, _ => none
  | k + 1, x0, x1, x5 => if x5 < (x0.length : Int) then (if 0 ≤ x5 then (if x5 < (x1.length : Int) then (if (rdOf ByteArray.empty x0 x5).toList = (rdOf ByteArray.empty x1 x5).toList then (colophonref10_EqTexts.l0 k x0 x1 (wrap64 (x5 + 1))) else (some false)) else (none)) else (none)) else (some true)
def colophonref10_EqTexts.f (k : Nat) (l0 : List ByteArray) (l1 : List ByteArray) : Option (Bool) := if (l0.length : Int) = (l1.length : Int) then (colophonref10_EqTexts.l0 k l0 l1 0) else (some false)
theorem colophonref10_EqTexts.mono_l : ∀ k, (∀ y0 y1 y2, LeO (colophonref10_EqTexts.l0 k y0 y1 y2) (colophonref10_EqTexts.l0 (k + 1) y0 y1 y2))
  | 0 => fun _ _ _ r h => by simp [colophonref10_EqTexts.l0] at h
  | k + 1 => by
    have ih0 := colophonref10_EqTexts.mono_l k
    · intro y0 y1 y2
      unfold colophonref10_EqTexts.l0
      repeat' first
      | (with_reducible exact ih0 _ _ _)
      | (with_reducible exact LeO.refl _)
      | (with_reducible exact LeO.none _)
      | (with_reducible refine LeO.ite ?_ ?_)
      | (with_reducible refine LeO.bind ?_ (fun _ => ?_))
      | exact ih0 _ _ _
      | exact LeO.none _
      | refine LeO.ite ?_ ?_
      | refine LeO.bind ?_ (fun _ => ?_)
theorem colophonref10_EqTexts.mono : ∀ a0 a1 k, LeO (colophonref10_EqTexts.f k a0 a1) (colophonref10_EqTexts.f (k + 1) a0 a1) := by
  intro a0 a1 k
  have ih0 := colophonref10_EqTexts.mono_l k
  unfold colophonref10_EqTexts.f
  repeat' first
      | (with_reducible exact ih0 _ _ _)
      | (with_reducible exact LeO.refl _)
      | (with_reducible exact LeO.none _)
      | (with_reducible refine LeO.ite ?_ ?_)
      | (with_reducible refine LeO.bind ?_ (fun _ => ?_))
      | exact ih0 _ _ _
      | exact LeO.none _
      | refine LeO.ite ?_ ?_
      | refine LeO.bind ?_ (fun _ => ?_)
set_option maxHeartbeats 8000000 in
set_option maxRecDepth 100000 in
theorem colophonref10_EqTexts.calls (k : Nat) (A0 : Option Addr) (c0 : Nat) (l0 : List ByteArray) (A1 : Option Addr) (c1 : Nat) (l1 : List ByteArray) (r : Bool) (w : World) (hr0 : Kd.C Kd.string w A0 l0.length l0) (hc0 : l0.length ≤ c0) (hr1 : Kd.C Kd.string w A1 l1.length l1) (hc1 : l1.length ≤ c1) (h : colophonref10_EqTexts.f k l0 l1 = some r) :
    Calls Try.prog 74 #[.slice A0 l0.length c0, .slice A1 l1.length c1] w fun e w' => e = .returned (.bool r) ∧ Drawn0 w w' := by
  have HR0 := Aside0.mk hr0
  have HC0 := Aside0.mk hc0
  clear hr0 hc0
  have HR1 := Aside0.mk hr1
  have HC1 := Aside0.mk hc1
  clear hr1 hc1
  have H : (if (l0.length : Int) = (l1.length : Int) then (colophonref10_EqTexts.l0 k l0 l1 0) else (some false)) = some r := h
  clear h
  by_cases c3 : (l0.length : Int) = (l1.length : Int)
  · rw [if_pos c3] at H
    have c3b0 : ((l0.length : Int) == (l1.length : Int)) = true := beq_iff_eq.mpr c3
    have c3b1 : ((l0.length : Int) != (l1.length : Int)) = false := bne_eq_false_iff_eq.mpr c3
    have c3b2 : (l0.length == l1.length) = true := by first | simpa using c3 | (simp at c3 ⊢; omega)
    clear c3
    have H' := Aside0.mk H
    clear H
    go_enter Try.func74, Try.ntmps74
    go_wp2
    repeat (go_quiet (fail); try go_wp2)
    go_loopg [5] k (fun kq v5 w' => ∃ (x5_1 : Int), v5 = .int .i64 x5_1 ∧ Aside0 (colophonref10_EqTexts.l0 kq l0 l1 x5_1 = some r) ∧ Aside0 (kq ≤ k) ∧ Drawn0 w w')
    case atStart => exact ⟨(0), (by first | rfl | (simp; done) | (simp [*]; done)), H', ⟨Nat.le_refl _⟩, by repeat (first | exact Drawn0.refl _ | apply Drawn0.step)⟩
    case round =>
      clear H'
      try clear c1
      try clear p2
      try clear c3
      try clear c3b0
      try clear c3b1
      try clear c3b2
      obtain ⟨x5_1, rfl, HA, HK1, ⟨m1, rfl⟩⟩ := hrel
      cases gk with
      | zero => exact absurd HA.out (by simp [colophonref10_EqTexts.l0])
      | succ k1 =>
        have H := HA.out
        clear HA
        simp only [colophonref10_EqTexts.l0] at H
        by_cases c4 : x5_1 < (l0.length : Int)
        · rw [if_pos c4] at H
          have c4b0 : decide (x5_1 < (l0.length : Int)) = true := decide_eq_true c4
          clear c4
          by_cases c5 : 0 ≤ x5_1
          · rw [if_pos c5] at H
            have c5b0 : decide (0 ≤ x5_1) = true := decide_eq_true c5
            clear c5
            by_cases c6 : x5_1 < (l1.length : Int)
            · rw [if_pos c6] at H
              have c6b0 : decide (x5_1 < (l1.length : Int)) = true := decide_eq_true c6
              clear c6
              by_cases c7 : (rdOf ByteArray.empty l0 x5_1).toList = (rdOf ByteArray.empty l1 x5_1).toList
              · rw [if_pos c7] at H
                have c7b0 : ((rdOf ByteArray.empty l0 x5_1).toList == (rdOf ByteArray.empty l1 x5_1).toList) = true := beq_iff_eq.mpr c7
                have c7b1 : ((rdOf ByteArray.empty l0 x5_1).toList != (rdOf ByteArray.empty l1 x5_1).toList) = false := bne_eq_false_iff_eq.mpr c7
                clear c7
                have H' := Aside0.mk H
                clear H
                have p233 : 0 ≤ (x5_1 : Int) := of_decide_eq_true (by first | (with_reducible assumption) | assumption)
                have q233 : x5_1 < (l0.length : Int) := of_decide_eq_true (by first | (with_reducible assumption) | assumption)
                obtain ⟨ad233, e233, hx233_0⟩ := Kd.at_string HR0.out x5_1 p233 q233
                cases e233
                replace p233 := eq_true p233
                replace q233 := eq_true q233
                have p234 : 0 ≤ (x5_1 : Int) := of_decide_eq_true (by first | (with_reducible assumption) | assumption)
                have q234 : x5_1 < (l1.length : Int) := of_decide_eq_true (by first | (with_reducible assumption) | assumption)
                obtain ⟨ad234, e234, hx234_0⟩ := Kd.at_string HR1.out x5_1 p234 q234
                cases e234
                replace p234 := eq_true p234
                replace q234 := eq_true q234
                go_wp2
                repeat (go_quiet (fail); try go_wp2)
                go_roundg k1
                case measure => have := HK1.out; omega
                case rel => exact ⟨(wrap64 (x5_1 + 1)), (by first | rfl | (simp; done) | (simp [*]; done)), H', ⟨by have := HK1.out; omega⟩, by repeat (first | exact Drawn0.refl _ | apply Drawn0.step)⟩
              · rw [if_neg c7] at H
                have c7b0 : ((rdOf ByteArray.empty l0 x5_1).toList == (rdOf ByteArray.empty l1 x5_1).toList) = false := beq_eq_false_iff_ne.mpr c7
                have c7b1 : ((rdOf ByteArray.empty l0 x5_1).toList != (rdOf ByteArray.empty l1 x5_1).toList) = true := bne_iff_ne.mpr c7
                obtain rfl := Option.some.inj H
                have p233 : 0 ≤ (x5_1 : Int) := of_decide_eq_true (by first | (with_reducible assumption) | assumption)
                have q233 : x5_1 < (l0.length : Int) := of_decide_eq_true (by first | (with_reducible assumption) | assumption)
                obtain ⟨ad233, e233, hx233_0⟩ := Kd.at_string HR0.out x5_1 p233 q233
                cases e233
                replace p233 := eq_true p233
                replace q233 := eq_true q233
                have p234 : 0 ≤ (x5_1 : Int) := of_decide_eq_true (by first | (with_reducible assumption) | assumption)
                have q234 : x5_1 < (l1.length : Int) := of_decide_eq_true (by first | (with_reducible assumption) | assumption)
                obtain ⟨ad234, e234, hx234_0⟩ := Kd.at_string HR1.out x5_1 p234 q234
                cases e234
                replace p234 := eq_true p234
                replace q234 := eq_true q234
                go_wp2
                repeat (go_quiet (fail); try go_wp2)
                go_ret
                exact ⟨by first | rfl | (simp; done) | (simp [*]; done), by repeat (first | exact Drawn0.refl _ | apply Drawn0.step)⟩
            · rw [if_neg c6] at H
              exact absurd H (by simp)
          · rw [if_neg c5] at H
            exact absurd H (by simp)
        · rw [if_neg c4] at H
          have c4b0 : decide (x5_1 < (l0.length : Int)) = false := decide_eq_false c4
          clear c4
          obtain rfl := Option.some.inj H
          go_wp2
          repeat (go_quiet (fail); try go_wp2)
          go_ret
          exact ⟨by first | rfl | (simp; done) | (simp [*]; done), by repeat (first | exact Drawn0.refl _ | apply Drawn0.step)⟩
  · rw [if_neg c3] at H
    have c3b0 : ((l0.length : Int) == (l1.length : Int)) = false := beq_eq_false_iff_ne.mpr c3
    have c3b1 : ((l0.length : Int) != (l1.length : Int)) = true := bne_iff_ne.mpr c3
    have c3b2 : (l0.length == l1.length) = false := by first | simpa using c3 | (simp at c3 ⊢; omega)
    obtain rfl := Option.some.inj H
    go_enter Try.func74, Try.ntmps74
    go_wp2
    repeat (go_quiet (fail); try go_wp2)
    go_ret
    exact ⟨by first | rfl | (simp; done) | (simp [*]; done), by repeat (first | exact Drawn0.refl _ | apply Drawn0.step)⟩
def colophonlaw16_name.f (a0 : Int) : Option (ByteArray) := (colophonref00_Bring.f a0 10).bind fun t235 => (some (strOfNums (([(wrap64 (97 + t235)) % 256] : List Int))))
set_option maxHeartbeats 8000000 in
set_option maxRecDepth 100000 in
theorem colophonlaw16_name.calls (a0 : Int) (r : ByteArray) (w : World) (h : colophonlaw16_name.f a0 = some r) :
    Calls Try.prog 45 #[.int .i64 a0] w fun e w' => e = .returned (.string r) ∧ Below w.heap.size w w' := by
  have HB := Aside0.mk (Below.refl w.heap.size w)
  have H : ((colophonref00_Bring.f a0 10).bind fun t235 => (some (strOfNums (([(wrap64 (97 + t235)) % 256] : List Int))))) = some r := h
  clear h
  replace H := Option.bind_eq_some_iff.mp H
  obtain ⟨t235, A20, H⟩ := H
  replace H : (some (strOfNums (([(wrap64 (97 + t235)) % 256] : List Int)))) = some r := H
  have A2 := Aside0.mk A20
  clear A20
  obtain ⟨y236, hy236⟩ : ∃ y_ : List Int, y_ = (([(wrap64 (97 + t235)) % 256] : List Int)) := ⟨_, rfl⟩
  replace H : (some (strOfNums y236)) = some r := by first | (rw [hy236]; with_reducible exact H) | (have H2_ := (Option.bind_some _ _).symm.trans H; rw [hy236]; with_reducible exact H2_) | (have H2_ := (Option.bind_some _ _).symm.trans H; with_reducible exact H2_) | with_reducible exact H | (rw [hy236]; exact H) | exact H
  have Ny236 := Aside0.mk hy236
  clear hy236
  obtain rfl := Option.some.inj H
  go_enter Try.func45, Try.ntmps45
  go_wp2_with (first | ((with_reducible refine gate_callee (f := 29) rfl ?_); refine goesL_ (some 4) rfl rfl Try.func29 (by kernel_rfl) rfl #[.int .i64 a0, .int .i64 10] rfl (by (try simp only [List.map_toArray, List.map_cons, List.map_nil]); first | done | rfl | (simp only [List.length_drop, List.length_take]; rfl)) ?_; (with_reducible refine (colophonref00_Bring.calls a0 10 t235 _ A2.out).mono ?_); rintro e w' ⟨rfl, ⟨nd, rfl⟩⟩; refine ⟨_, rfl, ?_⟩) | ((with_reducible refine gate_dst (N := 7) rfl ?_); refine Kd.R_lit (Kd.int .u8) _ 5 ?hg (N := 7) ?hd (xs := ([(wrap64 (97 + t235)) % 256] : List Int)) (inner := [.int .u8 ((wrap64 (97 + t235)) % 256)]) (ok := fun _ => True) (okp := fun _ => True) ?hr ?hp (fun _ hk => hk) trivial (Below.refl _ _) (Nat.le_refl _) (by simp) ?_; (case hd => rfl); (case hg => rfl); (case hr => first | (go_simp; done) | (go_simp; rfl)); (case hp => exact (Reps.one (show Kd.M (Kd.int .u8) _ _ _ ((wrap64 (97 + t235)) % 256) [.int .u8 ((wrap64 (97 + t235)) % 256)] from rfl) (Reps.none _ _))); intro v237 w3 ho4 hb hg_ hnew_; clear hg_ hnew_; (first | rw [← Ny236.out] at ho4 | (simp only [Int.reduceToNat] at ho4; rw [← Ny236.out] at ho4)); have n0_ := Aside0.mk (Kd.R_lower ho4 (below_size (by repeat (first | (with_reducible first | exact HB.out | apply below_alloc | apply pw_below_drewN | apply below_drew1) | exact HB.out)))); have n1_ := Aside0.mk (below_step (by repeat (first | (with_reducible first | exact HB.out | apply below_alloc | apply pw_below_drewN | apply below_drew1) | exact HB.out)) hb); clear HB; have HO238 := n0_; have HB := n1_; clear n0_ n1_; clear hb ho4; have hcv5 := own_string (P := Try.prog) Try.underlying22 Try.underlying5 Try.underlying9 (Kd.own_of_R HO238.out)))
  go_ret
  exact ⟨by first | rfl | (simp [errW_none, errW_some] <;> rfl) | (simp [*, errW_none, errW_some] <;> rfl), by repeat (first | (with_reducible first | exact HB.out | apply below_alloc | apply pw_below_drewN | apply below_drew1) | exact HB.out)⟩
def colophonlaw16_whole.f (a0 : ByteArray) : Option ((List (S29))) := some (([(⟨true, (⟨(⟨0, 0⟩ : S25), (⟨0, 0⟩ : S25)⟩ : S27), a0⟩ : S29)] : List (S29)))
set_option maxHeartbeats 8000000 in
set_option maxRecDepth 100000 in
theorem colophonlaw16_whole.calls (a0 : ByteArray) (r : List (S29)) (w : World) (h : colophonlaw16_whole.f a0 = some r) :
    Calls Try.prog 50 #[.string a0] w fun e w' => ∃ v0_ : Value, e = .returned (v0_) ∧ Kd.R k29 29 w' w.heap.size (fun _ => True) v0_ r ∧ Below w.heap.size w w' := by
  have hu29 := Try.underlying29
  have HB := Aside0.mk (Below.refl w.heap.size w)
  have H : (some (([(⟨true, (⟨(⟨0, 0⟩ : S25), (⟨0, 0⟩ : S25)⟩ : S27), a0⟩ : S29)] : List (S29)))) = some r := h
  clear h
  obtain ⟨y239, hy239⟩ : ∃ y_ : List (S29), y_ = (([(⟨true, (⟨(⟨0, 0⟩ : S25), (⟨0, 0⟩ : S25)⟩ : S27), a0⟩ : S29)] : List (S29))) := ⟨_, rfl⟩
  replace H : (some y239) = some r := by first | (rw [hy239]; with_reducible exact H) | (have H2_ := (Option.bind_some _ _).symm.trans H; rw [hy239]; with_reducible exact H2_) | (have H2_ := (Option.bind_some _ _).symm.trans H; with_reducible exact H2_) | with_reducible exact H | (rw [hy239]; exact H) | exact H
  have Ny239 := Aside0.mk hy239
  clear hy239
  obtain rfl := Option.some.inj H
  go_enter Try.func50, Try.ntmps50
  go_wp2_with (first | ((with_reducible refine gate_dst (N := 5) rfl ?_); refine Kd.R_lit k29 _ 29 ?hg (N := 5) ?hd (xs := ([(⟨true, (⟨(⟨0, 0⟩ : S25), (⟨0, 0⟩ : S25)⟩ : S27), a0⟩ : S29)] : List (S29))) (inner := [.bool true, .int .i64 0, .int .i64 0, .int .i64 0, .int .i64 0, .string a0]) (ok := fun _ => True) (okp := fun _ => True) ?hr ?hp (fun _ hk => hk) trivial (Below.refl _ _) (Nat.le_refl _) (by simp) ?_; (case hd => rfl); (case hg => rfl); (case hr => first | (go_simp; done) | (go_simp; rfl)); (case hp => exact (Reps.c6 (show Kd.M k29 _ _ _ (⟨true, (⟨(⟨0, 0⟩ : S25), (⟨0, 0⟩ : S25)⟩ : S27), a0⟩ : S29) [.bool true, .int .i64 0, .int .i64 0, .int .i64 0, .int .i64 0, .string a0] from (k29_mkM _ _ _ (⟨true, (⟨(⟨0, 0⟩ : S25), (⟨0, 0⟩ : S25)⟩ : S27), a0⟩ : S29) )) (Reps.none _ _))); intro v240 w2 ho3 hb hg_ hnew_; clear hg_ hnew_; (first | rw [← Ny239.out] at ho3 | (simp only [Int.reduceToNat] at ho3; rw [← Ny239.out] at ho3)); have n0_ := Aside0.mk (Kd.R_lower ho3 (below_size (by repeat (first | (with_reducible first | exact HB.out | apply below_alloc | apply pw_below_drewN | apply below_drew1) | exact HB.out)))); have n1_ := Aside0.mk (below_step (by repeat (first | (with_reducible first | exact HB.out | apply below_alloc | apply pw_below_drewN | apply below_drew1) | exact HB.out)) hb); clear HB; have HO241 := n0_; have HB := n1_; clear n0_ n1_; clear hb ho3))
  go_ret
  exact ⟨_, by first | rfl | (simp [errW_none, errW_some] <;> rfl) | (simp [*, errW_none, errW_some] <;> rfl), by (with_reducible repeat (first | apply Kd.R_alloc | apply Kd.R_drewN | apply Kd.R_drew)); exact HO241.out, by repeat (first | (with_reducible first | exact HB.out | apply below_alloc | apply pw_below_drewN | apply below_drew1) | exact HB.out)⟩
end Go.Proofs.Ytjebkpcekkkbkaa.FBase
namespace Go.Proofs.Ytjebkpcekkkbkaa.B
open Go.RowKit Go.ChangeShapes Go.WideShapes Go.Joins Go.Deep Go.Proofs.YtjebkpcekkkbkaaW.PrintWords Go.Proofs.Ytjebkpcekkkbkaa.FBase
section
variable {H : Type} {enc : TypeId × Value → H} {P : Program} {W : World} {base : Nat} {spare : Nat → Bool} {held : Bool} {r : Reach} {b0 : Nat}
theorem trod_two {tp : TypeId} {g0 g1 : Field} (hp : P.underlying tp = some (.struct #[g0, g1])) (i0 : P.underlying g0.type = some (.int .i64)) (i1 : P.underlying g1.type = some (.int .i64)) (p0 : g0.offset = 0) (p1 : g1.offset = 1) (k0 : P.cellsOf g0.type = 1) (k1 : P.cellsOf g1.type = 1) (hC : P.cellsOf tp = 2)
    {fuel : Nat} {cs : List Value} {x : DataW H × List MemPlace} (h : DataW.trod enc P W base spare held fuel tp cs = some x) :
    ∃ x0 x1 : Int, cs = [.int .i64 x0, .int .i64 x1] ∧ x = (.agg [.lit (.int .i64 x0), .lit (.int .i64 x1)], []) ∧ (Lit.int .i64 x0).wf = true ∧ (Lit.int .i64 x1).wf = true := by
  obtain ⟨y0, y1, n, hx, hl, h0, h1⟩ := trod_struct2 hp h
  match cs, hl.trans hC with
  | [c0, c1], _ =>
    simp [k0, k1, p0, p1] at h0 h1
    obtain ⟨x0, e0, rfl, w0⟩ := DataW.trod_int i0 h0
    obtain ⟨x1, e1, rfl, w1⟩ := DataW.trod_int i1 h1
    cases e0
    cases e1
    exact ⟨x0, x1, rfl, by simpa using hx, w0, w1⟩
theorem trod_four {tr tp : TypeId} {f0 f1 g0 g1 : Field} (hr : P.underlying tr = some (.struct #[f0, f1])) (e0 : f0.type = tp) (e1 : f1.type = tp) (o0 : f0.offset = 0) (o1 : f1.offset = 2) (hR : P.cellsOf tr = 4)
    (hp : P.underlying tp = some (.struct #[g0, g1])) (i0 : P.underlying g0.type = some (.int .i64)) (i1 : P.underlying g1.type = some (.int .i64)) (p0 : g0.offset = 0) (p1 : g1.offset = 1) (k0 : P.cellsOf g0.type = 1) (k1 : P.cellsOf g1.type = 1) (hC : P.cellsOf tp = 2)
    {fuel : Nat} {cs : List Value} {x : DataW H × List MemPlace} (h : DataW.trod enc P W base spare held fuel tr cs = some x) :
    ∃ x0 x1 x2 x3 : Int, cs = [.int .i64 x0, .int .i64 x1, .int .i64 x2, .int .i64 x3] ∧ x.2 = [] ∧ (Lit.int .i64 x0).wf = true ∧ (Lit.int .i64 x1).wf = true ∧ (Lit.int .i64 x2).wf = true ∧ (Lit.int .i64 x3).wf = true := by
  obtain ⟨y0, y1, n, hx, hl, h0, h1⟩ := trod_struct2 hr h
  rw [e0] at h0
  rw [e1] at h1
  match cs, hl.trans hR with
  | [c0, c1, c2, c3], _ =>
    simp [o0, o1, hC] at h0 h1
    obtain ⟨x0, x1, e0, rfl, w0, w1⟩ := trod_two hp i0 i1 p0 p1 k0 k1 hC h0
    obtain ⟨x2, x3, e1, rfl, w2, w3⟩ := trod_two hp i0 i1 p0 p1 k0 k1 hC h1
    cases e0
    cases e1
    exact ⟨x0, x1, x2, x3, rfl, by rw [hx]; rfl, w0, w1, w2, w3⟩
theorem trod_edit_of {te tr tp : TypeId} {u0 u1 u2 f0 f1 g0 g1 : Field} (he : P.underlying te = some (.struct #[u0, u1, u2])) (hE : P.cellsOf te = 6) (a0 : u0.offset = 0) (a1 : u1.offset = 1) (a2 : u2.offset = 5) (b0 : P.underlying u0.type = some .bool) (b1 : u1.type = tr) (b2 : P.underlying u2.type = some .string) (c0 : P.cellsOf u0.type = 1) (c2 : P.cellsOf u2.type = 1)
    (hr : P.underlying tr = some (.struct #[f0, f1])) (e0 : f0.type = tp) (e1 : f1.type = tp) (o0 : f0.offset = 0) (o1 : f1.offset = 2) (hR : P.cellsOf tr = 4)
    (hp : P.underlying tp = some (.struct #[g0, g1])) (i0 : P.underlying g0.type = some (.int .i64)) (i1 : P.underlying g1.type = some (.int .i64)) (p0 : g0.offset = 0) (p1 : g1.offset = 1) (k0 : P.cellsOf g0.type = 1) (k1 : P.cellsOf g1.type = 1) (hC : P.cellsOf tp = 2)
    {fuel : Nat} {cs : List Value} {x : DataW H × List MemPlace} (h : DataW.trod enc P W base spare held fuel te cs = some x) :
    ∃ (b : Bool) (x0 x1 x2 x3 : Int) (s : ByteArray) (y : DataW H), cs = [.bool b, .int .i64 x0, .int .i64 x1, .int .i64 x2, .int .i64 x3, .string s] ∧ x = (.agg [.lit (.bool b), y, .lit (.string s.data.toList)], []) ∧
      (Lit.int .i64 x0).wf = true ∧ (Lit.int .i64 x1).wf = true ∧ (Lit.int .i64 x2).wf = true ∧ (Lit.int .i64 x3).wf = true ∧ s.size ≤ maxLen := by
  obtain ⟨y0, y1, y2, n, hx, hl, h0, h1, h2⟩ := trod_struct3 he h
  rw [b1] at h1
  match cs, hl.trans hE with
  | [v0, v1, v2, v3, v4, v5], _ =>
    simp [a0, a1, a2, c0, c2, hR] at h0 h1 h2
    obtain ⟨b, q0, rfl⟩ := DataW.trod_bool b0 h0
    obtain ⟨x0, x1, x2, x3, q1, hy, w0, w1, w2, w3⟩ := trod_four hr e0 e1 o0 o1 hR hp i0 i1 p0 p1 k0 k1 hC h1
    obtain ⟨s, q2, rfl, hs⟩ := DataW.trod_string b2 h2
    cases q0
    cases q1
    cases q2
    refine ⟨b, x0, x1, x2, x3, s, y1.1, rfl, ?_, w0, w1, w2, w3, hs⟩
    rw [hx, hy]
    simp
theorem trod_edit {fuel : Nat} {cs : List Value} {x : DataW H × List MemPlace} (h : DataW.trod enc Try.prog W base spare held fuel 29 cs = some x) :
    ∃ (b : Bool) (x0 x1 x2 x3 : Int) (s : ByteArray) (y : DataW H), cs = [.bool b, .int .i64 x0, .int .i64 x1, .int .i64 x2, .int .i64 x3, .string s] ∧ x = (.agg [.lit (.bool b), y, .lit (.string s.data.toList)], []) ∧
      (Lit.int .i64 x0).wf = true ∧ (Lit.int .i64 x1).wf = true ∧ (Lit.int .i64 x2).wf = true ∧ (Lit.int .i64 x3).wf = true ∧ s.size ≤ maxLen :=
  trod_edit_of Try.underlying29 (by kernel_rfl) rfl rfl rfl Try.underlying4 rfl Try.underlying9 (by kernel_rfl) (by kernel_rfl) Try.underlying27 rfl rfl rfl rfl (by kernel_rfl) Try.underlying25 Try.underlying3 Try.underlying3 rfl rfl (by kernel_rfl) (by kernel_rfl) (by kernel_rfl) h
end
end Go.Proofs.Ytjebkpcekkkbkaa.B
namespace Go.Proofs.Ytjebkpcekkkbkaa.B
open Go.RowKit Go.ChangeShapes Go.WideShapes Go.Joins Go.Deep Go.Proofs.YtjebkpcekkkbkaaW.PrintWords Go.Proofs.Ytjebkpcekkkbkaa.FBase
def IsEds (W : World) (E : Option Addr) (len cap : Nat) (es : List S29) : Prop :=
  es.length = len ∧ len ≤ cap ∧ len ≤ 1048576 ∧ (E = none → cap = 0) ∧ Kd.C k29 W E es.length es ∧ ∀ x ∈ es, x.f2.size ≤ 1048576 ∧ x.f1.f0.f1 ≤ 9223372036854775807 ∧ x.f1.f1.f1 ≤ 9223372036854775807
section
variable {H : Type} {enc : TypeId × Value → H} {W : World} {base : Nat} {spare : Nat → Bool} {held : Bool}
theorem addr_add (a : Addr) (i j : Nat) : (a.add i).add j = a.add (i + j) := Go.Deep.add_add a i j
set_option maxRecDepth 100000 in
theorem open_eds {fuel : Nat} {E : Option Addr} {len cap : Nat} {x : DataW H × List MemPlace} (h : DataW.trod enc Try.prog W base spare held fuel 47 [.slice E len cap] = some x) (hk : Rows.uptoBulk x.1 ≤ 1048576) :
    ∃ es, IsEds W E len cap es := by
  rcases open_slice Try.underlying47 h with ⟨hcs, _⟩ | ⟨a, len', cap', m, n, D, Pl, hcs, hb, hl, hm, hmm, rfl, hx⟩
  · obtain ⟨rfl, rfl, rfl⟩ : E = none ∧ len = 0 ∧ cap = 0 := by simpa using hcs
    exact ⟨[], rfl, Nat.le_refl _, by decide, fun _ => rfl, Kd.C_nil _ _, fun x hx => nomatch hx⟩
  · obtain ⟨rfl, rfl, rfl⟩ : E = some a ∧ len = len' ∧ cap = cap' := by simpa using hcs
    clear hcs
    have hlm : len ≤ m := by rw [hmm]; split <;> omega
    have h6 : Try.prog.cellsOf 29 = 6 := by kernel_rfl
    have hsl := bulks.slice_le (H := H) ((List.range len).map D) ((List.range (m - len)).map fun j => D (len + j))
    have hse := bulks.slice_elems (H := H) ((List.range len).map D) ((List.range (m - len)).map fun j => D (len + j))
    simp only [List.length_map, List.length_range] at hsl
    have key : ∀ i, i < len → ∃ x : S29, (∀ j u, [Value.bool x.f0, .int .i64 x.f1.f0.f0, .int .i64 x.f1.f0.f1, .int .i64 x.f1.f1.f0, .int .i64 x.f1.f1.f1, .string x.f2][j]? = some u → W.cell? (a.add (i * 6 + j)) = some u) ∧ x.f2.size ≤ 1048576 ∧ x.f1.f0.f1 ≤ 9223372036854775807 ∧ x.f1.f1.f1 ≤ 9223372036854775807 := by
      intro i hi
      obtain ⟨cs', h1, h2⟩ := hx i (by omega)
      obtain ⟨b, x0, x1, x2, x3, s, y, rfl, hd, w0, w1, w2, w3, hs⟩ := trod_edit h2
      obtain ⟨_, hlen, hcell⟩ := World.cells?_some h1
      refine ⟨⟨b, ⟨⟨x0, x1⟩, ⟨x2, x3⟩⟩, s⟩, fun j u hj => ?_, ?_, (int_wf w1).2, (int_wf w3).2⟩
      · have hj6 : j < 6 := by
          have := (List.getElem?_eq_some_iff.1 hj).1
          simpa using this
        have := hcell j (by rw [h6]; exact hj6)
        rw [addr_add, h6] at this
        rw [this]
        exact hj
      · have hD : D i ∈ (List.range len).map D := List.mem_map.2 ⟨i, List.mem_range.2 hi, rfl⟩
        have p1 := bulks.part_le hD
        rw [(Prod.mk.inj hd).1] at p1
        have p2 : Rows.uptoBulkAll [DataW.lit (H := H) (.bool b), y, .lit (.string s.data.toList)] ≤ Rows.uptoBulk (.agg [DataW.lit (H := H) (.bool b), y, .lit (.string s.data.toList)]) := by simp [Rows.uptoBulk]
        have p3 := bulks.part_le (H := H) (d := .lit (.string s.data.toList)) (l := [DataW.lit (H := H) (.bool b), y, .lit (.string s.data.toList)]) (by simp)
        rw [bulks.string_eq] at p3
        have p4 : s.data.toList.length = s.size := Array.length_toList
        simp only at hk
        show s.size ≤ 1048576
        omega
    haveI : Inhabited S29 := ⟨z29⟩
    obtain ⟨V, hV⟩ := choose_lt key
    have hel : ((List.range len).map V).length = len := by simp
    refine ⟨(List.range len).map V, hel, hl, by simp only at hk; omega, fun e => (by cases e), ⟨rfl, by rw [hel]; unfold maxLen at hm; omega, fun _ => ⟨a, rfl, fun j p hj => ?_⟩⟩, fun x hxm => ?_⟩
    · obtain ⟨hj1, rfl⟩ := List.getElem?_eq_some_iff.1 hj
      have hj2 : j < len := by simpa using hj1
      refine ⟨_, ?_, k29_mk W _, fun i u hu => ?_⟩
      · rfl
      · simp only [List.getElem_map, List.getElem_range] at hu
        exact (hV j hj2).1 i u hu
    · obtain ⟨i, hi, rfl⟩ := List.mem_map.1 hxm
      exact (hV i (List.mem_range.1 hi)).2
end
end Go.Proofs.Ytjebkpcekkkbkaa.B
namespace Go.Proofs.Ytjebkpcekkkbkaa.B
open Go.RowKit Go.Proofs.YtjebkpcekkkbkaaW.PrintWords Go.Proofs.YtjebkpcekkkbkaaW.PrintLast Go.Proofs.YtjebkpcekkkbkaaW.PrintMore Go.Proofs.Ytjebkpcekkkbkaa.FBase
def lns : List Int → Int → Int → List Ln
  | [], fr, i => [⟨fr, i, i⟩]
  | b :: r, fr, i =>
    if b = 10 then ⟨fr, i, i + 1⟩ :: lns r (i + 1) (i + 1)
    else if b = 13 then
      if r.head? = some 10 then ⟨fr, i, i + 2⟩ :: lns r.tail (i + 2) (i + 2) else ⟨fr, i, i + 1⟩ :: lns r (i + 1) (i + 1)
    else lns r fr (i + 1)
termination_by l => l.length
decreasing_by all_goals (simp; try omega)
theorem lns_drop (l : List Int) (fr i : Int) (h0 : 0 ≤ i) (h1 : i < l.length) : lns (l.drop i.toNat) fr i =
    if rd l i = 10 then ⟨fr, i, i + 1⟩ :: lns (l.drop (i + 1).toNat) (i + 1) (i + 1)
    else if rd l i = 13 then
      if i + 1 < l.length ∧ rd l (i + 1) = 10 then ⟨fr, i, i + 2⟩ :: lns (l.drop (i + 2).toNat) (i + 2) (i + 2) else ⟨fr, i, i + 1⟩ :: lns (l.drop (i + 1).toNat) (i + 1) (i + 1)
    else lns (l.drop (i + 1).toNat) fr (i + 1) := by
  obtain ⟨n, rfl⟩ := Int.eq_ofNat_of_zero_le h0
  have hn : n < l.length := by omega
  have e1 : ((n : Int) + 1).toNat = n + 1 := by omega
  have e2 : ((n : Int) + 2).toNat = n + 2 := by omega
  rw [e1, e2, Int.toNat_natCast, List.drop_eq_getElem_cons hn, lns]
  have hr : rd l (n : Int) = l[n] := by simp [rd, List.getD, hn]
  rw [hr, List.tail_drop]
  have hh : (l.drop (n + 1)).head? = some 10 ↔ ((n : Int) + 1 < l.length ∧ rd l ((n : Int) + 1) = 10) := by
    rw [List.head?_drop]
    constructor
    · intro h
      obtain ⟨h2, h3⟩ := List.getElem?_eq_some_iff.1 h
      exact ⟨by omega, by simp [rd, List.getD, e1, h2, h3]⟩
    · rintro ⟨h2, h3⟩
      have h4 : n + 1 < l.length := by omega
      rw [List.getElem?_eq_getElem h4]
      simp [rd, List.getD, e1, h4] at h3
      rw [h3]
  simp only [hh]
structure Made (w W : World) (g : Nat) (l : List Int) (fr i : Int) : Prop where
  bel : Below w.heap.size w W
  new : w.heap.size ≤ g
  own : ∃ A c acc, W.heap[g]? = some (.cells #[.slice A acc.length c] 148 (0, 0)) ∧ Kd.R kLn 150 W w.heap.size (fun k => some k ≠ some g) (.slice A acc.length c) acc ∧ acc ++ lns (l.drop i.toNat) fr i = lns l 0 0 ∧ (acc.length : Int) ≤ i
theorem acc_step (acc r : List Ln) (x : Ln) (t : List Ln) (h : acc ++ (x :: r) = t) : (acc ++ [x]) ++ r = t := by simpa using h
theorem Made.after {w w1 : World} {g : Nat} {l : List Int} {fr' i' : Int} {A2 : Option Addr} {c2 : Nat} {acc : List Ln} {x : Ln} {cs : Array Value}
    (hnew : w.heap.size ≤ g) (hb : Below w.heap.size w w1) (hblk : w1.heap[g]? = some (.cells cs 148 (0, 0))) (hcs : cs.size = 1)
    (ho : Kd.R kLn 150 w1 w.heap.size (fun k => some k ≠ some g) (.slice A2 (acc ++ [x]).length c2) (acc ++ [x])) (hl : (acc ++ [x]) ++ lns (l.drop i'.toNat) fr' i' = lns l 0 0) (ha : (acc.length : Int) + 1 ≤ i') :
    Made w (w1.setCell ⟨g, 0, none⟩ (.slice A2 (acc.length + 1) c2)) g l fr' i' := by
  rw [show acc.length + 1 = (acc ++ [x]).length by simp]
  refine ⟨hb.setCell hnew _, hnew, A2, c2, acc ++ [x], ?_, Kd.R_far (p := ⟨g, 0, none⟩) ho (fun k hk e => hk (by rw [e])) _, hl, by simp; omega⟩
  rw [blk_set hblk]
  congr 2
  obtain ⟨a, rfl⟩ : ∃ a, cs = #[a] := by
    match cs, hcs with
    | ⟨[a]⟩, _ => exact ⟨a, rfl⟩
  rfl
def FromBase (base : Nat) (W : World) (F : World → Prop) : Prop := ∀ W1 : World, (∀ k, base ≤ k → k < W.heap.size → W1.heap[k]? = W.heap[k]?) → F W1
theorem FromBase.now {base : Nat} {W : World} {F : World → Prop} (h : FromBase base W F) : F W := h W (fun _ _ _ => rfl)
theorem FromBase.step {base : Nat} {W W1 : World} {F : World → Prop} (h : FromBase base W F) (hm : ∀ k, base ≤ k → k < W.heap.size → W1.heap[k]? = W.heap[k]?) : FromBase base W1 F := fun W2 h2 =>
  h W2 (fun k hk hlt => (h2 k hk (by
    have e := hm k hk hlt
    rw [Array.getElem?_eq_getElem hlt] at e
    exact blk_lt e)).trans (hm k hk hlt))
theorem FromBase.below {base : Nat} {W W1 : World} {F : World → Prop} (h : FromBase base W F) (hb : Below W.heap.size W W1) : FromBase base W1 F := h.step (fun k _ hlt => hb.block k hlt)
theorem idx_from {base g c : Nat} {W : World} {A : Option Addr} {L : List Ln} {ok : Nat → Prop} (hg : base ≤ g) (hb : W.heap[g]? = some (.cells #[.slice A L.length c] 148 (0, 0)))
    (hR : Kd.R kLn 150 W base ok (.slice A L.length c) L) : FromBase base W (fun W => IsIdx W g L) := by
  intro W1 hW1
  have h2 := Kd.R_move (Kd.R_bound hR) (fun k hk => hW1 k hk.2.1 hk.2.2.1)
  obtain ⟨_, hcap, hC⟩ := Kd.R_reads' h2
  exact ⟨A, c, (hW1 g hg (blk_lt hb)).trans hb, hcap, hC⟩
set_option maxHeartbeats 4000000 in
set_option maxRecDepth 100000 in
theorem New_all (k : Nat) (A : Option Addr) (c : Nat) (l : List Int) (r1 : Int) (w : World) (hr : Kd.C (Kd.int .u8) w A l.length l) (hc : l.length ≤ c) (h : runes_Check.f k l = some (r1, 0)) (hs : l.length ≤ 1048576) :
    Calls Try.prog 60 #[.slice A l.length c] w fun e w' => ∃ a, e = .returned (.tuple #[.pointer (some ⟨a, 0, none⟩), .int .i64 0]) ∧ w.heap.size ≤ a ∧ FromBase w.heap.size w' (fun W => IsIdx W a (lns l 0 0)) ∧ Below w.heap.size w w' := by
  have HR := Aside0.mk hr
  have HC := Aside0.mk hc
  have H := Aside0.mk h
  clear hr hc h
  go_enter Try.func60, Try.ntmps60
  go_wp2_with (go_at_call 58; refine (runes_Check.calls k _ _ l r1 0 _ HR.out HC.out H.out).mono ?_; rintro e w' ⟨rfl, n, rfl⟩)
  have M0 : Made w ((w.drewN n).alloc (Obj.cells #[Value.slice none 0 0] 148)) w.heap.size l 0 0 :=
    ⟨below_alloc (pw_below_drewN (Below.refl _ _) _) _, Nat.le_refl _, none, 0, [], blk_new (w.drewN n) _, Kd.R_nil _ _ _ _ _, by simp, by simp⟩
  have HM := Aside0.mk M0
  clear M0 H
  obtain ⟨g, hg0⟩ : ∃ g, w.heap.size = g := ⟨_, rfl⟩
  have HG := Aside0.mk hg0
  rw [hg0] at HM ⊢
  clear hg0
  generalize ((w.drewN n).alloc (Obj.cells #[Value.slice none 0 0] 148)) = W0 at HM ⊢
  go_loopw [7, 8] (fun s7 s8 W => ∃ fr i : Int, s7 = .int .i64 fr ∧ s8 = .int .i64 i ∧ 0 ≤ i ∧ i ≤ l.length ∧ Aside0 (Made w W g l fr i)) (fun _ s8 _ => l.length - (intOf s8).toNat)
  case atStart => exact ⟨0, 0, rfl, rfl, by omega, by omega, HM⟩
  case round =>
    clear HM
    obtain ⟨fr, i, rfl, rfl, hi0, hi1, HM⟩ := hrel
    obtain ⟨hbel, hnew, A1, c1, acc, hb, HO, hl, ha⟩ := HM.out
    clear HM
    have HO := Aside0.mk HO
    have HBL := Aside0.mk hb
    have Ha := Aside0.mk ha
    have hc1 : wr.cell? ⟨g, 0, none⟩ = some (.slice A1 acc.length c1) := (blk_cell hb 0).trans rfl
    clear ha hb
    by_cases hlt : i < (l.length : Int)
    · obtain ⟨ad, e, hx⟩ := Kd.at_int HR.out i hi0 hlt
      cases e
      have hxi := (hbel.cell (World.block_lt_of_cell? w _ hx)).trans hx
      have HB := Aside0.mk hbel
      clear hbel hx
      rw [lns_drop l fr i hi0 hlt] at hl
      by_cases h10 : rd l i = 10
      · rw [if_pos h10] at hl
        have Hl := Aside0.mk (acc_step _ _ _ _ hl)
        clear hl
        rw [h10] at hxi
        go_wp2_with (at_builtin; refine Kd.R_append kLn (w0 := w) w.heap.size rfl (.tmp 67) (.tmp 73) 146 150 (.agg #[.int .i64 0, .int .i64 0, .int .i64 0]) 24 rfl Try.underlying146 infoLn rfl (by decide) (by omega) (.slice A1 acc.length c1) acc ⟨fr, i, i + 1⟩ [.int .i64 fr, .int .i64 (i), .int .i64 (i + 1)] (fun k => some k ≠ some g) (fun _ => False) rfl rfl (kLn_mkM _ _ _ ⟨fr, i, i + 1⟩) (fun _ h => h.elim) ?aF ?aO ?aB ?aS ?aL ?_; (case aF => intro k hk e; have := blk_lt HBL.out; injection e with e; first | omega | (simp at hk; omega)); (case aO => (with_reducible repeat (first | apply Kd.R_alloc | apply Kd.R_drewN | apply Kd.R_drew)); exact HO.out); (case aB => repeat (first | exact HB.out | apply pw_below_drewN | apply below_drew1)); (case aS => exact HB.out.size); (case aL => have := Ha.out; omega); intro v1 w1 ho hb hg hat; obtain ⟨A2, c2, rfl⟩ := Kd.R_slice ho; have hbl1 := blk_grown HBL.out hg (fun e => HO.out.1 g e.symm rfl); have hc2 : w1.cell? ⟨g, 0, none⟩ = some (.slice A1 acc.length c1) := (blk_cell hbl1 0).trans rfl; have hf2 := blk_frozen hbl1 0; have HO2 := Aside0.mk ho; have HB2 := Aside0.mk hb; have HBL2 := Aside0.mk hbl1; clear ho hb hg hat hbl1)
        go_roundw
        case measure => simp [intOf]; omega
        case rel => exact ⟨i + 1, i + 1, rfl, rfl, by omega, by omega, ⟨Made.after hnew HB2.out HBL2.out rfl HO2.out Hl.out (by have := Ha.out; omega)⟩⟩
      · rw [if_neg h10] at hl
        have b10 : (rd l i != 10) = true := bne_iff_ne.mpr h10
        by_cases h13 : rd l i = 13
        · rw [if_pos h13] at hl
          clear b10
          rw [h13] at hxi
          by_cases h2 : i + 1 < (l.length : Int)
          · obtain ⟨ad2, e2, hx2⟩ := Kd.at_int HR.out (i + 1) (by omega) h2
            cases e2
            have hxj := (HB.out.cell (World.block_lt_of_cell? w _ hx2)).trans hx2
            clear hx2
            have p2 : 0 ≤ i + 1 := by omega
            by_cases h3 : rd l (i + 1) = 10
            · rw [if_pos ⟨h2, h3⟩] at hl
              have Hl := Aside0.mk (acc_step _ _ _ _ hl)
              clear hl
              rw [h3] at hxj
              go_wp2_with (at_builtin; refine Kd.R_append kLn (w0 := w) w.heap.size rfl (.tmp 67) (.tmp 73) 146 150 (.agg #[.int .i64 0, .int .i64 0, .int .i64 0]) 24 rfl Try.underlying146 infoLn rfl (by decide) (by omega) (.slice A1 acc.length c1) acc ⟨fr, i, i + 1 + 1⟩ [.int .i64 fr, .int .i64 (i), .int .i64 (i + 1 + 1)] (fun k => some k ≠ some g) (fun _ => False) rfl rfl (kLn_mkM _ _ _ ⟨fr, i, i + 1 + 1⟩) (fun _ h => h.elim) ?aF ?aO ?aB ?aS ?aL ?_; (case aF => intro k hk e; have := blk_lt HBL.out; injection e with e; first | omega | (simp at hk; omega)); (case aO => (with_reducible repeat (first | apply Kd.R_alloc | apply Kd.R_drewN | apply Kd.R_drew)); exact HO.out); (case aB => repeat (first | exact HB.out | apply pw_below_drewN | apply below_drew1)); (case aS => exact HB.out.size); (case aL => have := Ha.out; omega); intro v1 w1 ho hb hg hat; obtain ⟨A2, c2, rfl⟩ := Kd.R_slice ho; have hbl1 := blk_grown HBL.out hg (fun e => HO.out.1 g e.symm rfl); have hc2 : w1.cell? ⟨g, 0, none⟩ = some (.slice A1 acc.length c1) := (blk_cell hbl1 0).trans rfl; have hf2 := blk_frozen hbl1 0; have HO2 := Aside0.mk ho; have HB2 := Aside0.mk hb; have HBL2 := Aside0.mk hbl1; clear ho hb hg hat hbl1)
              go_roundw
              case measure => simp [intOf]; omega
              case rel => exact ⟨i + 1 + 1, i + 1 + 1, rfl, rfl, by omega, by omega, ⟨Made.after hnew HB2.out HBL2.out rfl HO2.out (by rw [show i + 1 + 1 = i + 2 by omega]; exact Hl.out) (by have := Ha.out; omega)⟩⟩
            · rw [if_neg (fun h => h3 h.2)] at hl
              have Hl := Aside0.mk (acc_step _ _ _ _ hl)
              have b3 : (rd l (i + 1) == 10) = false := beq_eq_false_iff_ne.mpr h3
              clear hl
              go_wp2_with (at_builtin; refine Kd.R_append kLn (w0 := w) w.heap.size rfl (.tmp 67) (.tmp 73) 146 150 (.agg #[.int .i64 0, .int .i64 0, .int .i64 0]) 24 rfl Try.underlying146 infoLn rfl (by decide) (by omega) (.slice A1 acc.length c1) acc ⟨fr, i, i + 1⟩ [.int .i64 fr, .int .i64 (i), .int .i64 (i + 1)] (fun k => some k ≠ some g) (fun _ => False) rfl rfl (kLn_mkM _ _ _ ⟨fr, i, i + 1⟩) (fun _ h => h.elim) ?aF ?aO ?aB ?aS ?aL ?_; (case aF => intro k hk e; have := blk_lt HBL.out; injection e with e; first | omega | (simp at hk; omega)); (case aO => (with_reducible repeat (first | apply Kd.R_alloc | apply Kd.R_drewN | apply Kd.R_drew)); exact HO.out); (case aB => repeat (first | exact HB.out | apply pw_below_drewN | apply below_drew1)); (case aS => exact HB.out.size); (case aL => have := Ha.out; omega); intro v1 w1 ho hb hg hat; obtain ⟨A2, c2, rfl⟩ := Kd.R_slice ho; have hbl1 := blk_grown HBL.out hg (fun e => HO.out.1 g e.symm rfl); have hc2 : w1.cell? ⟨g, 0, none⟩ = some (.slice A1 acc.length c1) := (blk_cell hbl1 0).trans rfl; have hf2 := blk_frozen hbl1 0; have HO2 := Aside0.mk ho; have HB2 := Aside0.mk hb; have HBL2 := Aside0.mk hbl1; clear ho hb hg hat hbl1)
              go_roundw
              case measure => simp [intOf]; omega
              case rel => exact ⟨i + 1, i + 1, rfl, rfl, by omega, by omega, ⟨Made.after hnew HB2.out HBL2.out rfl HO2.out Hl.out (by have := Ha.out; omega)⟩⟩
          · rw [if_neg (fun h => h2 h.1)] at hl
            have Hl := Aside0.mk (acc_step _ _ _ _ hl)
            clear hl
            go_wp2_with (at_builtin; refine Kd.R_append kLn (w0 := w) w.heap.size rfl (.tmp 67) (.tmp 73) 146 150 (.agg #[.int .i64 0, .int .i64 0, .int .i64 0]) 24 rfl Try.underlying146 infoLn rfl (by decide) (by omega) (.slice A1 acc.length c1) acc ⟨fr, i, i + 1⟩ [.int .i64 fr, .int .i64 (i), .int .i64 (i + 1)] (fun k => some k ≠ some g) (fun _ => False) rfl rfl (kLn_mkM _ _ _ ⟨fr, i, i + 1⟩) (fun _ h => h.elim) ?aF ?aO ?aB ?aS ?aL ?_; (case aF => intro k hk e; have := blk_lt HBL.out; injection e with e; first | omega | (simp at hk; omega)); (case aO => (with_reducible repeat (first | apply Kd.R_alloc | apply Kd.R_drewN | apply Kd.R_drew)); exact HO.out); (case aB => repeat (first | exact HB.out | apply pw_below_drewN | apply below_drew1)); (case aS => exact HB.out.size); (case aL => have := Ha.out; omega); intro v1 w1 ho hb hg hat; obtain ⟨A2, c2, rfl⟩ := Kd.R_slice ho; have hbl1 := blk_grown HBL.out hg (fun e => HO.out.1 g e.symm rfl); have hc2 : w1.cell? ⟨g, 0, none⟩ = some (.slice A1 acc.length c1) := (blk_cell hbl1 0).trans rfl; have hf2 := blk_frozen hbl1 0; have HO2 := Aside0.mk ho; have HB2 := Aside0.mk hb; have HBL2 := Aside0.mk hbl1; clear ho hb hg hat hbl1)
            go_roundw
            case measure => simp [intOf]; omega
            case rel => exact ⟨i + 1, i + 1, rfl, rfl, by omega, by omega, ⟨Made.after hnew HB2.out HBL2.out rfl HO2.out Hl.out (by have := Ha.out; omega)⟩⟩
        · rw [if_neg h13] at hl
          have Hl := Aside0.mk hl
          have b13 : (rd l i != 13) = true := bne_iff_ne.mpr h13
          clear hl
          go_wp2
          go_roundw
          case measure => simp [intOf]; omega
          case rel => exact ⟨fr, i + 1, rfl, rfl, by omega, by omega, ⟨HB.out, hnew, A1, c1, acc, HBL.out, HO.out, Hl.out, by have := Ha.out; omega⟩⟩
    · obtain rfl : i = l.length := by omega
      have hl2 : acc ++ [⟨fr, (l.length : Int), (l.length : Int)⟩] = lns l 0 0 := by rw [← hl]; simp [lns]
      have Hl := Aside0.mk hl2
      have HB := Aside0.mk hbel
      clear hl hl2 hbel
      go_wp2_with (at_builtin; refine Kd.R_append kLn (w0 := w) w.heap.size rfl (.tmp 83) (.tmp 90) 146 150 (.agg #[.int .i64 0, .int .i64 0, .int .i64 0]) 24 rfl Try.underlying146 infoLn rfl (by decide) (by omega) (.slice A1 acc.length c1) acc ⟨fr, (l.length : Int), (l.length : Int)⟩ [.int .i64 fr, .int .i64 ((l.length : Int)), .int .i64 ((l.length : Int))] (fun k => some k ≠ some g) (fun _ => False) rfl rfl (kLn_mkM _ _ _ ⟨fr, (l.length : Int), (l.length : Int)⟩) (fun _ h => h.elim) ?aF ?aO ?aB ?aS ?aL ?_; (case aF => intro k hk e; have := blk_lt HBL.out; injection e with e; first | omega | (simp at hk; omega)); (case aO => (with_reducible repeat (first | apply Kd.R_alloc | apply Kd.R_drewN | apply Kd.R_drew)); exact HO.out); (case aB => repeat (first | exact HB.out | apply pw_below_drewN | apply below_drew1)); (case aS => exact HB.out.size); (case aL => have := Ha.out; omega); intro v1 w1 ho hb hg hat; obtain ⟨A2, c2, rfl⟩ := Kd.R_slice ho; have hbl1 := blk_grown HBL.out hg (fun e => HO.out.1 g e.symm rfl); have hc2 : w1.cell? ⟨g, 0, none⟩ = some (.slice A1 acc.length c1) := (blk_cell hbl1 0).trans rfl; have hf2 := blk_frozen hbl1 0; have HO2 := Aside0.mk ho; have HB2 := Aside0.mk hb; have HBL2 := Aside0.mk hbl1; clear ho hb hg hat hbl1)
      go_ret2
      have hR := Kd.R_far (p := ⟨g, 0, none⟩) HO2.out (fun k hk e => hk (by rw [e])) (.slice A2 (acc.length + 1) c2)
      refine ⟨g, rfl, hnew, ?_, HB2.out.setCell hnew _⟩
      rw [← Hl.out]
      refine idx_from hnew ?_ hR
      rw [show (acc ++ [(⟨fr, (l.length : Int), (l.length : Int)⟩ : Ln)]).length = acc.length + 1 by simp, blk_set HBL2.out]
      rfl
theorem cell_alloc2 {w : World} {p : Addr} {v : Value} (h : w.cell? p = some v) : ∀ o1 o2 : Obj, ((w.alloc o1).alloc o2).cell? p = some v := by
  intro o1 o2
  have hb := World.block_lt_of_cell? w _ h
  exact ((below_alloc (below_alloc (Below.refl w.heap.size w) o1) o2).cell hb).trans h
set_option maxHeartbeats 1000000 in
theorem Line_ok (a : Nat) (L : List Ln) (i : Int) (w : World) (hI : IsIdx w a L) (h0 : 0 ≤ i) (h1 : i < L.length) (hs : L.length ≤ 2097152) :
    Calls Try.prog 89 #[.pointer (some ⟨a, 0, none⟩), .int .i64 i] w fun e w' => e = .returned (.tuple #[.agg #[.int .i64 (rdLn L i).f0, .int .i64 (rdLn L i).f2], .agg #[.int .i64 (rdLn L i).f0, .int .i64 (rdLn L i).f1], .int .i64 0]) ∧ Below w.heap.size w w' := by
  have HI := Aside0.mk hI
  obtain ⟨A, c, h3, hl, hC⟩ := hI.cell
  obtain ⟨ad, e, h4, h5, h6⟩ := atLn hC i h0 h1
  cases e
  have hpos : 0 < L.length := by omega
  clear hC hI
  generalize (rdLn L i).f0 = x0 at *
  generalize (rdLn L i).f1 = x1 at *
  generalize (rdLn L i).f2 = x2 at *
  have g3 := cell_alloc2 h3
  have g4 := cell_alloc2 h4
  have g5 := cell_alloc2 h5
  have g6 := cell_alloc2 h6
  clear h3 h4 h5 h6
  have hlt : decide (i < 0) = false := decide_eq_false (by omega)
  have hge : decide ((L.length : Int) ≤ i) = false := decide_eq_false (by omega)
  go_enter Try.func89, Try.ntmps89
  go_wp2_with (go_at_call 113; refine (none_idx _ a L (by repeat (first | exact HI.out | apply IsIdx.alloc | apply IsIdx.drewN)) hpos).mono ?_; rintro e w' ⟨rfl, rfl⟩)
  go_region
  go_wp2
  refine bodyPost_ret (v := .tuple #[.agg #[.int .i64 x0, .int .i64 x2], .agg #[.int .i64 x0, .int .i64 x1], .int .i64 0]) (by simp [results, Try.results89, go_sem]) rfl ⟨rfl, ?_⟩
  repeat (first | exact Below.refl _ _ | apply below_alloc | apply pw_below_drewN | apply below_drew1 | refine Below.setCell ?_ (by simp) _)
end Go.Proofs.Ytjebkpcekkkbkaa.B
namespace Go.Proofs.Ytjebkpcekkkbkaa.B
open Go.RowKit Go.Shelf Go.Proofs Go.Proofs.YtjebkpcekkkbkaaW.PrintWords Go.Proofs.YtjebkpcekkkbkaaW.PrintLast Go.Proofs.YtjebkpcekkkbkaaW.PrintMore Go.Proofs.Ytjebkpcekkkbkaa.FBase
attribute [local go_sem] Oper.semAt_some
def upto {α : Type} (f : Nat → α) (k : Nat) : List α := (List.range k).map f
theorem upto_succ {α : Type} (f : Nat → α) (k : Nat) : upto f (k + 1) = upto f k ++ [f k] := by simp [upto, List.range_succ]
theorem upto_length {α : Type} (f : Nat → α) (k : Nat) : (upto f k).length = k := by simp [upto]
abbrev encLn (x : Nat × Ln) : Array Value := #[.int .i64 (x.1 : Int), .agg #[.int .i64 x.2.f0, .int .i64 x.2.f1]]
abbrev nthLn (L : List Ln) (j : Nat) : Nat × Ln := (j, rdLn L (j : Int))
set_option maxRecDepth 100000 in
set_option maxHeartbeats 2000000 in
theorem All1 (n : Nat) (hn : 1 ≤ n) (l Bs n₀ a : Nat) (L : List Ln) (hpos : 0 < L.length) (hs : L.length ≤ 2097152) (J Jx : List (Nat × Ln) → World → Prop)
    (W : World) (hJ : AbidesFrom W.heap.size J) (hJx : AbidesFrom W.heap.size Jx)
    (hY : ∀ pre x W1, J pre W1 → pre.length < L.length → YieldAt Fence.wide (n - 1) Try.prog l (encLn x) W1 fun e W' =>
      (e = .returned (.bool true) ∧ J (pre ++ [x]) W' ∧ Below n₀ W1 W') ∨ (e = .returned (.bool false) ∧ Jx (pre ++ [x]) W'))
    (w0 : World) (hw0 : w0.heap.size = n₀) (hbW : Below n₀ w0 W) (hI : IsIdx w0 a L) (hBs : W.cell? ⟨Bs, 0, none⟩ = some (.pointer (some ⟨a, 0, none⟩))) (h0 : J [] W) :
    CallsIn Fence.wide n Try.prog 126 #[.func (.yield l) #[] #[], .pointer (some ⟨Bs, 0, none⟩)] W fun e W' => (∃ v, e = .returned v) ∧
      ((∃ ys, ys = upto (nthLn L) L.length ∧ J ys W') ∨ (∃ pre, (∃ k, k ≤ L.length ∧ pre = upto (nthLn L) k) ∧ Jx pre W')) := by
  subst hw0
  have HI := Aside0.mk hI
  have hbW' : Below w0.heap.size w0 W := hbW
  obtain ⟨A, c, h3, hl, hC⟩ := hI.cell
  have h3W := (hbW.cell (World.block_lt_of_cell? w0 _ h3)).trans h3
  have HC := Aside0.mk hC
  have HB := Aside0.mk hbW
  have HJ := Aside0.mk hJ
  have HY := Aside0.mk hY
  clear hI hC hJ hJx hbW hbW' hY h3
  refine callsIn_of_wp Try.func126 rfl trivial ?_ rfl
  simp only [Try.ntmps126, List.size_toArray, List.length_cons, List.length_nil, Nat.reduceAdd, Nat.reduceSub, Array.replicate_succ, Array.replicate_zero, List.push_toArray, List.append_toArray, List.nil_append, List.cons_append]
  gi_wp2_with (refine ⟨trivial, ?_⟩; gi_at_call 113; refine (callsIn_wide.2 (none_idx _ a L (IsIdx.below HI.out HB.out) hpos)).mono ?_; rintro e w' ⟨rfl, rfl⟩)
  gi_loopw [12] (fun i wr => ∃ k : Nat, k ≤ L.length ∧ i = .int .i64 k ∧ Aside0 (J (upto (nthLn L) k) wr) ∧ Aside0 (Below w0.heap.size W wr) ∧ Aside0 (W.heap.size ≤ wr.heap.size))
    (fun i _ => L.length - (intOf i).toNat)
  case atStart => exact ⟨0, Nat.zero_le _, rfl, ⟨h0⟩, ⟨Below.refl _ _⟩, ⟨Nat.le_refl _⟩⟩
  case round =>
    obtain ⟨k, hk, rfl, HJs, HBr, HSz⟩ := hrel
    by_cases hlt : k < L.length
    · obtain ⟨ad, e, h4, h5, h6⟩ := atLn HC.out (k : Int) (by omega) (by omega)
      cases e
      rw [Int.toNat_natCast] at h4 h5 h6
      have hB2 := HB.out.trans HBr.out
      have g4 := (hB2.cell (World.block_lt_of_cell? w0 _ h4)).trans h4
      have g5 := (hB2.cell (World.block_lt_of_cell? w0 _ h5)).trans h5
      have g6 := (hB2.cell (World.block_lt_of_cell? w0 _ h6)).trans h6
      clear h4 h5 h6 hB2
      have hJa : J (upto (nthLn L) k) (wr.alloc (.cells #[.int .i64 (rdLn L k).f0, .int .i64 (rdLn L k).f1, .int .i64 (rdLn L k).f2] 150)) :=
        HJ.out _ _ _ none HJs.out (World.grownBy_alloc _ _ none) (fun r e => by cases e)
      obtain ⟨fn, tmps, assign, body, hy, hR⟩ := HY.out _ (nthLn L k) _ hJa (by rw [upto_length]; exact hlt)
      dsimp only [encLn, nthLn] at hy
      gi_wp2
      refine hR.mono ?_
      rintro e W3 (⟨rfl, hJ3, hk3⟩ | ⟨rfl, hJx3⟩)
      · gi_wp2
        go_roundw
        case rel => exact ⟨k + 1, by omega, by simp, ⟨by rw [upto_succ]; exact hJ3⟩, ⟨(HBr.out.alloc (by have := HB.out.size; have := HSz.out; omega) _).trans hk3⟩, ⟨by have := hk3.size; have := HSz.out; simp at *; omega⟩⟩
        case measure => simp [intOf]; omega
      · gi_wp2
        refine bodyPost_ret (results_none rfl _ _ _) rfl ?_
        exact ⟨⟨_, rfl⟩, .inr ⟨_, ⟨k + 1, by omega, (upto_succ _ _).symm⟩, hJx3⟩⟩
    · obtain rfl : k = L.length := by omega
      gi_wp2
      go_end0
      exact ⟨⟨_, rfl⟩, .inl ⟨_, rfl, HJs.out⟩⟩
theorem All_calls (p : Option Addr) (w : World) :
    Calls Try.prog 112 #[.pointer p] w fun e w' => e = .returned (.func (.func 126) #[] #[.pointer (some ⟨w.heap.size, 0, none⟩)]) ∧ w' = w.alloc (.cells #[.pointer p] 99) := by
  go_enter Try.func112, Try.ntmps112
  go_wp2
  go_ret
  exact ⟨rfl, rfl⟩
theorem All_stops (n : Nat) (hn : 1 ≤ n) (Bs n₀ a : Nat) (L : List Ln) (hpos : 0 < L.length) (hs : L.length ≤ 2097152) (w0 w : World) (hw0 : w0.heap.size = n₀) (hbW : Below n₀ w0 w) (hI : IsIdx w0 a L) (hBs : Bs < w.heap.size) (hc : w.cell? ⟨Bs, 0, none⟩ = some (.pointer (some ⟨a, 0, none⟩))) :
    SeqStopsK Fence.wide n Try.prog 126 #[.pointer (some ⟨Bs, 0, none⟩)] encLn (Below n₀) (fun ys => ys = upto (nthLn L) L.length)
      (fun pre => ∃ k, k ≤ L.length ∧ pre = upto (nthLn L) k) L.length w := fun l J Jx W hW hJ hJx hY h0 => by
  have hc' := (hW.cell (p := ⟨Bs, 0, none⟩) hBs).trans hc
  exact All1 n hn l Bs n₀ a L hpos hs J Jx W hJ hJx hY w0 hw0 (hbW.trans (hW.mono (by have := hbW.size; omega))) hI hc' h0
end Go.Proofs.Ytjebkpcekkkbkaa.B
namespace Go.Proofs.Ytjebkpcekkkbkaa.B
open Go.RowKit Go.Shelf Go.Proofs Go.Proofs.YtjebkpcekkkbkaaW.PrintWords Go.Proofs.YtjebkpcekkkbkaaW.PrintLast Go.Proofs.YtjebkpcekkkbkaaW.PrintMore Go.Proofs.Ytjebkpcekkkbkaa.FBase
attribute [local go_sem] Oper.semAt_some
set_option maxRecDepth 100000 in
set_option maxHeartbeats 2000000 in
theorem Count_ok (a : Nat) (L : List Ln) (w : World) (hI : IsIdx w a L) (hpos : 0 < L.length) (hs : L.length ≤ 2097152) :
    Calls Try.prog 88 #[.pointer (some ⟨a, 0, none⟩)] w fun e w' => e = .returned (.int .i64 L.length) ∧ Below w.heap.size w w' := by
  have HI := Aside0.mk hI
  clear hI
  refine (callsIn_wide (n := 6)).1 ?_
  refine callsIn_of_wp_marks Try.func88 rfl trivial ?_ rfl
  simp only [Try.ntmps88, List.size_toArray, List.length_cons, List.length_nil, Nat.reduceAdd, Nat.reduceSub, Array.replicate_succ, Array.replicate_zero, List.push_toArray, List.append_toArray, List.nil_append, List.cons_append]
  gi_wp2_with (refine ⟨trivial, ?_⟩; gi_at_call 112; refine (callsIn_wide.2 (All_calls _ _)).mono ?_; rintro e w' ⟨rfl, rfl⟩)
  have bS := Boxed.new w 3 (.int .i64 0)
  have bN := Boxed.new (w.alloc (.cells #[.int .i64 0] 3)) 99 (.pointer (some ⟨a, 0, none⟩))
  rw [World.size_alloc] at bN
  have hB0 : Below w.heap.size w ((w.alloc (.cells #[.int .i64 0] 3)).alloc (.cells #[.pointer (some ⟨a, 0, none⟩)] 99)) := ((Below.refl _ w).alloc (Nat.le_refl _) _).alloc (by simp) _
  refine wpIn_rangeFunc_ownG rfl (by omega) (gf := 126) (lb := #[.pointer (some ⟨w.heap.size + 1, 0, none⟩)]) rfl trivial (enters_of Try.func126 (by kernel_rfl) rfl)
    (All_stops _ (by omega) (w.heap.size + 1) w.heap.size a L hpos hs w _ rfl hB0 HI.out (by simp) bN.cell) belowK_t (belowK_b (by simp; omega)) (Below.refl _ _) (fun _ => rfl)
    (fun pre W => (W.cell? ⟨w.heap.size, 0, none⟩ = some (.int .i64 pre.length) ∧ W.frozen? ⟨w.heap.size, 0, none⟩ = false) ∧ Below w.heap.size w W)
    (fun _ _ _ => False)
    (OwnFrom.and (Own.from (fun s A B row hs hg hr => ⟨cell_kept hs.1 hg hr, (frozen_kept hs.1 hg hr).trans hs.2⟩) _) (ownFrom_below (Nat.le_refl _) (by simp; omega)))
    (fun _ _ _ _ _ hs _ _ => hs)
    ⟨⟨(bS.alloc _).cell, (bS.alloc _).frozen⟩, hB0⟩
    (fun x => { tmps := #[.pointer (some ⟨a, 0, none⟩), undef, .int .i64 0, .pointer (some ⟨w.heap.size, 0, none⟩), .pointer (some ⟨a, 0, none⟩), .func (.func 126) #[] #[.pointer (some ⟨w.heap.size + 1, 0, none⟩)], .int .i64 (x.1 : Int), .agg #[.int .i64 x.2.f0, .int .i64 x.2.f1], undef, undef, undef], defers := [] }) ?assign ?body ?done ?stop
  case assign =>
    intro l x W K hK
    gi_wp2
    simpa [encLn] using hK
  case body =>
    rintro l pre x W ⟨⟨hc, hf⟩, hB⟩ hlt
    have hw : wrap64 ((pre.length : Int) + 1) = (pre.length : Int) + 1 := by unfold wrap64; omega
    gi_wp2
    exact ⟨(KeepsOthers.setCell _ _ _).from _, (Below.refl w.heap.size W).setCell (p := ⟨w.heap.size, 0, none⟩) (Nat.le_refl _) _, ⟨by rw [List.length_append, List.length_singleton, World.cell?_setCell_same' _ _ _ (by rw [hc]; rfl)]; simp, by rw [World.frozen?_setCell]; exact hf⟩, hB.setCell (p := ⟨w.heap.size, 0, none⟩) (Nat.le_refl _) _⟩
  case done =>
    rintro D ys W hD rfl ⟨⟨hc, _⟩, hB⟩ hK
    rw [upto_length] at hc
    gi_wp2
    refine ⟨by simp, .inl ⟨_, _, rfl, run_takeDeferred hK, ?_⟩⟩
    exact ⟨_, results_tmp rfl _ _ _, rfl, hB.trans (belowK_b (w := w) (Nat.le_refl _) W D _ _ (by simp at hD; omega) hK rfl rfl)⟩
  case stop =>
    rintro D c pre W hD _ h _
    exact h.elim
end Go.Proofs.Ytjebkpcekkkbkaa.B
namespace Go.Proofs.Ytjebkpcekkkbkaa.B
open Go.RowKit Go.Proofs.YtjebkpcekkkbkaaW.PrintWords Go.Proofs.YtjebkpcekkkbkaaW.PrintLast Go.Proofs.YtjebkpcekkkbkaaW.PrintMore Go.Proofs.Ytjebkpcekkkbkaa.FBase
structure Sp where
  f0 : Int
  f1 : Int
deriving DecidableEq
def zSp : Sp := ⟨0, 0⟩
def kSp : Kd Sp := Kd.iso (Kd.pair (Kd.int .i64) (Kd.int .i64)) (fun x : Sp => (x.f0, x.f1))
theorem kSp_open {w : World} {x : Sp} {cs : List Value} (h : kSp.K w x cs) : cs = [.int .i64 x.f0, .int .i64 x.f1] := by
  obtain ⟨_, _, rfl, rfl, rfl⟩ := h
  exact rfl
def rdSp (xs : List Sp) (i : Int) : Sp := xs.getD i.toNat zSp
theorem atSp {w : World} {A : Option Addr} {n : Nat} {xs : List Sp} (h : Kd.C kSp w A n xs) (i : Int) (h0 : 0 ≤ i) (h1 : i < n) : ∃ ad , A = some ad ∧ w.cell? (ad.add (i.toNat * 2)) = some (.int .i64 (rdSp xs i).f0) ∧ w.cell? ⟨(ad.add (i.toNat * 2)).block, (ad.add (i.toNat * 2)).off + 1, none⟩ = some (.int .i64 (rdSp xs i).f1) := by
  obtain ⟨ad, c, e, _, hK, hc0⟩ := Kd.C_get h zSp i h0 h1
  have hc : ∀ j u, c[j]? = some u → w.cell? (ad.add (i.toNat * 2 + j)) = some u := hc0
  obtain rfl := kSp_open hK
  exact ⟨ad, e, hc 0 _ rfl, by rw [← add_field _ _ 1 (by omega)]; exact hc 1 _ rfl⟩
def whole (x : Ln) : Sp := ⟨x.f0, x.f2⟩
def plain (x : Ln) : Sp := ⟨x.f0, x.f1⟩
def IsRef (W : World) (a : Nat) (L : List Ln) : Prop :=
  ∃ A c A' c', W.heap[a]? = some (.cells #[.slice A L.length c, .slice A' L.length c'] 168 (0, 0)) ∧ L.length ≤ c ∧ L.length ≤ c' ∧ Kd.C kSp W A L.length (L.map whole) ∧ Kd.C kSp W A' L.length (L.map plain)
theorem IsRef.lt {W : World} {a : Nat} {L : List Ln} (h : IsRef W a L) : a < W.heap.size := by
  obtain ⟨A, c, A', c', hb, _⟩ := h
  exact blk_lt hb
theorem IsRef.below {W W1 : World} {a : Nat} {L : List Ln} (h : IsRef W a L) (hb : Below W.heap.size W W1) : IsRef W1 a L := by
  have hl := h.lt
  obtain ⟨A, c, A', c', h1, h2, h2', h3, h3'⟩ := h
  exact ⟨A, c, A', c', (hb.block a hl).trans h1, h2, h2', Kd.C_below h3 hb, Kd.C_below h3' hb⟩
theorem IsRef.alloc {W : World} {a : Nat} {L : List Ln} (h : IsRef W a L) (o : Obj) : IsRef (W.alloc o) a L := h.below (below_alloc (Below.refl _ _) o)
theorem IsRef.drewN {W : World} {a : Nat} {L : List Ln} (h : IsRef W a L) (m : Nat) : IsRef (W.drewN m) a L := h.below (pw_below_drewN (Below.refl _ _) m)
structure Two (W : World) (base g : Nat) (vP vW : Value) (aP aW : List Sp) : Prop where
  P : Kd.R kSp 44 W base (fun k => some k ≠ some g) vP aP
  Wh : Kd.R kSp 44 W base (fun k => some k ≠ some g) vW aW
  ne : ∀ k, vP.ownBlock = some k → vW.ownBlock ≠ some k
theorem Two.at {W W2 : World} {n base g : Nat} {vP vW : Value} {aP aW : List Sp} (hq : W2 = W.drewN n) (h : Two W base g vP vW aP aW) : Two W2 base g vP vW aP aW := by
  subst hq
  exact ⟨Kd.R_drewN h.P _, Kd.R_drewN h.Wh _, h.ne⟩
theorem Two.set {W : World} {base g : Nat} {vP vW : Value} {aP aW : List Sp} (h : Two W base g vP vW aP aW) (j : Nat) (u : Value) : Two (W.setCell ⟨g, j, none⟩ u) base g vP vW aP aW :=
  ⟨Kd.R_far (p := ⟨g, j, none⟩) h.P (fun k hk e => hk (by rw [e])) u, Kd.R_far (p := ⟨g, j, none⟩) h.Wh (fun k hk e => hk (by rw [e])) u, h.ne⟩
structure RMade (w W : World) (g : Nat) (l : List Int) (fr i : Int) : Prop where
  bel : Below w.heap.size w W
  new : w.heap.size ≤ g
  own : ∃ A1 c1 A2 c2 aP aW L, W.heap[g]? = some (.cells #[.slice A2 aW.length c2, .slice A1 aP.length c1] 168 (0, 0)) ∧ Two W w.heap.size g (.slice A1 aP.length c1) (.slice A2 aW.length c2) aP aW ∧ aP = L.map plain ∧ aW = L.map whole ∧ L ++ lns (l.drop i.toNat) fr i = lns l 0 0 ∧ (L.length : Int) ≤ i
theorem RMade.after {w w2 : World} {g : Nat} {l : List Int} {fr' i' : Int} {u : Value} {A3 A4 : Option Addr} {c3 c4 : Nat} {aP aW : List Sp} {LL : List Ln} {x : Ln} {p q : Sp} (hp : p = plain x) (hq : q = whole x)
    (hnew : w.heap.size ≤ g) (hb : Below w.heap.size w w2) (hblk : w2.heap[g]? = some (.cells #[u, .slice A3 (aP.length + 1) c3] 168 (0, 0)))
    (HT : Two w2 w.heap.size g (.slice A3 (aP ++ [p]).length c3) (.slice A4 (aW ++ [q]).length c4) (aP ++ [p]) (aW ++ [q])) (hP : aP = LL.map plain) (hW : aW = LL.map whole)
    (hl : (LL ++ [x]) ++ lns (l.drop i'.toNat) fr' i' = lns l 0 0) (ha : (aP.length : Int) + 1 ≤ i') : RMade w (w2.setCell ⟨g, 0, none⟩ (.slice A4 (aW.length + 1) c4)) g l fr' i' := by
  subst hp hq
  refine ⟨hb.setCell hnew _, hnew, A3, c3, A4, c4, aP ++ [plain x], aW ++ [whole x], LL ++ [x], ?_, HT.set 0 _, by rw [hP]; simp, by rw [hW]; simp, hl, ?_⟩
  · rw [blk_set hblk, show (aW ++ [whole x]).length = aW.length + 1 by simp, show (aP ++ [plain x]).length = aP.length + 1 by simp]
    rfl
  · rw [hP] at ha; simp at ha; simp; omega
theorem rd_whole (L : List Ln) (i : Int) (h0 : 0 ≤ i) (h1 : i < L.length) : rdSp (L.map whole) i = whole (rdLn L i) := by
  have h : i.toNat < L.length := by omega
  simp [rdSp, rdLn, List.getD, h]
theorem rd_plain (L : List Ln) (i : Int) (h0 : 0 ≤ i) (h1 : i < L.length) : rdSp (L.map plain) i = plain (rdLn L i) := by
  have h : i.toNat < L.length := by omega
  simp [rdSp, rdLn, List.getD, h]
theorem IsRef.cells {W : World} {a : Nat} {L : List Ln} (h : IsRef W a L) : ∃ A c A' c', W.cell? ⟨a, 0, none⟩ = some (.slice A L.length c) ∧ W.cell? ⟨a, 1, none⟩ = some (.slice A' L.length c') ∧ Kd.C kSp W A L.length (L.map whole) ∧ Kd.C kSp W A' L.length (L.map plain) := by
  obtain ⟨A, c, A', c', hb, hl, hl', hc, hc'⟩ := h
  exact ⟨A, c, A', c', (blk_cell hb 0).trans rfl, (blk_cell hb 1).trans rfl, hc, hc'⟩
theorem IsRef.at {W : World} {a : Nat} {L : List Ln} (h : IsRef W a L) (i : Int) (h0 : 0 ≤ i) (h1 : i < L.length) : ∃ ad c ad' c', W.cell? ⟨a, 0, none⟩ = some (.slice (some ad) L.length c) ∧ W.cell? ⟨a, 1, none⟩ = some (.slice (some ad') L.length c') ∧
    W.cell? (ad.add (i.toNat * 2)) = some (.int .i64 (rdLn L i).f0) ∧ W.cell? ⟨(ad.add (i.toNat * 2)).block, (ad.add (i.toNat * 2)).off + 1, none⟩ = some (.int .i64 (rdLn L i).f2) ∧
    W.cell? (ad'.add (i.toNat * 2)) = some (.int .i64 (rdLn L i).f0) ∧ W.cell? ⟨(ad'.add (i.toNat * 2)).block, (ad'.add (i.toNat * 2)).off + 1, none⟩ = some (.int .i64 (rdLn L i).f1) := by
  obtain ⟨A, c, A', c', h2, h3, hc, hc'⟩ := h.cells
  obtain ⟨ad, e, h4, h5⟩ := atSp hc i h0 h1
  obtain ⟨ad', e', h6, h7⟩ := atSp hc' i h0 h1
  rw [rd_whole L i h0 h1] at h4 h5
  rw [rd_plain L i h0 h1] at h6 h7
  subst e e'
  exact ⟨ad, c, ad', c', h2, h3, h4, h5, h6, h7⟩
def FindAt (L : List Ln) (at_ : Int) (r : Nat) : Prop := r < L.length ∧ (∀ t : Nat, t < r → (rdLn L t).f2 ≤ at_) ∧ (r + 1 < L.length → at_ < (rdLn L r).f2)
theorem FindAt.uniq {L : List Ln} {at_ : Int} {r s : Nat} (h : FindAt L at_ r) (k : FindAt L at_ s) : r = s := by
  rcases Nat.lt_trichotomy r s with hlt | e | hlt
  · have h1 := k.2.1 r hlt
    have h2 := h.2.2 (by have := k.1; omega)
    omega
  · exact e
  · have h1 := h.2.1 s hlt
    have h2 := k.2.2 (by have := h.1; omega)
    omega
end Go.Proofs.Ytjebkpcekkkbkaa.B
