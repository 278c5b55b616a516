/-
  Texts of this session, one behind the other: FBasex0, FBasex2, FBasex4, FBasex1, FBasex5, T0, T1, FBasex3, T2, T3, V0, T4, T5, T6, T7, T8.
-/
import Derived.BigRegion
import Derived.Test.YtingbjdpjimikaaProg
import Derived.Below
import Derived.Deep.Draws
import Derived.Deep.AppendLies
import Derived.Maps.AppendAt
import Derived.OwnWalk
import Derived.Laws.BytesArg
import Derived.Laws.MakeOwn
import Derived.Laws.OwnMore
import Derived.Deep.OwnRows
import Derived.Tactics
import Derived.Lib.ConvBytes
import Derived.Laws.Slices
import Derived.WalkKit
import Derived.KernelRfl
import Derived.RowKit3
import Derived.Deep.LoopGhost
import Derived.Deep.QuietTactic
import Derived.BigQuiet
import Derived.WideLaws
import Derived.Deep.DeepCutAuto
import Derived.Deep.CutBlock
import Derived.Deep.RegionHeld3
import Derived.Laws.Rows
import Derived.Lib.AppendStr
import Derived.ArgAppend
import Derived.Laws.IdiomCopy
import Derived.OrdersHeld
import Derived.Laws.BitsLemmas
import Derived.RowKit
import Derived.Test.YtingbjdpjimikaaWWords
import Derived.Test.YtingbjdpjimikaaWLast
import Derived.Test.YtingbjdpjimikaaWTab
import Derived.Test.YtingbjdpjimikaaWFour
import Derived.Test.YtingbjdpjimikaaWQPut
import Derived.Test.YtingbjdpjimikaaWApart
import Derived.Test.YtingbjdpjimikaaWArr
import Derived.Test.YtingbjdpjimikaaWZeros
import Derived.Test.YtingbjdpjimikaaWFoot
import Derived.Test.YtingbjdpjimikaaWKept
import Derived.Test.YtingbjdpjimikaaWShare
import Derived.Test.YtingbjdpjimikaaWN
import Derived.Test.YtingbjdpjimikaaWFootNe
import Derived.Test.YtingbjdpjimikaaWAt
import Derived.Test.YtingbjdpjimikaaWEqStruct
import Derived.Test.YtingbjdpjimikaaWRepsOne
import Derived.Test.YtingbjdpjimikaaWInv
import Derived.Test.YtingbjdpjimikaaWInvWords
import Derived.Test.YtingbjdpjimikaaWGuard
import Derived.Test.YtingbjdpjimikaaWNEv
import Derived.Test.YtingbjdpjimikaaWMore
import Derived.Shelf.Abstract
import Derived.Shelf.SlSortCmp.WholeK
import Derived.Shelf.SlSortCmp.NoneTotal
import Derived.Shelf.Lay
import Derived.Ground.SlsfProg
import Derived.Shelf.SortM.Plain
import Derived.Shelf.SlicesG.CompactI
import Derived.Lib.OwnBridge
import Derived.Lib.AppendIntMem
import Derived.Ground.SlgnProg
import Derived.Ground.SlgmProg
import Derived.Maps.OwnSet
set_option linter.unusedSimpArgs false
set_option linter.unusedVariables false
namespace Go.Proofs.Ytingbjdpjimikaa.FBase
open Go.RowKit Go.Proofs.YtingbjdpjimikaaW.PrintWords Go.Proofs.YtingbjdpjimikaaW.PrintLast Go.Proofs.YtingbjdpjimikaaW.PrintMore
attribute [local go_sem] max2_int min2_int max_two min_two max_three min_three max_four min_four   -- for this text's walks alone
def errW : Option Int → Value
  | none => .nilIface
  | some c => .iface 0 (.int .i64 c)
theorem errW_none : errW none = .nilIface := rfl
theorem errW_some (c : Int) : errW (some c) = .iface 0 (.int .i64 c) := rfl
theorem info3 : (Try.prog.info? 3).map (fun i => (i.zero, i.size, i.bytes)) = some (some (.int .i64 0), 1, 8) := by kernel_rfl
theorem info39 : (Try.prog.info? 39).map (fun i => (i.zero, i.size, i.bytes)) = some (some (.agg #[(.int .i64 0), (.int .i64 0)]), 2, 16) := by kernel_rfl
structure S39 where
  f0 : Int
  f1 : Int
def z39 : S39 := ⟨(0 : Int), (0 : Int)⟩
def k39 : Kd S39 := Kd.iso (Kd.pair (Kd.int .i64) (Kd.int .i64)) (fun x : S39 => (x.f0, x.f1))
theorem k39_open {w : World} {x : S39} {cs : List Value} (h : k39.K w x cs) : cs = [.int .i64 x.f0, .int .i64 x.f1] := by
  obtain ⟨_, _, rfl, rfl, rfl⟩ := h
  exact rfl
theorem k39_openM {w : World} {base : Nat} {ok : Nat → Prop} {x : S39} {cs : List Value} (h : k39.M w base ok x cs) : cs = [.int .i64 x.f0, .int .i64 x.f1] := by
  obtain ⟨_, _, rfl, rfl, rfl⟩ := h
  exact rfl
theorem k39_mk (w : World) (x : S39)  : k39.K w x [.int .i64 x.f0, .int .i64 x.f1] := ⟨[.int .i64 x.f0], [.int .i64 x.f1], rfl, rfl, rfl⟩
theorem k39_mkM (w : World) (base : Nat) (ok : Nat → Prop) (x : S39)  : k39.M w base ok x [.int .i64 x.f0, .int .i64 x.f1] := ⟨[.int .i64 x.f0], [.int .i64 x.f1], rfl, rfl, rfl⟩
def rd_T39 (xs : List S39) (i : Int) : S39 := xs.getD i.toNat z39
theorem at_T39 {w : World} {A : Option Addr} {n : Nat} {xs : List S39} (h : Kd.C k39 w A n xs) (i : Int) (h0 : 0 ≤ i) (h1 : i < n) : ∃ ad , A = some ad ∧ w.cell? (ad.add (i.toNat * 2)) = some (.int .i64 (rd_T39 xs i).f0) ∧ w.cell? ⟨(ad.add (i.toNat * 2)).block, (ad.add (i.toNat * 2)).off + 1, none⟩ = some (.int .i64 (rd_T39 xs i).f1) := by
  obtain ⟨ad, c, e, _, hK, hc0⟩ := Kd.C_get h z39 i h0 h1
  have hc : ∀ j u, c[j]? = some u → w.cell? (ad.add (i.toNat * 2 + j)) = some u := hc0
  obtain rfl := k39_open hK
  exact ⟨ad, e, hc 0 _ rfl, by rw [← add_field _ _ 1 (by omega)]; exact hc 1 _ rfl⟩
def rd_L2 (xs : List (List S39)) (i : Int) : (List S39) := xs.getD i.toNat ([] : List S39)
theorem at_L2 {w : World} {A : Option Addr} {n : Nat} {xs : List (List S39)} (h : Kd.C (Kd.slice 39 k39) w A n xs) (i : Int) (h0 : 0 ≤ i) (h1 : i < n) : ∃ ad A0 c0, A = some ad ∧ w.cell? (ad.add i.toNat) = some (.slice A0 (rd_L2 xs i).length c0) ∧ (rd_L2 xs i).length ≤ c0 ∧ k39.C w A0 (rd_L2 xs i).length (rd_L2 xs i) := by
  obtain ⟨ad, c, e, _, hK, hc0⟩ := Kd.C_get h ([] : List S39) i h0 h1
  have hc : ∀ j u, c[j]? = some u → w.cell? (ad.add (i.toNat * 1 + j)) = some u := hc0
  obtain ⟨A0, c0, rfl, l0, g0⟩ := hK
  exact ⟨ad, A0, c0, e, by have hq := hc 0 _ rfl; rwa [Nat.mul_one, Nat.add_zero] at hq, l0, g0⟩
end Go.Proofs.Ytingbjdpjimikaa.FBase
namespace Go.Proofs.Ytingbjdpjimikaa.FBase
open Go.RowKit Go.Proofs.YtingbjdpjimikaaW.PrintWords Go.Proofs.YtingbjdpjimikaaW.PrintLast Go.Proofs.YtingbjdpjimikaaW.PrintMore
attribute [local go_sem] max2_int min2_int max_two min_two max_three min_three max_four min_four   -- for this text's walks alone
def charset_Check.l0 : Nat → Int → List (S39) → Int → Int → Option (Int)
  | 0, _, _, _, _ => none
  | k + 1, x3, x9, x10, x11 => if x11 < x10 then (if 0 ≤ x11 then (if x11 < (x9.length : Int) then (if ((rd_T39 x9 x11).f0) ≤ x3 then (some 2) else (if ((rd_T39 x9 x11).f1) ≤ ((rd_T39 x9 x11).f0) then (some 2) else (if ((rd_T39 x9 x11).f1) > 1114112 then (some 2) else (charset_Check.l0 k ((rd_T39 x9 x11).f1) x9 x10 (wrap64 (x11 + 1)))))) else (none)) else (none)) else (some 0)
def charset_Check.f (k : Nat) (l0 : List (S39)) : Option (Int) := if (l0.length : Int) > 256 then (some 5) else (charset_Check.l0 k (-1) l0 (l0.length : Int) 0)
theorem charset_Check.mono_l : ∀ k, (∀ y0 y1 y2 y3, LeO (charset_Check.l0 k y0 y1 y2 y3) (charset_Check.l0 (k + 1) y0 y1 y2 y3))
  | 0 => fun _ _ _ _ r h => by simp [charset_Check.l0] at h
  | k + 1 => by
    have ih0 := charset_Check.mono_l k
    · intro y0 y1 y2 y3
      unfold charset_Check.l0
      repeat' first
      | (with_reducible exact ih0 _ _ _ _)
      | (with_reducible exact LeO.refl _)
      | (with_reducible exact LeO.none _)
      | (with_reducible refine LeO.ite ?_ ?_)
      | (with_reducible refine LeO.bind ?_ (fun _ => ?_))
      | exact ih0 _ _ _ _
      | exact LeO.none _
      | refine LeO.ite ?_ ?_
      | refine LeO.bind ?_ (fun _ => ?_)
theorem charset_Check.mono : ∀ a0 k, LeO (charset_Check.f k a0) (charset_Check.f (k + 1) a0) := by
  intro a0 k
  have ih0 := charset_Check.mono_l k
  unfold charset_Check.f
  repeat' first
      | (with_reducible exact ih0 _ _ _ _)
      | (with_reducible exact LeO.refl _)
      | (with_reducible exact LeO.none _)
      | (with_reducible refine LeO.ite ?_ ?_)
      | (with_reducible refine LeO.bind ?_ (fun _ => ?_))
      | exact ih0 _ _ _ _
      | exact LeO.none _
      | refine LeO.ite ?_ ?_
      | refine LeO.bind ?_ (fun _ => ?_)
set_option maxHeartbeats 8000000 in
set_option maxRecDepth 100000 in
theorem charset_Check.calls (k : Nat) (A0 : Option Addr) (c0 : Nat) (l0 : List (S39)) (r : Int) (w : World) (hr0 : Kd.C k39 w A0 l0.length l0) (hc0 : l0.length ≤ c0) (h : charset_Check.f k l0 = some r) :
    Calls Try.prog 14 #[.slice A0 l0.length c0] w fun e w' => e = .returned (.int .i64 r) ∧ Below w.heap.size w w' := by
  have hu39 := Try.underlying39
  have HR0 := Aside0.mk hr0
  have HC0 := Aside0.mk hc0
  clear hr0 hc0
  have HB := Aside0.mk (Below.refl w.heap.size w)
  have H : (if (l0.length : Int) > 256 then (some 5) else (charset_Check.l0 k (-1) l0 (l0.length : Int) 0)) = some r := h
  clear h
  by_cases c2 : (l0.length : Int) > 256
  · rw [if_pos c2] at H
    have c2b0 : decide (256 < (l0.length : Int)) = true := decide_eq_true c2
    have c2b1 : decide (256 < l0.length) = true := decide_eq_true (by omega)
    clear c2
    obtain rfl := Option.some.inj H
    go_enter Try.func14, Try.ntmps14
    go_wp2
    go_ret
    exact ⟨by first | rfl | (simp [errW_none, errW_some] <;> rfl) | (simp [*, errW_none, errW_some] <;> rfl), by repeat (first | (with_reducible first | exact HB.out | apply below_alloc | apply pw_below_drewN | apply below_drew1) | exact HB.out)⟩
  · rw [if_neg c2] at H
    have c2b0 : decide (256 < (l0.length : Int)) = false := decide_eq_false c2
    have c2b1 : decide (256 < l0.length) = false := decide_eq_false (by omega)
    clear c2
    have H' := Aside0.mk H
    clear H
    go_enter Try.func14, Try.ntmps14
    go_wp2
    go_loopg [3, 11] k (fun kq v3 v11 w' => ∃ (x3_1 : Int) (x11_1 : Int), v3 = .int .i64 x3_1 ∧ v11 = .int .i64 x11_1 ∧ Aside0 (charset_Check.l0 kq x3_1 l0 (l0.length : Int) x11_1 = some r) ∧ Aside0 (kq ≤ k) ∧ Aside0 (Below w.heap.size w w'))
    case atStart => exact ⟨((-1)), (0), (by first | rfl | (simp; done) | (simp [*]; done)), (by first | rfl | (simp; done) | (simp [*]; done)), H', ⟨Nat.le_refl _⟩, ⟨by repeat (first | (with_reducible first | exact HB.out | apply below_alloc | apply pw_below_drewN | apply below_drew1) | exact HB.out)⟩⟩
    case round =>
      clear H'
      try clear c1
      try clear c2
      try clear c2b0
      try clear c2b1
      try clear p2
      obtain ⟨x3_1, x11_1, rfl, rfl, HA, HK1, HB⟩ := hrel
      cases gk with
      | zero => exact absurd HA.out (by simp [charset_Check.l0])
      | succ k1 =>
        have H := HA.out
        clear HA
        simp only [charset_Check.l0] at H
        by_cases c3 : x11_1 < (l0.length : Int)
        · rw [if_pos c3] at H
          have c3b0 : decide (x11_1 < (l0.length : Int)) = true := decide_eq_true c3
          clear c3
          by_cases c4 : 0 ≤ x11_1
          · rw [if_pos c4] at H
            have c4b0 : decide (0 ≤ x11_1) = true := decide_eq_true c4
            clear c4
            by_cases c5 : x11_1 < (l0.length : Int)
            · rw [if_pos c5] at H
              have c5b0 : decide (x11_1 < (l0.length : Int)) = true := decide_eq_true c5
              clear c5
              by_cases c6 : ((rd_T39 l0 x11_1).f0) ≤ x3_1
              · rw [if_pos c6] at H
                have c6b0 : decide (((rd_T39 l0 x11_1).f0) ≤ x3_1) = true := decide_eq_true c6
                clear c6
                obtain rfl := Option.some.inj H
                have p101 : 0 ≤ (x11_1 : Int) := of_decide_eq_true (by first | (with_reducible assumption) | assumption)
                have q101 : x11_1 < (l0.length : Int) := of_decide_eq_true (by first | (with_reducible assumption) | assumption)
                obtain ⟨ad101, e101, hx101_0, hx101_1⟩ := at_T39 HR0.out x11_1 p101 q101
                cases e101
                replace hx101_0 := (HB.out.cell (World.block_lt_of_cell? w _ hx101_0)).trans hx101_0
                replace hx101_1 := (HB.out.cell (World.block_lt_of_cell? w _ hx101_1)).trans hx101_1
                replace p101 := eq_true p101
                replace q101 := eq_true q101
                go_wp2_with (first | ((with_reducible refine gate_dst (N := 5) rfl ?_); refine box_event ?hg (N := 5) ?hd (cs := #[.int .i64 0, .int .i64 0]) (t := 39) ?hr ?_; (case hd => rfl); (case hg => rfl); (case hr => first | (go_simp; done) | (go_simp; rfl)); intro gb102 hg w7 hbox hb; have n0_ := Aside0.mk (below_step (by repeat (first | (with_reducible first | exact HB.out | apply below_alloc | apply pw_below_drewN | apply below_drew1) | exact HB.out)) hb); have n1_ := Aside0.mk (hbox); have n2_ := Aside0.mk ((by rw [hg]; exact (below_size (by repeat (first | (with_reducible first | exact HB.out | apply below_alloc | apply pw_below_drewN | apply below_drew1) | exact HB.out))) : w.heap.size ≤ gb102)); have n3_ := Aside0.mk ((by rw [hg]; exact (below_size (by repeat (first | (with_reducible first | exact HB.out | apply below_alloc | apply pw_below_drewN | apply below_drew1) | exact HB.out))) : w.heap.size ≤ gb102)); clear HB; have HB := n0_; have BK102 := n1_; have GW102 := n2_; have GE102 := n3_; clear n0_ n1_ n2_ n3_; clear hb hbox hg; have hcz8_0 : w7.cell? ⟨gb102, 0, none⟩ = some (.int .i64 0) := (blk_cell BK102.out 0).trans rfl; have hcz8_1 : w7.cell? ⟨gb102, 1, none⟩ = some (.int .i64 0) := (blk_cell BK102.out 1).trans rfl; have hfz8_0 := blk_frozen BK102.out 0; have hfz8_1 := blk_frozen BK102.out 1))
                go_ret
                exact ⟨by first | rfl | (simp [errW_none, errW_some] <;> rfl) | (simp [*, errW_none, errW_some] <;> rfl), by repeat (first | (with_reducible first | exact HB.out | apply below_alloc | apply pw_below_drewN | apply below_drew1 | refine below_set ?_ GE102.out) | exact HB.out)⟩
              · rw [if_neg c6] at H
                have c6b0 : decide (((rd_T39 l0 x11_1).f0) ≤ x3_1) = false := decide_eq_false c6
                clear c6
                by_cases c9 : ((rd_T39 l0 x11_1).f1) ≤ ((rd_T39 l0 x11_1).f0)
                · rw [if_pos c9] at H
                  have c9b0 : decide (((rd_T39 l0 x11_1).f1) ≤ ((rd_T39 l0 x11_1).f0)) = true := decide_eq_true c9
                  clear c9
                  obtain rfl := Option.some.inj H
                  have p101 : 0 ≤ (x11_1 : Int) := of_decide_eq_true (by first | (with_reducible assumption) | assumption)
                  have q101 : x11_1 < (l0.length : Int) := of_decide_eq_true (by first | (with_reducible assumption) | assumption)
                  obtain ⟨ad101, e101, hx101_0, hx101_1⟩ := at_T39 HR0.out x11_1 p101 q101
                  cases e101
                  replace hx101_0 := (HB.out.cell (World.block_lt_of_cell? w _ hx101_0)).trans hx101_0
                  replace hx101_1 := (HB.out.cell (World.block_lt_of_cell? w _ hx101_1)).trans hx101_1
                  replace p101 := eq_true p101
                  replace q101 := eq_true q101
                  go_wp2_with (first | ((with_reducible refine gate_dst (N := 5) rfl ?_); refine box_event ?hg (N := 5) ?hd (cs := #[.int .i64 0, .int .i64 0]) (t := 39) ?hr ?_; (case hd => rfl); (case hg => rfl); (case hr => first | (go_simp; done) | (go_simp; rfl)); intro gb102 hg w10 hbox hb; have n0_ := Aside0.mk (below_step (by repeat (first | (with_reducible first | exact HB.out | apply below_alloc | apply pw_below_drewN | apply below_drew1) | exact HB.out)) hb); have n1_ := Aside0.mk (hbox); have n2_ := Aside0.mk ((by rw [hg]; exact (below_size (by repeat (first | (with_reducible first | exact HB.out | apply below_alloc | apply pw_below_drewN | apply below_drew1) | exact HB.out))) : w.heap.size ≤ gb102)); have n3_ := Aside0.mk ((by rw [hg]; exact (below_size (by repeat (first | (with_reducible first | exact HB.out | apply below_alloc | apply pw_below_drewN | apply below_drew1) | exact HB.out))) : w.heap.size ≤ gb102)); clear HB; have HB := n0_; have BK102 := n1_; have GW102 := n2_; have GE102 := n3_; clear n0_ n1_ n2_ n3_; clear hb hbox hg; have hcz11_0 : w10.cell? ⟨gb102, 0, none⟩ = some (.int .i64 0) := (blk_cell BK102.out 0).trans rfl; have hcz11_1 : w10.cell? ⟨gb102, 1, none⟩ = some (.int .i64 0) := (blk_cell BK102.out 1).trans rfl; have hfz11_0 := blk_frozen BK102.out 0; have hfz11_1 := blk_frozen BK102.out 1))
                  go_ret
                  exact ⟨by first | rfl | (simp [errW_none, errW_some] <;> rfl) | (simp [*, errW_none, errW_some] <;> rfl), by repeat (first | (with_reducible first | exact HB.out | apply below_alloc | apply pw_below_drewN | apply below_drew1 | refine below_set ?_ GE102.out) | exact HB.out)⟩
                · rw [if_neg c9] at H
                  have c9b0 : decide (((rd_T39 l0 x11_1).f1) ≤ ((rd_T39 l0 x11_1).f0)) = false := decide_eq_false c9
                  clear c9
                  by_cases c12 : ((rd_T39 l0 x11_1).f1) > 1114112
                  · rw [if_pos c12] at H
                    have c12b0 : decide (1114112 < ((rd_T39 l0 x11_1).f1)) = true := decide_eq_true c12
                    clear c12
                    obtain rfl := Option.some.inj H
                    have p101 : 0 ≤ (x11_1 : Int) := of_decide_eq_true (by first | (with_reducible assumption) | assumption)
                    have q101 : x11_1 < (l0.length : Int) := of_decide_eq_true (by first | (with_reducible assumption) | assumption)
                    obtain ⟨ad101, e101, hx101_0, hx101_1⟩ := at_T39 HR0.out x11_1 p101 q101
                    cases e101
                    replace hx101_0 := (HB.out.cell (World.block_lt_of_cell? w _ hx101_0)).trans hx101_0
                    replace hx101_1 := (HB.out.cell (World.block_lt_of_cell? w _ hx101_1)).trans hx101_1
                    replace p101 := eq_true p101
                    replace q101 := eq_true q101
                    go_wp2_with (first | ((with_reducible refine gate_dst (N := 5) rfl ?_); refine box_event ?hg (N := 5) ?hd (cs := #[.int .i64 0, .int .i64 0]) (t := 39) ?hr ?_; (case hd => rfl); (case hg => rfl); (case hr => first | (go_simp; done) | (go_simp; rfl)); intro gb102 hg w13 hbox hb; have n0_ := Aside0.mk (below_step (by repeat (first | (with_reducible first | exact HB.out | apply below_alloc | apply pw_below_drewN | apply below_drew1) | exact HB.out)) hb); have n1_ := Aside0.mk (hbox); have n2_ := Aside0.mk ((by rw [hg]; exact (below_size (by repeat (first | (with_reducible first | exact HB.out | apply below_alloc | apply pw_below_drewN | apply below_drew1) | exact HB.out))) : w.heap.size ≤ gb102)); have n3_ := Aside0.mk ((by rw [hg]; exact (below_size (by repeat (first | (with_reducible first | exact HB.out | apply below_alloc | apply pw_below_drewN | apply below_drew1) | exact HB.out))) : w.heap.size ≤ gb102)); clear HB; have HB := n0_; have BK102 := n1_; have GW102 := n2_; have GE102 := n3_; clear n0_ n1_ n2_ n3_; clear hb hbox hg; have hcz14_0 : w13.cell? ⟨gb102, 0, none⟩ = some (.int .i64 0) := (blk_cell BK102.out 0).trans rfl; have hcz14_1 : w13.cell? ⟨gb102, 1, none⟩ = some (.int .i64 0) := (blk_cell BK102.out 1).trans rfl; have hfz14_0 := blk_frozen BK102.out 0; have hfz14_1 := blk_frozen BK102.out 1))
                    go_ret
                    exact ⟨by first | rfl | (simp [errW_none, errW_some] <;> rfl) | (simp [*, errW_none, errW_some] <;> rfl), by repeat (first | (with_reducible first | exact HB.out | apply below_alloc | apply pw_below_drewN | apply below_drew1 | refine below_set ?_ GE102.out) | exact HB.out)⟩
                  · rw [if_neg c12] at H
                    have c12b0 : decide (1114112 < ((rd_T39 l0 x11_1).f1)) = false := decide_eq_false c12
                    clear c12
                    have H' := Aside0.mk H
                    clear H
                    have p101 : 0 ≤ (x11_1 : Int) := of_decide_eq_true (by first | (with_reducible assumption) | assumption)
                    have q101 : x11_1 < (l0.length : Int) := of_decide_eq_true (by first | (with_reducible assumption) | assumption)
                    obtain ⟨ad101, e101, hx101_0, hx101_1⟩ := at_T39 HR0.out x11_1 p101 q101
                    cases e101
                    replace hx101_0 := (HB.out.cell (World.block_lt_of_cell? w _ hx101_0)).trans hx101_0
                    replace hx101_1 := (HB.out.cell (World.block_lt_of_cell? w _ hx101_1)).trans hx101_1
                    replace p101 := eq_true p101
                    replace q101 := eq_true q101
                    go_wp2_with (first | ((with_reducible refine gate_dst (N := 5) rfl ?_); refine box_event ?hg (N := 5) ?hd (cs := #[.int .i64 0, .int .i64 0]) (t := 39) ?hr ?_; (case hd => rfl); (case hg => rfl); (case hr => first | (go_simp; done) | (go_simp; rfl)); intro gb102 hg w15 hbox hb; have n0_ := Aside0.mk (below_step (by repeat (first | (with_reducible first | exact HB.out | apply below_alloc | apply pw_below_drewN | apply below_drew1) | exact HB.out)) hb); have n1_ := Aside0.mk (hbox); have n2_ := Aside0.mk ((by rw [hg]; exact (below_size (by repeat (first | (with_reducible first | exact HB.out | apply below_alloc | apply pw_below_drewN | apply below_drew1) | exact HB.out))) : w.heap.size ≤ gb102)); have n3_ := Aside0.mk ((by rw [hg]; exact (below_size (by repeat (first | (with_reducible first | exact HB.out | apply below_alloc | apply pw_below_drewN | apply below_drew1) | exact HB.out))) : w.heap.size ≤ gb102)); clear HB; have HB := n0_; have BK102 := n1_; have GW102 := n2_; have GE102 := n3_; clear n0_ n1_ n2_ n3_; clear hb hbox hg; have hcz16_0 : w15.cell? ⟨gb102, 0, none⟩ = some (.int .i64 0) := (blk_cell BK102.out 0).trans rfl; have hcz16_1 : w15.cell? ⟨gb102, 1, none⟩ = some (.int .i64 0) := (blk_cell BK102.out 1).trans rfl; have hfz16_0 := blk_frozen BK102.out 0; have hfz16_1 := blk_frozen BK102.out 1))
                    go_roundg k1
                    case measure => have := HK1.out; omega
                    case rel => exact ⟨((rd_T39 l0 x11_1).f1), (wrap64 (x11_1 + 1)), (by first | rfl | (simp; done) | (simp [*]; done)), (by first | rfl | (simp; done) | (simp [*]; done)), H', ⟨by have := HK1.out; omega⟩, ⟨by repeat (first | (with_reducible first | exact HB.out | apply below_alloc | apply pw_below_drewN | apply below_drew1 | refine below_set ?_ GE102.out) | exact HB.out)⟩⟩
            · rw [if_neg c5] at H
              exact absurd H (by simp)
          · rw [if_neg c4] at H
            exact absurd H (by simp)
        · rw [if_neg c3] at H
          have c3b0 : decide (x11_1 < (l0.length : Int)) = false := decide_eq_false c3
          clear c3
          obtain rfl := Option.some.inj H
          go_wp2
          go_ret
          exact ⟨by first | rfl | (simp [errW_none, errW_some] <;> rfl) | (simp [*, errW_none, errW_some] <;> rfl), by repeat (first | (with_reducible first | exact HB.out | apply below_alloc | apply pw_below_drewN | apply below_drew1) | exact HB.out)⟩
def charset_put.f (l0 : List (S39)) (a1 : Int) (a2 : Int) : Option ((List (S39))) := if (l0.length : Int) > 0 then (if 0 ≤ (wrap64 ((l0.length : Int) - 1)) then (if (wrap64 ((l0.length : Int) - 1)) < (l0.length : Int) then (if ((rd_T39 l0 (wrap64 ((l0.length : Int) - 1))).f1) = a1 then (some (l0.set ((wrap64 ((l0.length : Int) - 1)) : Int).toNat (⟨(rd_T39 l0 (wrap64 ((l0.length : Int) - 1))).f0, a2⟩ : S39))) else (if l0.length < 8796093022208 then (some (l0 ++ [(⟨a1, a2⟩ : S39)])) else (none))) else (none)) else (none)) else (if l0.length < 8796093022208 then (some (l0 ++ [(⟨a1, a2⟩ : S39)])) else (none))
set_option maxHeartbeats 8000000 in
set_option maxRecDepth 100000 in
theorem charset_put.calls (P0_ : Nat → Prop) (u9000_ : Value) (l0 : List (S39)) (a1 : Int) (a2 : Int) (r : List (S39)) (w0 w : World) (hB : Below w0.heap.size w0 w) (ho0 : Kd.R k39 39 w w0.heap.size P0_ u9000_ l0) (h : charset_put.f l0 a1 a2 = some r) :
    Calls Try.prog 48 #[u9000_, .int .i64 a1, .int .i64 a2] w fun e w' => ∃ v0_ : Value, e = .returned (v0_) ∧ Kd.R k39 39 w' w0.heap.size (fun k_ => (P0_ k_ ∨ w.heap.size ≤ k_)) v0_ r ∧ Below w0.heap.size w0 w' ∧ Kept w w' (fun k_ => P0_ k_) := by
  have hu39 := Try.underlying39
  have HO0 := Aside0.mk (show Kd.R k39 39 w w0.heap.size (fun k_ => (P0_ k_ ∨ w.heap.size ≤ k_)) u9000_ l0 from Kd.R_mono ho0 (fun k_ hk => (.inl hk)))
  have HK := Aside0.mk (Kept.refl w (fun k_ => P0_ k_))
  have HW0 := Aside0.mk hB.size
  have HB := Aside0.mk hB
  clear hB
  have H : (if (l0.length : Int) > 0 then (if 0 ≤ (wrap64 ((l0.length : Int) - 1)) then (if (wrap64 ((l0.length : Int) - 1)) < (l0.length : Int) then (if ((rd_T39 l0 (wrap64 ((l0.length : Int) - 1))).f1) = a1 then (some (l0.set ((wrap64 ((l0.length : Int) - 1)) : Int).toNat (⟨(rd_T39 l0 (wrap64 ((l0.length : Int) - 1))).f0, a2⟩ : S39))) else (if l0.length < 8796093022208 then (some (l0 ++ [(⟨a1, a2⟩ : S39)])) else (none))) else (none)) else (none)) else (if l0.length < 8796093022208 then (some (l0 ++ [(⟨a1, a2⟩ : S39)])) else (none))) = some r := h
  clear h
  by_cases c4 : (l0.length : Int) > 0
  · rw [if_pos c4] at H
    have c4b0 : decide (0 < (l0.length : Int)) = true := decide_eq_true c4
    have c4b1 : decide (0 < l0.length) = true := decide_eq_true (by omega)
    clear c4
    obtain ⟨ji5, hji5⟩ : ∃ j_ : Int, (wrap64 ((l0.length : Int) - 1)) = j_ := ⟨_, rfl⟩
    replace H : (if 0 ≤ (ji5) then (if (ji5) < (l0.length : Int) then (if ((rd_T39 l0 (ji5)).f1) = a1 then (some (l0.set ((ji5) : Int).toNat (⟨(rd_T39 l0 (ji5)).f0, a2⟩ : S39))) else (if l0.length < 8796093022208 then (some (l0 ++ [(⟨a1, a2⟩ : S39)])) else (none))) else (none)) else (none)) = some r := by first | (rw [hji5] at H; exact H) | (simp only [hji5] at H ⊢; exact H)
    have hji5w : (IntKind.i64.wrap ((l0.length : Int) - 1)) = ji5 := (i64_w _).trans hji5
    by_cases c6 : 0 ≤ (ji5)
    · rw [if_pos c6] at H
      have c6b0 : decide (0 ≤ (ji5)) = true := decide_eq_true c6
      clear c6
      by_cases c7 : (ji5) < (l0.length : Int)
      · rw [if_pos c7] at H
        have c7b0 : decide ((ji5) < (l0.length : Int)) = true := decide_eq_true c7
        clear c7
        by_cases c8 : ((rd_T39 l0 (ji5)).f1) = a1
        · rw [if_pos c8] at H
          have c8b0 : (((rd_T39 l0 (ji5)).f1) == a1) = true := beq_iff_eq.mpr c8
          have c8b1 : (((rd_T39 l0 (ji5)).f1) != a1) = false := bne_eq_false_iff_eq.mpr c8
          clear c8
          obtain ⟨y104, hy104⟩ : ∃ y_ : List (S39), y_ = (l0.set ((ji5) : Int).toNat (⟨(rd_T39 l0 (ji5)).f0, a2⟩ : S39)) := ⟨_, rfl⟩
          replace H : (some y104) = some r := by first | (rw [hy104]; with_reducible exact H) | (have H2_ := (Option.bind_some _ _).symm.trans H; rw [hy104]; with_reducible exact H2_) | (have H2_ := (Option.bind_some _ _).symm.trans H; with_reducible exact H2_) | with_reducible exact H | (rw [hy104]; exact H) | exact H
          have Ny104 := Aside0.mk hy104
          clear hy104
          obtain rfl := Option.some.inj H
          obtain ⟨Ao10, co10, eo10⟩ := Kd.R_slice HO0.out
          subst eo10
          have p103 : 0 ≤ ((ji5) : Int) := of_decide_eq_true (by first | (with_reducible assumption) | assumption)
          have q103 : (ji5) < (l0.length : Int) := of_decide_eq_true (by first | (with_reducible assumption) | assumption)
          obtain ⟨ad103, e103, hx103_0, hx103_1⟩ := at_T39 (Kd.R_reads' HO0.out).2.2 (ji5) p103 q103
          cases e103
          replace p103 := eq_true p103
          replace q103 := eq_true q103
          have p9 : 0 ≤ ((ji5) : Int) := of_decide_eq_true (by first | (with_reducible assumption) | assumption)
          have q9 : ((ji5) : Int) < ((l0.length : Int) : Int) := of_decide_eq_true (by first | (with_reducible assumption) | assumption)
          obtain ⟨go9, co9, eo9, gb9, gl9, cl9, HG9⟩ := Kd.R_form HO0.out (by omega)
          (first | cases eo9 | (injection eo9 with ea_ en_ ec_; (first | subst ea_ | (injection ea_ with ea_; subst ea_)); subst ec_; clear en_))
          have GB9 := Aside0.mk gb9
          have GG9 := Aside0.mk HG9
          clear gb9 gl9 HG9
          have HMgo9 := Aside0.mk (show (P0_ go9 ∨ w.heap.size ≤ go9) from (HO0.out.1 _ rfl))
          (first | simp only [add_plain] at hx103_0 | skip)
          (first | simp only [add_plain] at hx103_1 | skip)
          obtain ⟨ce9, hcl9, hM9, hcc9, hfr9⟩ := Kd.R_elem HO0.out z39 ((ji5) : Int) p9 q9
          obtain rfl := k39_openM hM9
          have hx9_0 : w.cell? ⟨go9, ((ji5) : Int).toNat * 2, none⟩ = some (.int .i64 ((rd_T39 l0 (ji5)).f0)) := hcc9 0 _ rfl
          have hx9_1 : w.cell? ⟨go9, ((ji5) : Int).toNat * 2 + 1, none⟩ = some (.int .i64 ((rd_T39 l0 (ji5)).f1)) := hcc9 1 _ rfl
          have hf9_0 : w.frozen? ⟨go9, ((ji5) : Int).toNat * 2, none⟩ = false := hfr9 0
          have hf9_1 : w.frozen? ⟨go9, ((ji5) : Int).toNat * 2 + 1, none⟩ = false := hfr9 1
          clear hcl9 hcc9 hfr9 hM9
          replace p9 := eq_true p9
          replace q9 := eq_true q9
          have HX11 := Aside0.mk (show Kd.R k39 39 w w0.heap.size (fun k_ => (P0_ k_ ∨ w.heap.size ≤ k_)) (.slice (some ⟨go9, 0, none⟩) l0.length co10) l0 from (by (with_reducible repeat (first | apply Kd.R_alloc | apply Kd.R_drewN | apply Kd.R_drew)); exact HO0.out))
          obtain ⟨ce11, hcl11, hM11, hcc11, hfr11⟩ := Kd.R_elem HX11.out z39 ((ji5) : Int) (of_decide_eq_true (by first | (with_reducible assumption) | assumption)) (by have h_ : ((ji5) : Int) < ((l0.length : Int) : Int) := of_decide_eq_true (by first | (with_reducible assumption) | assumption); first | exact h_ | (have e_ := (Kd.R_reads' HO0.out).1; omega) | simpa using h_)
          obtain rfl := k39_openM hM11
          have HP11 := Kd.R_seg HX11.out ((ji5) : Int) (of_decide_eq_true (by first | (with_reducible assumption) | assumption)) (by have h_ : ((ji5) : Int) < ((l0.length : Int) : Int) := of_decide_eq_true (by first | (with_reducible assumption) | assumption); first | exact h_ | (have e_ := (Kd.R_reads' HO0.out).1; omega) | simpa using h_) (seg := [.int .i64 a2]) (j := 1) hcl11 hcc11 (show 2 ≤ 2 from by decide) (x' := (⟨(rd_T39 l0 (ji5)).f0, a2⟩ : S39)) (k39_mkM _ _ _ (⟨(rd_T39 l0 (ji5)).f0, a2⟩ : S39) ) (fun _ hk => hk)
          have hx11_1 := hcc11 1 _ rfl
          (try simp only [show (k39).sz = 2 from rfl, Nat.mul_one, Nat.add_zero] at hx11_1)
          have hf11_1 := hfr11 1
          (try simp only [show (k39).sz = 2 from rfl, Nat.mul_one, Nat.add_zero] at hf11_1)
          clear hcl11 hcc11 hfr11 hM11
          go_enter Try.func48, Try.ntmps48
          go_wp2_with (first | ((with_reducible refine gate_store (t := 3) (p := 27) rfl ?_); refine store_event (t := 3) (p := 27) (v := ?vo_w12) (w1 := (w.setCell ⟨go9, ((ji5) : Int).toNat * 2 + 1, none⟩ (.int .i64 a2))) ?hg ?ho ?hn ?hr ?_; (case ho => rfl); (case hg => rfl); (case hn => rfl); (case hr => first | (go_simp; done) | (go_simp; rfl)); intro w12 hw; have hg : w.grownBy w12 (some go9) := (by rw [hw]; exact HP11.2); have hp_ : Kd.R k39 39 w12 w0.heap.size (fun k_ => (P0_ k_ ∨ w.heap.size ≤ k_)) (.slice (some ⟨go9, 0, none⟩) l0.length co10) y104 := (by rw [hw, Ny104.out]; exact HP11.1); clear HP11; have n0_ := Aside0.mk (hp_); have n1_ := Aside0.mk ((by rw [hw]; exact below_set (HB.out) GB9.out : Below w0.heap.size w0 w12)); have n2_ := Aside0.mk (Kept.of_grown (S := (fun k_ => P0_ k_)) hg (by repeat (first | (with_reducible first | exact HK.out | apply Kept.alloc | apply Kept.drewN | apply Kept.drew) | exact HK.out)) (fun k_ e_ => (HO0.out.1 k_ e_))); clear HO0; clear HB; clear HK; have HO0 := n0_; have HB := n1_; have HK := n2_; clear n0_ n1_ n2_; clear hg hw hp_))
          go_ret
          exact ⟨_, by first | rfl | (simp [errW_none, errW_some] <;> rfl) | (simp only [← hji5]; first | rfl | (simp [errW_none, errW_some] <;> rfl)) | (simp [*, errW_none, errW_some] <;> rfl), by (with_reducible repeat (first | apply Kd.R_alloc | apply Kd.R_drewN | apply Kd.R_drew)); exact HO0.out, by repeat (first | (with_reducible first | exact HB.out | apply below_alloc | apply pw_below_drewN | apply below_drew1) | exact HB.out), by repeat (first | (with_reducible first | exact HK.out | apply Kept.alloc | apply Kept.drewN | apply Kept.drew) | exact HK.out)⟩
        · rw [if_neg c8] at H
          have c8b0 : (((rd_T39 l0 (ji5)).f1) == a1) = false := beq_eq_false_iff_ne.mpr c8
          have c8b1 : (((rd_T39 l0 (ji5)).f1) != a1) = true := bne_iff_ne.mpr c8
          by_cases c13 : l0.length < 8796093022208
          · rw [if_pos c13] at H
            have LMc13 := Aside0.mk c13
            clear c13
            obtain ⟨y105, hy105⟩ : ∃ y_ : List (S39), y_ = (l0 ++ [(⟨a1, a2⟩ : S39)]) := ⟨_, rfl⟩
            replace H : (some y105) = some r := by first | (rw [hy105]; with_reducible exact H) | (have H2_ := (Option.bind_some _ _).symm.trans H; rw [hy105]; with_reducible exact H2_) | (have H2_ := (Option.bind_some _ _).symm.trans H; with_reducible exact H2_) | with_reducible exact H | (rw [hy105]; exact H) | exact H
            have Ny105 := Aside0.mk hy105
            clear hy105
            obtain rfl := Option.some.inj H
            obtain ⟨Ao14, co14, eo14⟩ := Kd.R_slice HO0.out
            subst eo14
            have p103 : 0 ≤ ((ji5) : Int) := of_decide_eq_true (by first | (with_reducible assumption) | assumption)
            have q103 : (ji5) < (l0.length : Int) := of_decide_eq_true (by first | (with_reducible assumption) | assumption)
            obtain ⟨ad103, e103, hx103_0, hx103_1⟩ := at_T39 (Kd.R_reads' HO0.out).2.2 (ji5) p103 q103
            cases e103
            replace p103 := eq_true p103
            replace q103 := eq_true q103
            go_enter Try.func48, Try.ntmps48
            go_wp2_with (first | ((with_reducible refine gate_builtin (b := .append) (xs := #[.tmp 29, .tmp 33]) rfl ?_); at_builtin; refine Kd.R_append k39 (w0 := w0) w0.heap.size rfl (.tmp 29) (.tmp 33) 22 39 (.agg #[(.int .i64 0), (.int .i64 0)]) 16 rfl Try.underlying22 info39 rfl (by decide) (by omega) (.slice (some ad103) l0.length co14) l0 (⟨a1, a2⟩ : S39) [.int .i64 a1, .int .i64 a2] (fun k_ => (P0_ k_ ∨ w.heap.size ≤ k_)) (fun _ => False) rfl rfl ?aP (fun _ hk => hk.elim) ?aF ?aO ?aB ?aS ?aL ?_; (case aP => exact k39_mkM _ _ _ (⟨a1, a2⟩ : S39)); (case aB => exact (by repeat (first | (with_reducible first | exact HB.out | apply below_alloc | apply pw_below_drewN | apply below_drew1) | exact HB.out))); (case aF => exact (fun k_ hk => (.inr (Nat.le_trans (by first | exact HK.out.1 | exact (show Kept w _ (fun k_ => P0_ k_) from by repeat (first | (with_reducible first | exact HK.out | apply Kept.alloc | apply Kept.drewN | apply Kept.drew) | exact HK.out)).1) hk)))); (case aO => exact (by (with_reducible repeat (first | apply Kd.R_alloc | apply Kd.R_drewN | apply Kd.R_drew)); exact HO0.out)); (case aS => exact (below_size (by repeat (first | (with_reducible first | exact HB.out | apply below_alloc | apply pw_below_drewN | apply below_drew1) | exact HB.out)))); (case aL => have := LMc13.out; omega); intro v106 w15 ho hb hg hat; rw [← Ny105.out] at ho; have n0_ := Aside0.mk (hb); have n1_ := Aside0.mk (Kept.of_grown (S := (fun k_ => P0_ k_)) hg (by repeat (first | (with_reducible first | exact HK.out | apply Kept.alloc | apply Kept.drewN | apply Kept.drew) | exact HK.out)) (fun k_ e_ => (HO0.out.1 k_ e_))); have n2_ := Aside0.mk (ho); clear HB; clear HK; clear HO0; have HB := n0_; have HK := n1_; have HO107 := n2_; clear n0_ n1_ n2_; clear ho hb hg hat))
            go_ret
            exact ⟨_, by first | rfl | (simp [errW_none, errW_some] <;> rfl) | (simp only [← hji5]; first | rfl | (simp [errW_none, errW_some] <;> rfl)) | (simp [*, errW_none, errW_some] <;> rfl), by (with_reducible repeat (first | apply Kd.R_alloc | apply Kd.R_drewN | apply Kd.R_drew)); exact HO107.out, by repeat (first | (with_reducible first | exact HB.out | apply below_alloc | apply pw_below_drewN | apply below_drew1) | exact HB.out), by repeat (first | (with_reducible first | exact HK.out | apply Kept.alloc | apply Kept.drewN | apply Kept.drew) | exact HK.out)⟩
          · rw [if_neg c13] at H
            exact absurd H (by simp)
      · rw [if_neg c7] at H
        exact absurd H (by simp)
    · rw [if_neg c6] at H
      exact absurd H (by simp)
  · rw [if_neg c4] at H
    have c4b0 : decide (0 < (l0.length : Int)) = false := decide_eq_false c4
    have c4b1 : decide (0 < l0.length) = false := decide_eq_false (by omega)
    clear c4
    by_cases c16 : l0.length < 8796093022208
    · rw [if_pos c16] at H
      have LMc16 := Aside0.mk c16
      clear c16
      obtain ⟨y108, hy108⟩ : ∃ y_ : List (S39), y_ = (l0 ++ [(⟨a1, a2⟩ : S39)]) := ⟨_, rfl⟩
      replace H : (some y108) = some r := by first | (rw [hy108]; with_reducible exact H) | (have H2_ := (Option.bind_some _ _).symm.trans H; rw [hy108]; with_reducible exact H2_) | (have H2_ := (Option.bind_some _ _).symm.trans H; with_reducible exact H2_) | with_reducible exact H | (rw [hy108]; exact H) | exact H
      have Ny108 := Aside0.mk hy108
      clear hy108
      obtain rfl := Option.some.inj H
      obtain ⟨Ao17, co17, eo17⟩ := Kd.R_slice HO0.out
      subst eo17
      go_enter Try.func48, Try.ntmps48
      go_wp2_with (first | ((with_reducible refine gate_builtin (b := .append) (xs := #[.tmp 29, .tmp 33]) rfl ?_); at_builtin; refine Kd.R_append k39 (w0 := w0) w0.heap.size rfl (.tmp 29) (.tmp 33) 22 39 (.agg #[(.int .i64 0), (.int .i64 0)]) 16 rfl Try.underlying22 info39 rfl (by decide) (by omega) (.slice Ao17 l0.length co17) l0 (⟨a1, a2⟩ : S39) [.int .i64 a1, .int .i64 a2] (fun k_ => (P0_ k_ ∨ w.heap.size ≤ k_)) (fun _ => False) rfl rfl ?aP (fun _ hk => hk.elim) ?aF ?aO ?aB ?aS ?aL ?_; (case aP => exact k39_mkM _ _ _ (⟨a1, a2⟩ : S39)); (case aB => exact (by repeat (first | (with_reducible first | exact HB.out | apply below_alloc | apply pw_below_drewN | apply below_drew1) | exact HB.out))); (case aF => exact (fun k_ hk => (.inr (Nat.le_trans (by first | exact HK.out.1 | exact (show Kept w _ (fun k_ => P0_ k_) from by repeat (first | (with_reducible first | exact HK.out | apply Kept.alloc | apply Kept.drewN | apply Kept.drew) | exact HK.out)).1) hk)))); (case aO => exact (by (with_reducible repeat (first | apply Kd.R_alloc | apply Kd.R_drewN | apply Kd.R_drew)); exact HO0.out)); (case aS => exact (below_size (by repeat (first | (with_reducible first | exact HB.out | apply below_alloc | apply pw_below_drewN | apply below_drew1) | exact HB.out)))); (case aL => have := LMc16.out; omega); intro v109 w18 ho hb hg hat; rw [← Ny108.out] at ho; have n0_ := Aside0.mk (hb); have n1_ := Aside0.mk (Kept.of_grown (S := (fun k_ => P0_ k_)) hg (by repeat (first | (with_reducible first | exact HK.out | apply Kept.alloc | apply Kept.drewN | apply Kept.drew) | exact HK.out)) (fun k_ e_ => (HO0.out.1 k_ e_))); have n2_ := Aside0.mk (ho); clear HB; clear HK; clear HO0; have HB := n0_; have HK := n1_; have HO110 := n2_; clear n0_ n1_ n2_; clear ho hb hg hat))
      go_ret
      exact ⟨_, by first | rfl | (simp [errW_none, errW_some] <;> rfl) | (simp [*, errW_none, errW_some] <;> rfl), by (with_reducible repeat (first | apply Kd.R_alloc | apply Kd.R_drewN | apply Kd.R_drew)); exact HO110.out, by repeat (first | (with_reducible first | exact HB.out | apply below_alloc | apply pw_below_drewN | apply below_drew1) | exact HB.out), by repeat (first | (with_reducible first | exact HK.out | apply Kept.alloc | apply Kept.drewN | apply Kept.drew) | exact HK.out)⟩
    · rw [if_neg c16] at H
      exact absurd H (by simp)
end Go.Proofs.Ytingbjdpjimikaa.FBase
namespace Go.Proofs.Ytingbjdpjimikaa.FBase
open Go.RowKit Go.Proofs.YtingbjdpjimikaaW.PrintWords Go.Proofs.YtingbjdpjimikaaW.PrintLast Go.Proofs.YtingbjdpjimikaaW.PrintMore
attribute [local go_sem] max2_int min2_int max_two min_two max_three min_three max_four min_four   -- for this text's walks alone
theorem eqA39 (d : Nat) (w : World) (x0 y0 : Int) (x1 y1 : Int) :
    (Op.equalIn (d + 2) 39 (.agg #[.int .i64 x0, .int .i64 x1]) (.agg #[.int .i64 y0, .int .i64 y1])).run Try.prog w = .ok (x0 == y0 && (x1 == y1)) w := by
  refine eqA_of Try.underlying39 (by kernel_rfl) ?_
  refine eqf_cons (by rfl) (by go_simp; rfl) (by go_simp; rfl) (by go_simp) ?_
  exact eqf_last (by rfl) (by go_simp; rfl) (by go_simp; rfl) (by go_simp)
end Go.Proofs.Ytingbjdpjimikaa.FBase
namespace Go.Proofs.Ytingbjdpjimikaa.FBase
open Go.RowKit Go.Proofs.YtingbjdpjimikaaW.PrintWords Go.Proofs.YtingbjdpjimikaaW.PrintLast Go.Proofs.YtingbjdpjimikaaW.PrintMore
attribute [local go_sem] max2_int min2_int max_two min_two max_three min_three max_four min_four   -- for this text's walks alone
attribute [local go_sem high] eqA39
mutual
def colophonlaw17_is.j0 : Nat → List (S39) → List Int → Bool → Option (Bool)
  | 0, _, _, _ => none
  | k + 1, x0, x2, x17 => if x17 = true then (some false) else (colophonlaw17_is.l0 k x0 x2 0)
def colophonlaw17_is.l0 : Nat → List (S39) → List Int → Int → Option (Bool)
  | 0, _, _, _ => none
  | k + 1, x0, x2, x7 => if x7 < (x0.length : Int) then (if 0 ≤ x7 then (if 0 ≤ (wrap64 (2 * x7)) then (if (wrap64 (2 * x7)) < (x2.length : Int) then (if 0 ≤ (wrap64 ((wrap64 (2 * x7)) + 1)) then (if (wrap64 ((wrap64 (2 * x7)) + 1)) < (x2.length : Int) then (if (!(((rd_T39 x0 x7).f0) == (rd x2 (wrap64 (2 * x7)))) || (!(((rd_T39 x0 x7).f1) == (rd x2 (wrap64 ((wrap64 (2 * x7)) + 1)))))) = true then (some false) else (colophonlaw17_is.l0 k x0 x2 (wrap64 (x7 + 1)))) else (none)) else (none)) else (none)) else (none)) else (none)) else (some true)
end
def colophonlaw17_is.f (k : Nat) (l0 : List (S39)) (a1 : Int) (l2 : List Int) : Option (Bool) := if a1 = 0 then (colophonlaw17_is.j0 k l0 l2 ((wrap64 (2 * (l0.length : Int))) != (l2.length : Int))) else (colophonlaw17_is.j0 k l0 l2 true)
theorem colophonlaw17_is.mono_l : ∀ k, (∀ y0 y1 y2, LeO (colophonlaw17_is.j0 k y0 y1 y2) (colophonlaw17_is.j0 (k + 1) y0 y1 y2)) ∧ (∀ y0 y1 y2, LeO (colophonlaw17_is.l0 k y0 y1 y2) (colophonlaw17_is.l0 (k + 1) y0 y1 y2))
  | 0 => ⟨fun _ _ _ r h => by simp [colophonlaw17_is.j0] at h, fun _ _ _ r h => by simp [colophonlaw17_is.l0] at h⟩
  | k + 1 => by
    obtain ⟨ih0, ih1⟩ := colophonlaw17_is.mono_l k
    refine ⟨?_, ?_⟩
    · intro y0 y1 y2
      unfold colophonlaw17_is.j0
      repeat' first
      | (with_reducible exact ih0 _ _ _)
      | (with_reducible exact ih1 _ _ _)
      | (with_reducible exact LeO.refl _)
      | (with_reducible exact LeO.none _)
      | (with_reducible refine LeO.ite ?_ ?_)
      | (with_reducible refine LeO.bind ?_ (fun _ => ?_))
      | exact ih0 _ _ _
      | exact ih1 _ _ _
      | exact LeO.none _
      | refine LeO.ite ?_ ?_
      | refine LeO.bind ?_ (fun _ => ?_)
    · intro y0 y1 y2
      unfold colophonlaw17_is.l0
      repeat' first
      | (with_reducible exact ih0 _ _ _)
      | (with_reducible exact ih1 _ _ _)
      | (with_reducible exact LeO.refl _)
      | (with_reducible exact LeO.none _)
      | (with_reducible refine LeO.ite ?_ ?_)
      | (with_reducible refine LeO.bind ?_ (fun _ => ?_))
      | exact ih0 _ _ _
      | exact ih1 _ _ _
      | exact LeO.none _
      | refine LeO.ite ?_ ?_
      | refine LeO.bind ?_ (fun _ => ?_)
theorem colophonlaw17_is.mono : ∀ a0 a1 a2 k, LeO (colophonlaw17_is.f k a0 a1 a2) (colophonlaw17_is.f (k + 1) a0 a1 a2) := by
  intro a0 a1 a2 k
  obtain ⟨ih0, ih1⟩ := colophonlaw17_is.mono_l k
  unfold colophonlaw17_is.f
  repeat' first
      | (with_reducible exact ih0 _ _ _)
      | (with_reducible exact ih1 _ _ _)
      | (with_reducible exact LeO.refl _)
      | (with_reducible exact LeO.none _)
      | (with_reducible refine LeO.ite ?_ ?_)
      | (with_reducible refine LeO.bind ?_ (fun _ => ?_))
      | exact ih0 _ _ _
      | exact ih1 _ _ _
      | exact LeO.none _
      | refine LeO.ite ?_ ?_
      | refine LeO.bind ?_ (fun _ => ?_)
set_option maxHeartbeats 8000000 in
set_option maxRecDepth 100000 in
theorem colophonlaw17_is.calls (k : Nat) (A0 : Option Addr) (c0 : Nat) (l0 : List (S39)) (a1 : Int) (A2 : Option Addr) (c2 : Nat) (l2 : List Int) (r : Bool) (w : World) (hr0 : Kd.C k39 w A0 l0.length l0) (hc0 : l0.length ≤ c0) (hr2 : Kd.C (Kd.int .i64) w A2 l2.length l2) (hc2 : l2.length ≤ c2) (h : colophonlaw17_is.f k l0 a1 l2 = some r) :
    Calls Try.prog 34 #[.slice A0 l0.length c0, .int .i64 a1, .slice A2 l2.length c2] w fun e w' => e = .returned (.bool r) ∧ Drawn0 w w' := by
  have hu39 := Try.underlying39
  have HR0 := Aside0.mk hr0
  have HC0 := Aside0.mk hc0
  clear hr0 hc0
  have HR2 := Aside0.mk hr2
  have HC2 := Aside0.mk hc2
  clear hr2 hc2
  have H : (if a1 = 0 then (colophonlaw17_is.j0 k l0 l2 ((wrap64 (2 * (l0.length : Int))) != (l2.length : Int))) else (colophonlaw17_is.j0 k l0 l2 true)) = some r := h
  clear h
  have HC4 := Aside0.mk H
  clear H
  go_enter Try.func34, Try.ntmps34
  go_upto_region 1 with (fail)
  repeat (go_quiet (fail); go_upto_region 1 with (fail))
  go_cut [17] (fun v17 wc => ∃ (kq : Nat) (x17_3 : Bool), v17 = .bool x17_3 ∧ Aside0 (colophonlaw17_is.j0 kq l0 l2 x17_3 = some r) ∧ Aside0 (kq ≤ k) ∧ Drawn0 w wc)
  case first =>
    have H := HC4.out
    clear HC4
    by_cases c5 : a1 = 0
    · rw [if_pos c5] at H
      have c5b0 : (a1 == 0) = true := beq_iff_eq.mpr c5
      have c5b1 : (a1 != 0) = false := bne_eq_false_iff_eq.mpr c5
      clear c5
      (first | rw [c5b0] | (simp only [i64_w, i32_w]; rw [c5b0]) | skip)
      have H' := Aside0.mk H
      clear H
      go_wp2
      repeat (go_quiet (fail); try go_wp2)
      go_meet
      case rel => exact ⟨_, (((wrap64 (2 * (l0.length : Int))) != (l2.length : Int))), (by first | rfl | (simp; done) | (simp [*]; done)), H', ⟨by first | omega | exact Nat.le_refl _⟩, by repeat (first | exact Drawn0.refl _ | apply Drawn0.step)⟩
    · rw [if_neg c5] at H
      have c5b0 : (a1 == 0) = false := beq_eq_false_iff_ne.mpr c5
      have c5b1 : (a1 != 0) = true := bne_iff_ne.mpr c5
      (first | rw [c5b0] | (simp only [i64_w, i32_w]; rw [c5b0]) | skip)
      have H' := Aside0.mk H
      clear H
      go_wp2
      repeat (go_quiet (fail); try go_wp2)
      go_meet
      case rel => exact ⟨_, (true), (by first | rfl | (simp; done) | (simp [*]; done)), H', ⟨by first | omega | exact Nat.le_refl _⟩, by repeat (first | exact Drawn0.refl _ | apply Drawn0.step)⟩
  case rest =>
    clear HC4
    try clear c2
    try clear p2
    try clear c3
    try clear c5
    try clear c5b0
    try clear c5b1
    obtain ⟨kq, x17_3, rfl, HA, HJ3, ⟨mc3, rfl⟩⟩ := hcut
    cases kq with
    | zero => exact absurd HA.out (by simp [colophonlaw17_is.j0])
    | succ kj3 =>
      have H := HA.out
      clear HA
      simp only [colophonlaw17_is.j0] at H
      by_cases c6 : x17_3 = true
      · subst c6
        have H1 : (some false) = some r := by rw [if_pos rfl] at H; exact H
        clear H
        have H := H1
        clear H1
        obtain rfl := Option.some.inj H
        go_wp2
        repeat (go_quiet (fail); try go_wp2)
        go_ret
        exact ⟨by first | rfl | (simp; done) | (simp [*]; done), by repeat (first | exact Drawn0.refl _ | apply Drawn0.step)⟩
      · replace c6 := Bool.eq_false_iff.mpr c6
        subst c6
        have H1 : (colophonlaw17_is.l0 kj3 l0 l2 0) = some r := by rw [if_neg (show ¬ (false = true) by decide)] at H; exact H
        clear H
        have H := H1
        clear H1
        have H' := Aside0.mk H
        clear H
        go_wp2
        repeat (go_quiet (fail); try go_wp2)
        go_loopg [7] kj3 (fun kq v7 w' => ∃ (x7_2 : Int), v7 = .int .i64 x7_2 ∧ Aside0 (colophonlaw17_is.l0 kq l0 l2 x7_2 = some r) ∧ Aside0 (kq ≤ kj3) ∧ Drawn0 w w')
        case atStart => exact ⟨(0), (by first | rfl | (simp; done) | (simp [*]; done)), H', ⟨Nat.le_refl _⟩, by repeat (first | exact Drawn0.refl _ | apply Drawn0.step)⟩
        case round =>
          clear H'
          try clear c2
          try clear p2
          try clear c3
          try clear c5
          try clear c5b0
          try clear c5b1
          try clear c6
          try clear p6
          try clear p2
          obtain ⟨x7_2, rfl, HA, HK2, ⟨m2, rfl⟩⟩ := hrel
          cases gk with
          | zero => exact absurd HA.out (by simp [colophonlaw17_is.l0])
          | succ k2 =>
            have H := HA.out
            clear HA
            simp only [colophonlaw17_is.l0] at H
            by_cases c7 : x7_2 < (l0.length : Int)
            · rw [if_pos c7] at H
              have c7b0 : decide (x7_2 < (l0.length : Int)) = true := decide_eq_true c7
              clear c7
              by_cases c8 : 0 ≤ x7_2
              · rw [if_pos c8] at H
                have c8b0 : decide (0 ≤ x7_2) = true := decide_eq_true c8
                clear c8
                obtain ⟨ji9, hji9⟩ : ∃ j_ : Int, (wrap64 (2 * x7_2)) = j_ := ⟨_, rfl⟩
                replace H : (if 0 ≤ (ji9) then (if (ji9) < (l2.length : Int) then (if 0 ≤ (wrap64 ((ji9) + 1)) then (if (wrap64 ((ji9) + 1)) < (l2.length : Int) then (if (!(((rd_T39 l0 x7_2).f0) == (rd l2 (ji9))) || (!(((rd_T39 l0 x7_2).f1) == (rd l2 (wrap64 ((ji9) + 1)))))) = true then (some false) else (colophonlaw17_is.l0 k2 l0 l2 (wrap64 (x7_2 + 1)))) else (none)) else (none)) else (none)) else (none)) = some r := by first | (rw [hji9] at H; exact H) | (simp only [hji9] at H ⊢; exact H)
                have hji9w : (IntKind.i64.wrap (2 * x7_2)) = ji9 := (i64_w _).trans hji9
                by_cases c10 : 0 ≤ (ji9)
                · rw [if_pos c10] at H
                  have c10b0 : decide (0 ≤ (ji9)) = true := decide_eq_true c10
                  clear c10
                  by_cases c11 : (ji9) < (l2.length : Int)
                  · rw [if_pos c11] at H
                    have c11b0 : decide ((ji9) < (l2.length : Int)) = true := decide_eq_true c11
                    clear c11
                    obtain ⟨ji12, hji12⟩ : ∃ j_ : Int, (wrap64 ((ji9) + 1)) = j_ := ⟨_, rfl⟩
                    replace H : (if 0 ≤ (ji12) then (if (ji12) < (l2.length : Int) then (if (!(((rd_T39 l0 x7_2).f0) == (rd l2 (ji9))) || (!(((rd_T39 l0 x7_2).f1) == (rd l2 (ji12))))) = true then (some false) else (colophonlaw17_is.l0 k2 l0 l2 (wrap64 (x7_2 + 1)))) else (none)) else (none)) = some r := by first | (rw [hji12] at H; exact H) | (simp only [hji12] at H ⊢; exact H)
                    have hji12w : (IntKind.i64.wrap ((ji9) + 1)) = ji12 := (i64_w _).trans hji12
                    by_cases c13 : 0 ≤ (ji12)
                    · rw [if_pos c13] at H
                      have c13b0 : decide (0 ≤ (ji12)) = true := decide_eq_true c13
                      clear c13
                      by_cases c14 : (ji12) < (l2.length : Int)
                      · rw [if_pos c14] at H
                        have c14b0 : decide ((ji12) < (l2.length : Int)) = true := decide_eq_true c14
                        clear c14
                        by_cases c15 : (!(((rd_T39 l0 x7_2).f0) == (rd l2 (ji9))) || (!(((rd_T39 l0 x7_2).f1) == (rd l2 (ji12))))) = true
                        · rw [if_pos c15] at H
                          have c15b0 : (!(((rd_T39 l0 x7_2).f0) == (rd l2 (ji9))) || (!(((rd_T39 l0 x7_2).f1) == (rd l2 (ji12))))) = true := c15
                          clear c15
                          obtain rfl := Option.some.inj H
                          have p173 : 0 ≤ (x7_2 : Int) := of_decide_eq_true (by first | (with_reducible assumption) | assumption)
                          have q173 : x7_2 < (l0.length : Int) := of_decide_eq_true (by first | (with_reducible assumption) | assumption)
                          obtain ⟨ad173, e173, hx173_0, hx173_1⟩ := at_T39 HR0.out x7_2 p173 q173
                          cases e173
                          replace p173 := eq_true p173
                          replace q173 := eq_true q173
                          have p174 : 0 ≤ ((ji9) : Int) := of_decide_eq_true (by first | (with_reducible assumption) | assumption)
                          have q174 : (ji9) < (l2.length : Int) := of_decide_eq_true (by first | (with_reducible assumption) | assumption)
                          obtain ⟨ad174, e174, hx174_0⟩ := Kd.at_int HR2.out (ji9) p174 q174
                          cases e174
                          replace p174 := eq_true p174
                          replace q174 := eq_true q174
                          have p175 : 0 ≤ ((ji12) : Int) := of_decide_eq_true (by first | (with_reducible assumption) | assumption)
                          have q175 : (ji12) < (l2.length : Int) := of_decide_eq_true (by first | (with_reducible assumption) | assumption)
                          obtain ⟨ad175, e175, hx175_0⟩ := Kd.at_int HR2.out (ji12) p175 q175
                          obtain rfl : ad174 = ad175 := (by injection e175)
                          replace p175 := eq_true p175
                          replace q175 := eq_true q175
                          go_wp2
                          repeat (go_quiet (fail); try go_wp2)
                          go_ret
                          exact ⟨by first | rfl | (simp; done) | (simp only [← hji9, ← hji12] <;> (first | rfl | simp)) | (simp [*]; done), by repeat (first | exact Drawn0.refl _ | apply Drawn0.step)⟩
                        · rw [if_neg c15] at H
                          have c15b0 : (!(((rd_T39 l0 x7_2).f0) == (rd l2 (ji9))) || (!(((rd_T39 l0 x7_2).f1) == (rd l2 (ji12))))) = false := by simpa using c15
                          clear c15
                          have H' := Aside0.mk H
                          clear H
                          have p173 : 0 ≤ (x7_2 : Int) := of_decide_eq_true (by first | (with_reducible assumption) | assumption)
                          have q173 : x7_2 < (l0.length : Int) := of_decide_eq_true (by first | (with_reducible assumption) | assumption)
                          obtain ⟨ad173, e173, hx173_0, hx173_1⟩ := at_T39 HR0.out x7_2 p173 q173
                          cases e173
                          replace p173 := eq_true p173
                          replace q173 := eq_true q173
                          have p174 : 0 ≤ ((ji9) : Int) := of_decide_eq_true (by first | (with_reducible assumption) | assumption)
                          have q174 : (ji9) < (l2.length : Int) := of_decide_eq_true (by first | (with_reducible assumption) | assumption)
                          obtain ⟨ad174, e174, hx174_0⟩ := Kd.at_int HR2.out (ji9) p174 q174
                          cases e174
                          replace p174 := eq_true p174
                          replace q174 := eq_true q174
                          have p175 : 0 ≤ ((ji12) : Int) := of_decide_eq_true (by first | (with_reducible assumption) | assumption)
                          have q175 : (ji12) < (l2.length : Int) := of_decide_eq_true (by first | (with_reducible assumption) | assumption)
                          obtain ⟨ad175, e175, hx175_0⟩ := Kd.at_int HR2.out (ji12) p175 q175
                          obtain rfl : ad174 = ad175 := (by injection e175)
                          replace p175 := eq_true p175
                          replace q175 := eq_true q175
                          go_wp2
                          repeat (go_quiet (fail); try go_wp2)
                          go_roundg k2
                          case measure => have := HJ3.out; have := HK2.out; omega
                          case rel => exact ⟨(wrap64 (x7_2 + 1)), (by first | rfl | (simp; done) | (simp [*]; done)), H', ⟨by have := HJ3.out; have := HK2.out; omega⟩, by repeat (first | exact Drawn0.refl _ | apply Drawn0.step)⟩
                      · rw [if_neg c14] at H
                        exact absurd H (by simp)
                    · rw [if_neg c13] at H
                      exact absurd H (by simp)
                  · rw [if_neg c11] at H
                    exact absurd H (by simp)
                · rw [if_neg c10] at H
                  exact absurd H (by simp)
              · rw [if_neg c8] at H
                exact absurd H (by simp)
            · rw [if_neg c7] at H
              have c7b0 : decide (x7_2 < (l0.length : Int)) = false := decide_eq_false c7
              clear c7
              obtain rfl := Option.some.inj H
              go_wp2
              repeat (go_quiet (fail); try go_wp2)
              go_ret
              exact ⟨by first | rfl | (simp; done) | (simp [*]; done), by repeat (first | exact Drawn0.refl _ | apply Drawn0.step)⟩
def colophonlaw17_set.f (a0 : Int) (a1 : Int) : Option ((List (S39))) := some (([(⟨a0, a1⟩ : S39)] : List (S39)))
set_option maxHeartbeats 8000000 in
set_option maxRecDepth 100000 in
theorem colophonlaw17_set.calls (a0 : Int) (a1 : Int) (r : List (S39)) (w : World) (h : colophonlaw17_set.f a0 a1 = some r) :
    Calls Try.prog 33 #[.int .i64 a0, .int .i64 a1] w fun e w' => ∃ v0_ : Value, e = .returned (v0_) ∧ Kd.R k39 39 w' w.heap.size (fun _ => True) v0_ r ∧ Below w.heap.size w w' := by
  have hu39 := Try.underlying39
  have HB := Aside0.mk (Below.refl w.heap.size w)
  have H : (some (([(⟨a0, a1⟩ : S39)] : List (S39)))) = some r := h
  clear h
  obtain ⟨y176, hy176⟩ : ∃ y_ : List (S39), y_ = (([(⟨a0, a1⟩ : S39)] : List (S39))) := ⟨_, rfl⟩
  replace H : (some y176) = some r := by first | (rw [hy176]; with_reducible exact H) | (have H2_ := (Option.bind_some _ _).symm.trans H; rw [hy176]; with_reducible exact H2_) | (have H2_ := (Option.bind_some _ _).symm.trans H; with_reducible exact H2_) | with_reducible exact H | (rw [hy176]; exact H) | exact H
  have Ny176 := Aside0.mk hy176
  clear hy176
  obtain rfl := Option.some.inj H
  go_enter Try.func33, Try.ntmps33
  go_wp2_with (first | ((with_reducible refine gate_dst (N := 8) rfl ?_); refine Kd.R_lit k39 _ 39 ?hg (N := 8) ?hd (xs := ([(⟨a0, a1⟩ : S39)] : List (S39))) (inner := [.int .i64 a0, .int .i64 a1]) (ok := fun _ => True) (okp := fun _ => True) ?hr ?hp (fun _ hk => hk) trivial (Below.refl _ _) (Nat.le_refl _) (by simp) ?_; (case hd => rfl); (case hg => rfl); (case hr => first | (go_simp; done) | (go_simp; rfl)); (case hp => exact (Reps.c2 (show Kd.M k39 _ _ _ (⟨a0, a1⟩ : S39) [.int .i64 a0, .int .i64 a1] from (k39_mkM _ _ _ (⟨a0, a1⟩ : S39) )) (Reps.none _ _))); intro v177 w3 ho4 hb hg_ hnew_; clear hg_ hnew_; (first | rw [← Ny176.out] at ho4 | (simp only [Int.reduceToNat] at ho4; rw [← Ny176.out] at ho4)); have n0_ := Aside0.mk (Kd.R_lower ho4 (below_size (by repeat (first | (with_reducible first | exact HB.out | apply below_alloc | apply pw_below_drewN | apply below_drew1) | exact HB.out)))); have n1_ := Aside0.mk (below_step (by repeat (first | (with_reducible first | exact HB.out | apply below_alloc | apply pw_below_drewN | apply below_drew1) | exact HB.out)) hb); clear HB; have HO178 := n0_; have HB := n1_; clear n0_ n1_; clear hb ho4))
  go_ret
  exact ⟨_, by first | rfl | (simp [errW_none, errW_some] <;> rfl) | (simp [*, errW_none, errW_some] <;> rfl), by (with_reducible repeat (first | apply Kd.R_alloc | apply Kd.R_drewN | apply Kd.R_drew)); exact HO178.out, by repeat (first | (with_reducible first | exact HB.out | apply below_alloc | apply pw_below_drewN | apply below_drew1) | exact HB.out)⟩
def colophonlaw17_span.f (a0 : Int) (a1 : Int) : Option (Int × Int) := some (a0, a1)
set_option maxHeartbeats 8000000 in
set_option maxRecDepth 100000 in
theorem colophonlaw17_span.calls (a0 : Int) (a1 : Int) (r1 : Int) (r2 : Int) (w : World) (h : colophonlaw17_span.f a0 a1 = some (r1, r2)) :
    Calls Try.prog 28 #[.int .i64 a0, .int .i64 a1] w fun e w' => e = .returned (.agg #[.int .i64 r1, .int .i64 r2]) ∧ Below w.heap.size w w' := by
  have hu39 := Try.underlying39
  have HB := Aside0.mk (Below.refl w.heap.size w)
  have H : (some (a0, a1)) = some (r1, r2) := h
  clear h
  simp only [Option.some.injEq, Prod.mk.injEq] at H
  obtain ⟨rfl, rfl⟩ := H
  go_enter Try.func28, Try.ntmps28
  go_wp2_with (first | ((with_reducible refine gate_dst (N := 4) rfl ?_); refine box_event ?hg (N := 4) ?hd (cs := #[.int .i64 0, .int .i64 0]) (t := 39) ?hr ?_; (case hd => rfl); (case hg => rfl); (case hr => first | (go_simp; done) | (go_simp; rfl)); intro gb179 hg w3 hbox hb; have n0_ := Aside0.mk (below_step (by repeat (first | (with_reducible first | exact HB.out | apply below_alloc | apply pw_below_drewN | apply below_drew1) | exact HB.out)) hb); have n1_ := Aside0.mk (hbox); have n2_ := Aside0.mk ((by rw [hg]; exact (below_size (by repeat (first | (with_reducible first | exact HB.out | apply below_alloc | apply pw_below_drewN | apply below_drew1) | exact HB.out))) : w.heap.size ≤ gb179)); have n3_ := Aside0.mk ((by rw [hg]; exact (below_size (by repeat (first | (with_reducible first | exact HB.out | apply below_alloc | apply pw_below_drewN | apply below_drew1) | exact HB.out))) : w.heap.size ≤ gb179)); clear HB; have HB := n0_; have BK179 := n1_; have GW179 := n2_; have GE179 := n3_; clear n0_ n1_ n2_ n3_; clear hb hbox hg; have hcz4_0 : w3.cell? ⟨gb179, 0, none⟩ = some (.int .i64 0) := (blk_cell BK179.out 0).trans rfl; have hcz4_1 : w3.cell? ⟨gb179, 1, none⟩ = some (.int .i64 0) := (blk_cell BK179.out 1).trans rfl; have hfz4_0 := blk_frozen BK179.out 0; have hfz4_1 := blk_frozen BK179.out 1))
  refine bodyPost_ret (results_cell_row rfl _ _ gb179 39 #[.int .i64 a0, .int .i64 a1] (0, 0) _ rfl (by (with_reducible repeat (first | refine blk_drewN ?_ _ | refine blk_drew ?_ | refine blk_alloc ?_ _)); refine blk_put (cs := #[.int .i64 a0, .int .i64 0]) ?_ 1 _ rfl; (with_reducible repeat (first | refine blk_drewN ?_ _ | refine blk_drew ?_ | refine blk_alloc ?_ _)); refine blk_put (cs := #[.int .i64 0, .int .i64 0]) ?_ 0 _ rfl; (with_reducible repeat (first | refine blk_drewN ?_ _ | refine blk_drew ?_ | refine blk_alloc ?_ _)); exact BK179.out) Try.underlying39 rfl (by kernel_rfl)) rfl ?_
  exact ⟨by first | rfl | (simp [errW_none, errW_some] <;> rfl) | (simp [*, errW_none, errW_some] <;> rfl), by repeat (first | (with_reducible first | exact HB.out | apply below_alloc | apply pw_below_drewN | apply below_drew1 | refine below_set ?_ GE179.out) | exact HB.out)⟩
end Go.Proofs.Ytingbjdpjimikaa.FBase
namespace Go.Proofs.Ytingbjdpjimikaa.B
open Go.RowKit Go.Proofs Go.Proofs.YtingbjdpjimikaaW.PrintWords Go.Proofs.YtingbjdpjimikaaW.PrintLast Go.Proofs.YtingbjdpjimikaaW.PrintMore Go.Proofs.Ytingbjdpjimikaa.FBase
abbrev Sp := S39
def inS (x : Sp) (c : Int) : Bool := decide (x.f0 ≤ c) && decide (c < x.f1)
def sHas (l : List Sp) (c : Int) : Bool := l.any fun x => inS x c
theorem sHas_nil (c : Int) : sHas [] c = false := rfl
theorem sHas_cons (x : Sp) (l : List Sp) (c : Int) : sHas (x :: l) c = (inS x c || sHas l c) := rfl
theorem sHas_app (l m : List Sp) (c : Int) : sHas (l ++ m) c = (sHas l c || sHas m c) := List.any_append
theorem inS_iff (x : Sp) (c : Int) : inS x c = true ↔ x.f0 ≤ c ∧ c < x.f1 := by
  unfold inS
  rw [Bool.and_eq_true, decide_eq_true_eq, decide_eq_true_eq]
theorem inS_no {x : Sp} {c : Int} (h : ¬ (x.f0 ≤ c ∧ c < x.f1)) : inS x c = false := by
  cases hh : inS x c with
  | false => rfl
  | true => exact absurd ((inS_iff x c).1 hh) h
theorem sHas_perm {l m : List Sp} (h : l.Perm m) (c : Int) : sHas l c = sHas m c := by
  unfold sHas
  exact h.any_eq
def Sep : Int → List Sp → Prop
  | _, [] => True
  | lo, x :: r => lo ≤ x.f0 ∧ x.f0 < x.f1 ∧ Sep (x.f1 + 1) r
theorem Sep.below : ∀ {s : List Sp} {lo : Int}, Sep lo s → ∀ c, c < lo → sHas s c = false
  | [], _, _, _, _ => rfl
  | x :: r, lo, h, c, hc => by
    rw [sHas_cons, inS_no (by have := h.1; omega), h.2.2.below c (by have := h.1; have := h.2.1; omega)]
    rfl
theorem Sep.uniq : ∀ {s t : List Sp} {lo lo' : Int}, Sep lo s → Sep lo' t → (∀ c, sHas s c = sHas t c) → s = t
  | [], [], _, _, _, _, _ => rfl
  | [], y :: t, _, _, _, ht, h => by
    have := h y.f0
    rw [sHas_nil, sHas_cons, (inS_iff y y.f0).2 ⟨Int.le_refl _, ht.2.1⟩] at this
    cases this
  | x :: s, [], _, _, hs, _, h => by
    have := h x.f0
    rw [sHas_nil, sHas_cons, (inS_iff x x.f0).2 ⟨Int.le_refl _, hs.2.1⟩] at this
    cases this
  | x :: s, y :: t, lo, lo', hs, ht, h => by
    have e0 : x.f0 = y.f0 := by
      rcases Int.lt_trichotomy x.f0 y.f0 with hlt | heq | hgt
      · have h1 := h x.f0
        rw [sHas_cons, (inS_iff x x.f0).2 ⟨Int.le_refl _, hs.2.1⟩, Bool.true_or, Sep.below (show Sep y.f0 (y :: t) from ⟨Int.le_refl _, ht.2.1, ht.2.2⟩) x.f0 hlt] at h1
        cases h1
      · exact heq
      · have h1 := h y.f0
        rw [sHas_cons y, (inS_iff y y.f0).2 ⟨Int.le_refl _, ht.2.1⟩, Bool.true_or, Sep.below (show Sep x.f0 (x :: s) from ⟨Int.le_refl _, hs.2.1, hs.2.2⟩) y.f0 hgt] at h1
        cases h1
    have e1 : x.f1 = y.f1 := by
      have hx := hs.2.1
      have hy := ht.2.1
      rcases Int.lt_trichotomy x.f1 y.f1 with hlt | heq | hgt
      · have h1 := h x.f1
        rw [sHas_cons, sHas_cons, inS_no (x := x) (by omega), Sep.below hs.2.2 x.f1 (by omega), (inS_iff y x.f1).2 ⟨by omega, hlt⟩] at h1
        cases h1
      · exact heq
      · have h1 := h y.f1
        rw [sHas_cons, sHas_cons, inS_no (x := y) (by omega), Sep.below ht.2.2 y.f1 (by omega), (inS_iff x y.f1).2 ⟨by omega, hgt⟩] at h1
        cases h1
    have exy : x = y := by
      cases x; cases y
      simp only at e0 e1
      rw [e0, e1]
    subst exy
    have : s = t := Sep.uniq hs.2.2 ht.2.2 fun c => by
      by_cases hc : c < x.f1 + 1
      · rw [Sep.below hs.2.2 c hc, Sep.below ht.2.2 c hc]
      · have := h c
        rwa [sHas_cons, sHas_cons, inS_no (x := x) (by omega), Bool.false_or, Bool.false_or] at this
    rw [this]
def sAdd : List Sp → Int → Int → List Sp
  | [], a, b => [⟨a, b⟩]
  | [x], a, b => if x.f1 = a then [⟨x.f0, b⟩] else [x, ⟨a, b⟩]
  | x :: y :: r, a, b => x :: sAdd (y :: r) a b
theorem sAdd_ok : ∀ (s : List Sp) (lo a b : Int), Sep lo s → (∀ x ∈ s, x.f1 ≤ a) → lo ≤ a → a < b →
    Sep lo (sAdd s a b) ∧ (∀ x ∈ sAdd s a b, x.f1 ≤ b) ∧ ∀ c, sHas (sAdd s a b) c = (sHas s c || (decide (a ≤ c) && decide (c < b)))
  | [], lo, a, b, _, _, hlo, hab => by
    refine ⟨⟨hlo, hab, trivial⟩, fun x hx => ?_, fun c => ?_⟩
    · obtain rfl := List.mem_singleton.1 hx
      exact Int.le_refl _
    · rw [show sAdd [] a b = [⟨a, b⟩] from rfl, sHas_cons, sHas_nil, Bool.or_false, Bool.false_or]
      rfl
  | [x], lo, a, b, hs, hf, hlo, hab => by
    have hxa := hf x (by simp)
    by_cases h : x.f1 = a
    · rw [show sAdd [x] a b = [⟨x.f0, b⟩] from if_pos h]
      refine ⟨⟨hs.1, by have := hs.2.1; show x.f0 < b; omega, trivial⟩, fun y hy => ?_, fun c => ?_⟩
      · obtain rfl := List.mem_singleton.1 hy
        exact Int.le_refl _
      · rw [sHas_cons, sHas_nil, Bool.or_false, sHas_cons, sHas_nil, Bool.or_false]
        have := hs.2.1
        unfold inS
        simp only
        rw [← h]
        by_cases h1 : x.f0 ≤ c <;> by_cases h2 : c < b <;> by_cases h3 : c < x.f1 <;> simp [h1, h2, h3] <;> omega
    · rw [show sAdd [x] a b = [x, ⟨a, b⟩] from if_neg h]
      refine ⟨⟨hs.1, hs.2.1, by show x.f1 + 1 ≤ a; omega, hab, trivial⟩, fun y hy => ?_, fun c => ?_⟩
      · rcases List.mem_cons.1 hy with rfl | hy
        · omega
        · obtain rfl := List.mem_singleton.1 hy
          exact Int.le_refl _
      · rw [sHas_cons, sHas_cons, sHas_nil, Bool.or_false, sHas_cons, sHas_nil, Bool.or_false]
        rfl
  | x :: y :: r, lo, a, b, hs, hf, hlo, hab => by
    have h1 := sAdd_ok (y :: r) (x.f1 + 1) a b hs.2.2 (fun z hz => hf z (List.mem_cons_of_mem _ hz)) (by have := hf y (by simp); have := hs.2.2.1; have := hs.2.2.2.1; omega) hab
    refine ⟨⟨hs.1, hs.2.1, h1.1⟩, fun z hz => ?_, fun c => ?_⟩
    · rcases List.mem_cons.1 hz with rfl | hz
      · have := hf z (by simp); omega
      · exact h1.2.1 z hz
    · rw [show sAdd (x :: y :: r) a b = x :: sAdd (y :: r) a b from rfl, sHas_cons, h1.2.2 c, sHas_cons x, Bool.or_assoc]
theorem sAdd_len : ∀ (s : List Sp) (a b : Int), (sAdd s a b).length ≤ s.length + 1
  | [], _, _ => by simp [sAdd]
  | [x], a, b => by unfold sAdd; split <;> simp
  | x :: y :: r, a, b => by
    have := sAdd_len (y :: r) a b
    rw [show sAdd (x :: y :: r) a b = x :: sAdd (y :: r) a b from rfl, List.length_cons, List.length_cons]
    omega
def mkS (p : Int → Bool) : List Int → List Sp → List Sp
  | a :: b :: r, s => mkS p (b :: r) (if p a then sAdd s a b else s)
  | _, s => s
def Ris (l : List Int) : Prop := l.Pairwise (· < ·)
def hit (p : Int → Bool) : List Int → Int → Bool
  | a :: b :: r, x => (p a && (decide (a ≤ x) && decide (x < b))) || hit p (b :: r) x
  | _, _ => false
theorem mkS_ok (p : Int → Bool) : ∀ (c : List Int) (s : List Sp) (lo : Int), Ris c → Sep lo s → (∀ a, c.head? = some a → lo ≤ a ∧ ∀ x ∈ s, x.f1 ≤ a) →
    Sep lo (mkS p c s) ∧ ∀ x, sHas (mkS p c s) x = (sHas s x || hit p c x)
  | [], s, lo, _, hs, _ => ⟨hs, fun x => by rw [show mkS p [] s = s from rfl, show hit p [] x = false from rfl, Bool.or_false]⟩
  | [a], s, lo, _, hs, _ => ⟨hs, fun x => by rw [show mkS p [a] s = s from rfl, show hit p [a] x = false from rfl, Bool.or_false]⟩
  | a :: b :: r, s, lo, hc, hs, hh => by
    have hab : a < b := (List.pairwise_cons.1 hc).1 b (by simp)
    have hh1 := hh a rfl
    rw [show mkS p (a :: b :: r) s = mkS p (b :: r) (if p a then sAdd s a b else s) from rfl]
    cases hp : p a with
    | true =>
      have h1 := sAdd_ok s lo a b hs hh1.2 hh1.1 hab
      have h2 := mkS_ok p (b :: r) (sAdd s a b) lo (List.pairwise_cons.1 hc).2 h1.1 (fun z hz => by
        obtain rfl : b = z := by simpa using hz
        exact ⟨by omega, h1.2.1⟩)
      refine ⟨h2.1, fun x => ?_⟩
      rw [if_pos rfl, h2.2 x, h1.2.2 x, show hit p (a :: b :: r) x = ((p a && (decide (a ≤ x) && decide (x < b))) || hit p (b :: r) x) from rfl, hp, Bool.true_and, Bool.or_assoc]
    | false =>
      have h2 := mkS_ok p (b :: r) s lo (List.pairwise_cons.1 hc).2 hs (fun z hz => by
        obtain rfl : b = z := by simpa using hz
        exact ⟨by omega, fun x hx => by have := hh1.2 x hx; omega⟩)
      refine ⟨h2.1, fun x => ?_⟩
      rw [if_neg (by simp), h2.2 x, show hit p (a :: b :: r) x = ((p a && (decide (a ≤ x) && decide (x < b))) || hit p (b :: r) x) from rfl, hp, Bool.false_and, Bool.false_or]
theorem hit_is (p : Int → Bool) : ∀ (c : List Int) (x : Int), Ris c → (∀ a ∈ c, a ≤ x → (∀ b ∈ c, b ≤ x → b ≤ a) → p a = p x) →
    hit p c x = (p x && (decide (c.headD (x + 1) ≤ x) && decide (x < c.getLastD x)))
  | [], x, _, _ => by simp [hit]
  | [a], x, _, _ => by simp [hit]
  | a :: b :: r, x, hc, h => by
    have hc2 := List.pairwise_cons.1 hc
    have hab : a < b := hc2.1 b (by simp)
    have hl : ∀ d, (a :: b :: r).getLastD d = (b :: r).getLastD a := fun d => rfl
    have hbl : ∀ (l : List Int) (b : Int), Ris (b :: l) → b ≤ (b :: l).getLastD a := by
      intro l
      induction l with
      | nil => intro b _; exact Int.le_refl _
      | cons y l ih =>
        intro b hb
        have h1 := List.pairwise_cons.1 hb
        have h2 := ih y h1.2
        have h3 := h1.1 y (by simp)
        exact Int.le_trans (Int.le_of_lt h3) h2
    have hlast := hbl r b hc2.2
    rw [show hit p (a :: b :: r) x = ((p a && (decide (a ≤ x) && decide (x < b))) || hit p (b :: r) x) from rfl]
    by_cases hx : b ≤ x
    · have ih := hit_is p (b :: r) x hc2.2 (fun z hz hzx hm => h z (List.mem_cons_of_mem _ hz) hzx (fun y hy hyx => by
        rcases List.mem_cons.1 hy with rfl | hy
        · have := hm b (by simp) hx; omega
        · exact hm y hy hyx))
      rw [ih]
      have e1 : decide (x < b) = false := decide_eq_false (by omega)
      have e2 : decide (a ≤ x) = true := decide_eq_true (by omega)
      have e3 : decide (b ≤ x) = true := decide_eq_true hx
      rw [e1, Bool.and_false, Bool.and_false, Bool.false_or]
      show (p x && (decide (b ≤ x) && decide (x < (b :: r).getLastD x))) = (p x && (decide (a ≤ x) && decide (x < (b :: r).getLastD a)))
      rw [e2, e3]
      rfl
    · have hz : ∀ (l : List Int), Ris l → (∀ y ∈ l, x < y) → hit p l x = false := by
        intro l
        induction l with
        | nil => intros; rfl
        | cons y l ih =>
          intro hl hy
          cases l with
          | nil => rfl
          | cons z l =>
            rw [show hit p (y :: z :: l) x = ((p y && (decide (y ≤ x) && decide (x < z))) || hit p (z :: l) x) from rfl, decide_eq_false (by have := hy y (by simp); omega), ih (List.pairwise_cons.1 hl).2 (fun w hw => hy w (List.mem_cons_of_mem _ hw))]
            simp
      have h0 : hit p (b :: r) x = false := hz _ hc2.2 (fun y hy => by
        rcases List.mem_cons.1 hy with rfl | hy
        · omega
        · have := (List.pairwise_cons.1 hc2.2).1 y hy; omega)
      rw [h0, Bool.or_false]
      have e1 : decide (x < b) = true := decide_eq_true (by omega)
      show (p a && (decide (a ≤ x) && decide (x < b))) = (p x && (decide (a ≤ x) && decide (x < (b :: r).getLastD a)))
      rw [e1, show decide (x < (b :: r).getLastD a) = true from decide_eq_true (by omega)]
      by_cases ha : a ≤ x
      · rw [h a (by simp) ha (fun y hy hyx => by
          rcases List.mem_cons.1 hy with rfl | hy
          · exact Int.le_refl _
          · rcases List.mem_cons.1 hy with rfl | hy
            · omega
            · have := (List.pairwise_cons.1 hc2.2).1 y hy; omega)]
      · rw [decide_eq_false ha]
        simp
def ins : List Int → Int → List Int
  | [], _ => []
  | a :: r, n => if n ≤ a then (if n < a then n :: a :: r else a :: r) else a :: ins r n
theorem ins_mem : ∀ (l : List Int) (n : Int), (∃ a ∈ l, n ≤ a) → ∀ x, x ∈ ins l n ↔ x = n ∨ x ∈ l
  | [], n, h, x => by obtain ⟨a, ha, _⟩ := h; cases ha
  | a :: r, n, h, x => by
    unfold ins
    by_cases h1 : n ≤ a
    · rw [if_pos h1]
      by_cases h2 : n < a
      · rw [if_pos h2]; simp
      · rw [if_neg h2]
        have : n = a := by omega
        subst this
        simp
    · rw [if_neg h1]
      have h3 : ∃ b ∈ r, n ≤ b := by
        obtain ⟨b, hb, hn⟩ := h
        rcases List.mem_cons.1 hb with rfl | hb
        · exact absurd hn h1
        · exact ⟨b, hb, hn⟩
      rw [List.mem_cons, ins_mem r n h3 x, List.mem_cons]
      constructor
      · rintro (h | h | h)
        · exact .inr (.inl h)
        · exact .inl h
        · exact .inr (.inr h)
      · rintro (h | h | h)
        · exact .inr (.inl h)
        · exact .inl h
        · exact .inr (.inr h)
theorem ins_ris : ∀ (l : List Int) (n : Int), Ris l → Ris (ins l n)
  | [], n, h => h
  | a :: r, n, h => by
    unfold ins
    have h1 := List.pairwise_cons.1 h
    by_cases h2 : n ≤ a
    · rw [if_pos h2]
      by_cases h3 : n < a
      · rw [if_pos h3]
        refine List.pairwise_cons.2 ⟨fun x hx => ?_, h⟩
        rcases List.mem_cons.1 hx with rfl | hx
        · exact h3
        · have := h1.1 x hx; omega
      · rw [if_neg h3]; exact h
    · rw [if_neg h2]
      refine List.pairwise_cons.2 ⟨fun x hx => ?_, ins_ris r n h1.2⟩
      by_cases h3 : ∃ b ∈ r, n ≤ b
      · rcases (ins_mem r n h3 x).1 hx with rfl | hx
        · omega
        · exact h1.1 x hx
      · have hno : ∀ (l : List Int), (¬ ∃ b ∈ l, n ≤ b) → ins l n = l := by
          intro l
          induction l with
          | nil => intro _; rfl
          | cons y l ih =>
            intro h
            unfold ins
            rw [if_neg (fun hy => h ⟨y, by simp, hy⟩), ih (fun ⟨b, hb, hn⟩ => h ⟨b, List.mem_cons_of_mem _ hb, hn⟩)]
        rw [hno r h3] at hx
        exact h1.1 x hx
theorem ins_len : ∀ (l : List Int) (n : Int), (ins l n).length ≤ l.length + 1
  | [], n => by simp [ins]
  | a :: r, n => by
    unfold ins
    have := ins_len r n
    split
    · split <;> simp
    · simp only [List.length_cons]; omega
def cutsOf (l : List Sp) : List Int := l.foldl (fun c x => ins (ins c x.f0) x.f1) [0, 1114112]
def may (x : Sp) : Prop := 0 ≤ x.f0 ∧ x.f0 ≤ x.f1 ∧ x.f1 ≤ 1114112
theorem cuts_step (l : List Sp) : ∀ (c : List Int), Ris c → (1114112 : Int) ∈ c → (∀ x ∈ c, x ≤ 1114112) → (∀ x ∈ l, may x) →
    Ris (l.foldl (fun c x => ins (ins c x.f0) x.f1) c) ∧ (∀ y, y ∈ l.foldl (fun c x => ins (ins c x.f0) x.f1) c ↔ y ∈ c ∨ ∃ x ∈ l, y = x.f0 ∨ y = x.f1) := by
  induction l with
  | nil => intro c h _ _ _; exact ⟨h, fun y => by simp⟩
  | cons x l ih =>
    intro c h he hle hm
    have hx := hm x (by simp)
    have m1 := ins_mem c x.f0 ⟨1114112, he, by have := hx.2.1; have := hx.2.2; omega⟩
    have he1 : (1114112 : Int) ∈ ins c x.f0 := (m1 _).2 (.inr he)
    have m2 := ins_mem (ins c x.f0) x.f1 ⟨1114112, he1, hx.2.2⟩
    have hle2 : ∀ y ∈ ins (ins c x.f0) x.f1, y ≤ 1114112 := fun y hy => by
      rcases (m2 y).1 hy with rfl | hy
      · exact hx.2.2
      · rcases (m1 y).1 hy with rfl | hy
        · have := hx.2.1; have := hx.2.2; omega
        · exact hle y hy
    have := ih (ins (ins c x.f0) x.f1) (ins_ris _ _ (ins_ris _ _ h)) ((m2 _).2 (.inr he1)) hle2 (fun y hy => hm y (List.mem_cons_of_mem _ hy))
    refine ⟨this.1, fun y => (this.2 y).trans ?_⟩
    rw [m2 y, m1 y]
    constructor
    · rintro ((h | h | h) | ⟨z, hz, h⟩)
      · exact .inr ⟨x, by simp, .inr h⟩
      · exact .inr ⟨x, by simp, .inl h⟩
      · exact .inl h
      · exact .inr ⟨z, List.mem_cons_of_mem _ hz, h⟩
    · rintro (h | ⟨z, hz, h⟩)
      · exact .inl (.inr (.inr h))
      · rcases List.mem_cons.1 hz with rfl | hz
        · rcases h with h | h
          · exact .inl (.inr (.inl h))
          · exact .inl (.inl h)
        · exact .inr ⟨z, hz, h⟩
theorem cutsOf_ok (l : List Sp) (hm : ∀ x ∈ l, may x) : Ris (cutsOf l) ∧ ∀ y, y ∈ cutsOf l ↔ (y = 0 ∨ y = 1114112) ∨ ∃ x ∈ l, y = x.f0 ∨ y = x.f1 := by
  have h := cuts_step l [0, 1114112] (by unfold Ris; simp) (by simp) (by intro x hx; simp at hx; omega) hm
  refine ⟨h.1, fun y => (h.2 y).trans ?_⟩
  simp
theorem cuts_len (l : List Sp) : (cutsOf l).length ≤ 2 + 2 * l.length := by
  have : ∀ (l : List Sp) (c : List Int), (l.foldl (fun c x => ins (ins c x.f0) x.f1) c).length ≤ c.length + 2 * l.length := by
    intro l
    induction l with
    | nil => intro c; simp
    | cons x l ih =>
      intro c
      have h1 := ih (ins (ins c x.f0) x.f1)
      have h2 := ins_len (ins c x.f0) x.f1
      have h3 := ins_len c x.f0
      rw [List.foldl_cons, List.length_cons]
      omega
  exact this l [0, 1114112]
theorem Ris.uniq : ∀ {l m : List Int}, Ris l → Ris m → (∀ x, x ∈ l ↔ x ∈ m) → l = m
  | [], [], _, _, _ => rfl
  | [], y :: m, _, _, h => by have := (h y).2 (by simp); cases this
  | x :: l, [], _, _, h => by have := (h x).1 (by simp); cases this
  | x :: l, y :: m, hl, hm, h => by
    have h1 := List.pairwise_cons.1 hl
    have h2 := List.pairwise_cons.1 hm
    have e : x = y := by
      rcases List.mem_cons.1 ((h x).1 (by simp)) with e | hx
      · exact e
      · rcases List.mem_cons.1 ((h y).2 (by simp)) with e | hy
        · exact e.symm
        · have := h2.1 x hx; have := h1.1 y hy; omega
    subst e
    rw [Ris.uniq h1.2 h2.2 fun z => ?_]
    constructor
    · intro hz
      rcases List.mem_cons.1 ((h z).1 (List.mem_cons_of_mem _ hz)) with e | hz2
      · have := h1.1 z hz; omega
      · exact hz2
    · intro hz
      rcases List.mem_cons.1 ((h z).2 (List.mem_cons_of_mem _ hz)) with e | hz2
      · have := h2.1 z hz; omega
      · exact hz2
theorem same_between {l : List Sp} {c : List Int} (h : ∀ x ∈ l, x.f0 ∈ c ∧ x.f1 ∈ c) {a x : Int} (hax : a ≤ x) (hn : ∀ b ∈ c, b ≤ x → b ≤ a) : sHas l a = sHas l x := by
  induction l with
  | nil => rfl
  | cons y l ih =>
    rw [sHas_cons, sHas_cons, ih (fun z hz => h z (List.mem_cons_of_mem _ hz))]
    have hy := h y (by simp)
    have h0 := hn y.f0 hy.1
    have h1 := hn y.f1 hy.2
    have : inS y a = inS y x := by
      unfold inS
      by_cases e0 : y.f0 ≤ x
      · have := h0 e0
        by_cases e1 : y.f1 ≤ x
        · have := h1 e1
          rw [decide_eq_false (show ¬ a < y.f1 by omega), decide_eq_false (show ¬ x < y.f1 by omega)]
          simp
        · rw [decide_eq_true (show y.f0 ≤ a by omega), decide_eq_true e0, decide_eq_true (show a < y.f1 by omega), decide_eq_true (show x < y.f1 by omega)]
      · rw [decide_eq_false (show ¬ y.f0 ≤ a by omega), decide_eq_false e0]
        rfl
    rw [this]
theorem mk_is (p : Int → Bool) (c : List Int) (hc : Ris c) (hm : ∀ y ∈ c, 0 ≤ y ∧ y ≤ 1114112) (h0 : (0 : Int) ∈ c) (h1 : (1114112 : Int) ∈ c) (hp : ∀ a ∈ c, ∀ x, a ≤ x → (∀ b ∈ c, b ≤ x → b ≤ a) → p a = p x) :
    Sep 0 (mkS p c []) ∧ ∀ x, sHas (mkS p c []) x = (p x && (decide (0 ≤ x) && decide (x < 1114112))) := by
  have h := mkS_ok p c [] 0 hc trivial (fun a ha => ⟨(hm a (by cases c with | nil => cases ha | cons y l => simp at ha; rw [ha]; simp)).1, fun x hx => nomatch hx⟩)
  refine ⟨h.1, fun x => ?_⟩
  rw [h.2 x, sHas_nil, Bool.false_or, hit_is p c x hc (fun a ha hax hn => hp a ha x hax hn)]
  cases c with
  | nil => cases h0
  | cons y l =>
    have hy : y = 0 := by
      rcases List.mem_cons.1 h0 with e | h0
      · exact e.symm
      · have := (List.pairwise_cons.1 hc).1 0 h0; have := (hm y (by simp)).1; omega
    have hz : (y :: l).getLastD x = 1114112 := by
      have hin : (y :: l).getLastD x ∈ y :: l := by rw [List.getLastD_cons]; exact List.getLastD_mem_cons
      have hub := (hm _ hin).2
      have hall : ∀ (l : List Int) (y : Int), Ris (y :: l) → ∀ b ∈ y :: l, b ≤ (y :: l).getLastD x := by
        intro l
        induction l with
        | nil => intro y _ b hb; obtain rfl := List.mem_singleton.1 hb; exact Int.le_refl _
        | cons z l ih =>
          intro y hl b hb
          have h2 := List.pairwise_cons.1 hl
          have h3 := ih z h2.2
          rcases List.mem_cons.1 hb with rfl | hb
          · have := h3 z (by simp); have := h2.1 z (by simp); show b ≤ (z :: l).getLastD x; omega
          · exact h3 b hb
      have := hall l y hc _ h1
      omega
    rw [show (y :: l).headD (x + 1) = y from rfl, hz, hy]
def sMrg : List Sp → Sp → List Sp
  | [], x => [x]
  | [y], x => if x.f0 ≤ y.f1 then [⟨y.f0, if y.f1 < x.f1 then x.f1 else y.f1⟩] else [y, x]
  | y :: z :: r, x => y :: sMrg (z :: r) x
theorem sMrg_ok : ∀ (s : List Sp) (lo : Int) (x : Sp), Sep lo s → (∀ y ∈ s, y.f0 ≤ x.f0) → lo ≤ x.f0 → x.f0 < x.f1 →
    Sep lo (sMrg s x) ∧ (∀ y ∈ sMrg s x, y.f0 ≤ x.f0) ∧ ∀ c, sHas (sMrg s x) c = (sHas s c || inS x c)
  | [], lo, x, _, _, hlo, hx => by
    refine ⟨⟨hlo, hx, trivial⟩, fun y hy => ?_, fun c => ?_⟩
    · obtain rfl := List.mem_singleton.1 hy
      exact Int.le_refl _
    · rw [show sMrg [] x = [x] from rfl, sHas_cons, sHas_nil, Bool.or_false, Bool.false_or]
  | [y], lo, x, hs, hf, hlo, hx => by
    have hyx := hf y (by simp)
    have hy := hs.2.1
    by_cases h : x.f0 ≤ y.f1
    · rw [show sMrg [y] x = [⟨y.f0, if y.f1 < x.f1 then x.f1 else y.f1⟩] from if_pos h]
      refine ⟨⟨hs.1, by show y.f0 < (if _ then _ else _); split <;> omega, trivial⟩, fun z hz => ?_, fun c => ?_⟩
      · obtain rfl := List.mem_singleton.1 hz
        exact hyx
      · rw [sHas_cons, sHas_nil, Bool.or_false, sHas_cons, sHas_nil, Bool.or_false]
        unfold inS
        simp only
        by_cases e : y.f1 < x.f1
        · rw [if_pos e]
          by_cases h1 : y.f0 ≤ c <;> by_cases h2 : c < x.f1 <;> by_cases h3 : c < y.f1 <;> by_cases h4 : x.f0 ≤ c <;> simp [h1, h2, h3, h4] <;> omega
        · rw [if_neg e]
          by_cases h1 : y.f0 ≤ c <;> by_cases h2 : c < x.f1 <;> by_cases h3 : c < y.f1 <;> by_cases h4 : x.f0 ≤ c <;> simp [h1, h2, h3, h4] <;> omega
    · rw [show sMrg [y] x = [y, x] from if_neg h]
      refine ⟨⟨hs.1, hs.2.1, by show y.f1 + 1 ≤ x.f0; omega, hx, trivial⟩, fun z hz => ?_, fun c => ?_⟩
      · rcases List.mem_cons.1 hz with rfl | hz
        · exact hyx
        · obtain rfl := List.mem_singleton.1 hz
          exact Int.le_refl _
      · rw [sHas_cons, sHas_cons, sHas_nil, Bool.or_false, sHas_cons, sHas_nil, Bool.or_false]
  | y :: z :: r, lo, x, hs, hf, hlo, hx => by
    have h2 := hs.2.2
    have hz := hf z (by simp)
    have h1 := sMrg_ok (z :: r) (y.f1 + 1) x h2 (fun w hw => hf w (List.mem_cons_of_mem _ hw)) (by have := h2.1; omega) hx
    refine ⟨⟨hs.1, hs.2.1, h1.1⟩, fun w hw => ?_, fun c => ?_⟩
    · rcases List.mem_cons.1 hw with rfl | hw
      · exact hf w (by simp)
      · exact h1.2.1 w hw
    · rw [show sMrg (y :: z :: r) x = y :: sMrg (z :: r) x from rfl, sHas_cons, h1.2.2 c, sHas_cons y, Bool.or_assoc]
theorem fold_mrg : ∀ (l s : List Sp), Sep 0 s → (∀ x ∈ l, 0 ≤ x.f0 ∧ x.f0 < x.f1) → l.Pairwise (fun a b => a.f0 ≤ b.f0) → (∀ y ∈ s, ∀ x ∈ l, y.f0 ≤ x.f0) →
    Sep 0 (l.foldl sMrg s) ∧ ∀ c, sHas (l.foldl sMrg s) c = (sHas s c || sHas l c)
  | [], s, hs, _, _, _ => ⟨hs, fun c => by rw [List.foldl_nil, sHas_nil, Bool.or_false]⟩
  | x :: l, s, hs, hl, hp, hf => by
    have hx := hl x (by simp)
    have h1 := sMrg_ok s 0 x hs (fun y hy => hf y hy x (by simp)) hx.1 hx.2
    have hp2 := List.pairwise_cons.1 hp
    have h2 := fold_mrg l (sMrg s x) h1.1 (fun y hy => hl y (List.mem_cons_of_mem _ hy)) hp2.2 (fun y hy z hz => Int.le_trans (h1.2.1 y hy) (hp2.1 z hz))
    refine ⟨h2.1, fun c => ?_⟩
    rw [List.foldl_cons, h2.2 c, h1.2.2 c, sHas_cons, Bool.or_assoc]
theorem sMrg_len : ∀ (s : List Sp) (x : Sp), (sMrg s x).length ≤ s.length + 1
  | [], _ => by simp [sMrg]
  | [y], x => by unfold sMrg; split <;> simp
  | y :: z :: r, x => by
    have := sMrg_len (z :: r) x
    rw [show sMrg (y :: z :: r) x = y :: sMrg (z :: r) x from rfl, List.length_cons, List.length_cons]
    omega
def chkS : Int → List Sp → Bool
  | _, [] => true
  | last, x :: r => decide (last < x.f0) && (decide (x.f0 < x.f1) && (decide (x.f1 ≤ 1114112) && chkS x.f1 r))
def sCheck (l : List Sp) : Int := if 256 < l.length then 5 else if chkS (-1) l then 0 else 2
theorem chkS_sep : ∀ (l : List Sp) (last : Int), chkS last l = true ↔ Sep (last + 1) l ∧ ∀ x ∈ l, x.f1 ≤ 1114112
  | [], last => by simp [chkS, Sep]
  | x :: l, last => by
    rw [show chkS last (x :: l) = (decide (last < x.f0) && (decide (x.f0 < x.f1) && (decide (x.f1 ≤ 1114112) && chkS x.f1 l))) from rfl]
    rw [Bool.and_eq_true, Bool.and_eq_true, Bool.and_eq_true, decide_eq_true_eq, decide_eq_true_eq, decide_eq_true_eq, chkS_sep l x.f1]
    constructor
    · rintro ⟨h1, h2, h3, h4, h5⟩
      refine ⟨⟨by omega, h2, h4⟩, fun y hy => ?_⟩
      rcases List.mem_cons.1 hy with rfl | hy
      · exact h3
      · exact h5 y hy
    · rintro ⟨⟨h1, h2, h3⟩, h4⟩
      exact ⟨by omega, h2, h4 x (by simp), h3, fun y hy => h4 y (List.mem_cons_of_mem _ hy)⟩
theorem sCheck_ok (l : List Sp) : sCheck l = 0 ↔ l.length ≤ 256 ∧ Sep 0 l ∧ ∀ x ∈ l, x.f1 ≤ 1114112 := by
  unfold sCheck
  have h := chkS_sep l (-1)
  by_cases h1 : 256 < l.length
  · rw [if_pos h1]
    constructor
    · intro h; cases h
    · intro h; omega
  · rw [if_neg h1]
    cases hc : chkS (-1) l with
    | true =>
      rw [if_pos rfl]
      exact ⟨fun _ => ⟨by omega, h.1 hc⟩, fun _ => rfl⟩
    | false =>
      rw [if_neg (by simp)]
      constructor
      · intro h; cases h
      · rintro ⟨_, h2, h3⟩
        rw [h.2 ⟨h2, h3⟩] at hc
        cases hc
theorem Sep.may : ∀ {l : List Sp} {lo : Int}, 0 ≤ lo → Sep lo l → (∀ x ∈ l, x.f1 ≤ 1114112) → ∀ x ∈ l, B.may x
  | [], _, _, _, _ => fun x hx => nomatch hx
  | y :: l, lo, h0, hs, he => fun x hx => by
    rcases List.mem_cons.1 hx with rfl | hx
    · exact ⟨by have := hs.1; omega, by have := hs.2.1; omega, he x (by simp)⟩
    · exact Sep.may (by have := hs.1; have := hs.2.1; omega) hs.2.2 (fun z hz => he z (List.mem_cons_of_mem _ hz)) x hx
theorem rdS {l : List Sp} {i : Nat} (h : i < l.length) : rd_T39 l (i : Int) = l[i] := by simp [rd_T39, List.getD, h]
theorem rdI {l : List Int} {i : Nat} (h : i < l.length) : rd l (i : Int) = l[i] := by simp [rd, List.getD, h]
theorem w1 {i : Nat} (h : i ≤ 4611686018427387904) : wrap64 ((i : Int) + 1) = ((i + 1 : Nat) : Int) := by unfold wrap64; omega
theorem check_l (l : List Sp) (hl : l.length ≤ 4611686018427387904) : ∀ (n i k : Nat) (last : Int), l.length - i = n → n < k → charset_Check.l0 k last l (l.length : Int) i = some (if chkS last (l.drop i) then 0 else 2)
  | n, i, 0, _, _, h => absurd h (Nat.not_lt_zero _)
  | n, i, k + 1, last, hn, hk => by
    unfold charset_Check.l0
    by_cases hi : i < l.length
    · rw [if_pos (by omega), if_pos (by omega), if_pos (by omega), rdS hi, w1 (by omega), List.drop_eq_getElem_cons hi]
      have ih := check_l l hl (n - 1) (i + 1) k l[i].f1 (by omega) (by omega)
      rw [ih, show chkS last (l[i] :: l.drop (i + 1)) = (decide (last < l[i].f0) && (decide (l[i].f0 < l[i].f1) && (decide (l[i].f1 ≤ 1114112) && chkS l[i].f1 (l.drop (i + 1))))) from rfl]
      by_cases h0 : l[i].f0 ≤ last
      · rw [if_pos h0, decide_eq_false (show ¬ last < l[i].f0 by omega)]; rfl
      · rw [if_neg h0, decide_eq_true (show last < l[i].f0 by omega)]
        by_cases h1 : l[i].f1 ≤ l[i].f0
        · rw [if_pos h1, decide_eq_false (show ¬ l[i].f0 < l[i].f1 by omega)]; rfl
        · rw [if_neg h1, decide_eq_true (show l[i].f0 < l[i].f1 by omega)]
          by_cases h2 : l[i].f1 > 1114112
          · rw [if_pos h2, decide_eq_false (show ¬ l[i].f1 ≤ 1114112 by omega)]; rfl
          · rw [if_neg h2, decide_eq_true (show l[i].f1 ≤ 1114112 by omega)]; rfl
    · rw [if_neg (by omega), List.drop_eq_nil_of_le (by omega)]
      rfl
theorem check_f (l : List Sp) (hl : l.length ≤ 4611686018427387904) {k : Nat} (hk : l.length < k) : charset_Check.f k l = some (sCheck l) := by
  unfold charset_Check.f sCheck
  by_cases h : 256 < l.length
  · rw [if_pos (by omega), if_pos h]
  · rw [if_neg (by omega), if_neg h]
    exact check_l l hl l.length 0 k (-1) (by omega) hk
instance decSp : DecidableEq Sp := fun a b =>
  if h : a.f0 = b.f0 ∧ a.f1 = b.f1 then isTrue (by cases a; cases b; simp only at h; rw [h.1, h.2]) else isFalse (fun e => h (by rw [e]; exact ⟨rfl, rfl⟩))
theorem sAdd_last : ∀ (s : List Sp) (a b : Int) (h : 0 < s.length), sAdd s a b = if (s[s.length - 1]'(by omega)).f1 = a then s.set (s.length - 1) ⟨(s[s.length - 1]'(by omega)).f0, b⟩ else s ++ [⟨a, b⟩]
  | [x], a, b, _ => by simp [sAdd]
  | x :: y :: r, a, b, _ => by
    have ih := sAdd_last (y :: r) a b (by simp)
    rw [show sAdd (x :: y :: r) a b = x :: sAdd (y :: r) a b from rfl, ih]
    simp only [List.length_cons, Nat.add_sub_cancel, List.getElem_cons_succ, List.set_cons_succ, List.cons_append]
    split <;> rfl
theorem put_eq (s : List Sp) (a b : Int) (hs : s.length < 8796093022208) : charset_put.f s a b = some (sAdd s a b) := by
  unfold charset_put.f
  by_cases h : 0 < s.length
  · have hw : wrap64 ((s.length : Int) - 1) = ((s.length - 1 : Nat) : Int) := by unfold wrap64; omega
    rw [if_pos (by omega), hw, if_pos (by omega), if_pos (by omega), rdS (show s.length - 1 < s.length by omega), if_pos hs, sAdd_last s a b h, Int.toNat_natCast]
    split <;> rfl
  · have : s = [] := List.eq_nil_of_length_eq_zero (by omega)
    subst this
    rw [if_neg (by simp), if_pos hs]
    rfl
def mayB (x : Sp) : Bool := decide (0 ≤ x.f0) && (decide (x.f0 ≤ x.f1) && decide (x.f1 ≤ 1114112))
theorem mayB_iff (x : Sp) : mayB x = true ↔ may x := by
  unfold mayB may
  rw [Bool.and_eq_true, Bool.and_eq_true, decide_eq_true_eq, decide_eq_true_eq, decide_eq_true_eq]
def sOf (l : List Sp) : List Sp × Int := if 256 < l.length then ([], 5) else if l.all mayB then (mkS (sHas l) (cutsOf l) [], 0) else ([], 2)
theorem sOf_mrg (l : List Sp) (hm : ∀ x ∈ l, may x) (srt : List Sp) (hp : srt.Perm (l.filter fun x => decide (x.f0 < x.f1))) (hs : srt.Pairwise (fun a b => a.f0 ≤ b.f0)) : srt.foldl sMrg [] = mkS (sHas l) (cutsOf l) [] := by
  have hmem : ∀ x ∈ srt, 0 ≤ x.f0 ∧ x.f0 < x.f1 := fun x hx => by
    have h1 := List.mem_filter.1 (hp.mem_iff.1 hx)
    exact ⟨(hm x h1.1).1, by simpa using h1.2⟩
  have h1 := fold_mrg srt [] trivial hmem hs (fun y hy => nomatch hy)
  have hc := cutsOf_ok l hm
  have h2 := mk_is (sHas l) (cutsOf l) hc.1 (fun y hy => by
    rcases (hc.2 y).1 hy with (rfl | rfl) | ⟨x, hx, rfl | rfl⟩
    · omega
    · omega
    · have := hm x hx; unfold may at this; omega
    · have := hm x hx; unfold may at this; omega) ((hc.2 0).2 (.inl (.inl rfl))) ((hc.2 _).2 (.inl (.inr rfl)))
    (fun a ha x hax hn => same_between (c := cutsOf l) (fun y hy => ⟨(hc.2 _).2 (.inr ⟨y, hy, .inl rfl⟩), (hc.2 _).2 (.inr ⟨y, hy, .inr rfl⟩)⟩) hax hn)
  refine Sep.uniq h1.1 h2.1 fun c => ?_
  rw [h1.2 c, sHas_nil, Bool.false_or, h2.2 c, sHas_perm hp c]
  have hf : sHas (l.filter fun x => decide (x.f0 < x.f1)) c = sHas l c := by
    clear h1 h2 hc hmem hs hp
    induction l with
    | nil => rfl
    | cons x l ih =>
      rw [List.filter_cons, sHas_cons, ← ih (fun y hy => hm y (List.mem_cons_of_mem _ hy))]
      by_cases h : x.f0 < x.f1
      · rw [if_pos (by simpa using h), sHas_cons]
      · rw [if_neg (by simpa using h), inS_no (by omega), Bool.false_or]
  rw [hf]
  cases hh : sHas l c with
  | false => rfl
  | true =>
    obtain ⟨x, hx, hin⟩ := List.any_eq_true.1 hh
    have h3 := (inS_iff x c).1 hin
    have h4 := hm x hx
    unfold may at h4
    rw [decide_eq_true (show 0 ≤ c by omega), decide_eq_true (show c < 1114112 by omega)]
    rfl
def IsBlk (W : World) (g : Nat) (o : Obj) : Prop := W.heap[g]? = some o
theorem IsBlk.below {W W1 : World} {g : Nat} {o : Obj} (h : IsBlk W g o) (hb : Below W.heap.size W W1) : IsBlk W1 g o := (hb.block g (blk_lt h)).trans h
theorem IsBlk.alloc {W : World} {g : Nat} {o : Obj} (h : IsBlk W g o) (o1 : Obj) : IsBlk (W.alloc o1) g o := h.below (below_alloc (Below.refl _ _) o1)
theorem IsBlk.drewN {W : World} {g : Nat} {o : Obj} (h : IsBlk W g o) (n : Nat) : IsBlk (W.drewN n) g o := h.below (pw_below_drewN (Below.refl _ _) n)
theorem IsBlk.cell {W : World} {g : Nat} {cs : Array Value} {t : TypeId} (h : IsBlk W g (.cells cs t (0, 0))) (i : Nat) : W.cell? ⟨g, i, none⟩ = cs[i]? := blk_cell h i
theorem cell_drewN1 {W : World} {p : Addr} {v : Value} (h : W.cell? p = some v) (n : Nat) : (W.drewN n).cell? p = some v := ((pw_below_drewN (Below.refl _ W) n).cell (World.block_lt_of_cell? W _ h)).trans h
theorem cell_below {W W1 : World} {p : Addr} {v : Value} (h : W.cell? p = some v) (hb : Below W.heap.size W W1) : W1.cell? p = some v := (hb.cell (World.block_lt_of_cell? W _ h)).trans h
def Keeps (F : World → Prop) : Prop := ∀ W1 W2 : World, F W1 → Below W1.heap.size W1 W2 → F W2
structure Sta (w W : World) (F : World → Prop) : Prop where
  bel : Below w.heap.size w W
  now : F W
  keeps : Keeps F
theorem Sta.step {w W W1 : World} {F : World → Prop} (h : Sta w W F) (c : Below W.heap.size W W1) : Sta w W1 F := ⟨below_step h.bel c, h.keeps _ _ h.now c, h.keeps⟩
theorem Sta.call {w W W1 W2 : World} {F : World → Prop} (h : Sta w W F) (c : Below W.heap.size W W1) (hb : Below W1.heap.size W1 W2) : Sta w W2 F := (h.step c).step hb
theorem Sta.add {w W : World} {F G : World → Prop} (h : Sta w W F) (g : G W) (k : Keeps G) : Sta w W (fun W => G W ∧ F W) := ⟨h.bel, ⟨g, h.now⟩, fun _ _ h1 hb => ⟨k _ _ h1.1 hb, h.keeps _ _ h1.2 hb⟩⟩
theorem Sta.only {w W : World} {F G : World → Prop} (h : Sta w W F) (g : G W) (k : Keeps G) : Sta w W G := ⟨h.bel, g, k⟩
theorem Sta.start (w : World) : Sta w w (fun _ => True) := ⟨Below.refl _ _, trivial, fun _ _ h _ => h⟩
theorem keeps_and {F G : World → Prop} (h : Keeps F) (k : Keeps G) : Keeps (fun W => F W ∧ G W) := fun _ _ h1 hb => ⟨h _ _ h1.1 hb, k _ _ h1.2 hb⟩
theorem keeps_blk (g : Nat) (o : Obj) : Keeps (fun W => IsBlk W g o) := fun _ _ h hb => h.below hb
theorem keeps_C {α : Type} (d : Kd α) (A : Option Addr) (n : Nat) (xs : List α) : Keeps (fun W => Kd.C d W A n xs) := fun _ _ h hb => Kd.C_below h hb
theorem keeps_cell (p : Addr) (v : Value) : Keeps (fun W => W.cell? p = some v) := fun _ _ h hb => cell_below h hb
theorem cell_own {k : IntKind} {e base g n cap : Nat} {ok : Nat → Prop} {W : World} {xs : List Int} (h : Kd.R (Kd.int k) e W base ok (.slice (some ⟨g, 0, none⟩) n cap) xs) (i : Nat) (hi : i < n) : W.cell? ⟨g, i, none⟩ = some (.int k (rd xs i)) ∧ W.frozen? ⟨g, i, none⟩ = false := by
  have h := Kd.R_celln (enc := Value.int k) (h1 := fun _ => rfl) (0 : Int) h (i : Int) (by omega) (by omega)
  rw [Int.toNat_natCast] at h
  exact h
theorem bytes_step {w W : World} {e : TypeId} {s : ByteArray} (h : Below w.heap.size w W) : Below w.heap.size w (Lib.bytesWorld W e s) := bytes_below h h.size e s
theorem zq2 {w W : World} (h : Below w.heap.size w W) (o : Obj) : Below w.heap.size w (W.alloc o) := below_alloc h o
theorem zq3 {n : Nat} {w W : World} (h : Below n w W) (k : Nat) : Below n w (W.drewN k) := pw_below_drewN h k
theorem zq4 {n : Nat} {w W : World} (h : Below n w W) : Below n w W.drew := below_drew1 h
theorem zq5 {w W : World} {e : TypeId} {s : ByteArray} (h : Below w.heap.size w W) : Below w.heap.size w (Lib.bytesWorld W e s) := bytes_step h
theorem keeps_own {b : Nat} {v : Value} : Keeps (fun W : World => W.cell? ⟨b, 0, none⟩ = some v ∧ b < W.heap.size) := fun W W1 h hb => ⟨(hb.cell (p := ⟨b, 0, none⟩) h.2).trans h.1, Nat.lt_of_lt_of_le h.2 hb.size⟩
set_option maxRecDepth 100000 in
set_option maxHeartbeats 2000000 in
theorem HasC_ok (x : Sp) (c : Int) (b : Nat) (w : World) (hc : w.cell? ⟨b, 0, none⟩ = some (.int .i64 c)) (hb : b < w.heap.size) :
    Calls Try.prog 41 #[.agg #[.int .i64 x.f0, .int .i64 x.f1], .pointer (some ⟨b, 0, none⟩)] w fun e w' => e = .returned (.bool (inS x c)) ∧ Below w.heap.size w w' := by
  obtain ⟨x0, x1⟩ := x
  have hne : b ≠ w.heap.size := by omega
  have hu := Try.underlying39
  unfold inS
  by_cases h0 : x0 ≤ c
  · by_cases h1 : c < x1
    · go_enter Try.func41, Try.ntmps41
      go_wp2
      go_ret
      exact ⟨by simp [h0, h1], below_alloc (Below.refl _ _) _⟩
    · go_enter Try.func41, Try.ntmps41
      go_wp2
      go_ret
      exact ⟨by simp [h1], below_alloc (Below.refl _ _) _⟩
  · go_enter Try.func41, Try.ntmps41
    go_wp2
    go_ret
    exact ⟨by rw [show decide (x0 ≤ c) = false from decide_eq_false (by omega)]; rfl, below_alloc (Below.refl _ _) _⟩
set_option maxRecDepth 100000 in
set_option maxHeartbeats 2000000 in
theorem IdxF_ok (A : Option Addr) (d b : Nat) (l : List Sp) (c : Int) (w : World) (hr : Kd.C k39 w A l.length l) (hb : b < w.heap.size) (hc : w.cell? ⟨b, 0, none⟩ = some (.int .i64 c)) :
    Calls Try.prog 55 #[.slice A l.length d, .func (.func 41) #[] #[.pointer (some ⟨b, 0, none⟩)]] w fun e w' => ∃ r : Int, e = .returned (.int .i64 r) ∧ decide (0 ≤ r) = sHas l c ∧ Below w.heap.size w w' := by
  have HS : Aside0 (Sta w w (fun W => Kd.C k39 W A l.length l ∧ W.cell? ⟨b, 0, none⟩ = some (.int .i64 c) ∧ b < W.heap.size)) := ⟨⟨Below.refl _ _, ⟨hr, hc, hb⟩, keeps_and (keeps_C _ _ _ _) keeps_own⟩⟩
  clear hr hc hb
  have HL := Aside0.mk HS.out.now.1.2.1
  go_enter Try.func55, Try.ntmps55
  go_wp2
  go_loopw [8] (fun s8 W => ∃ k : Nat, s8 = .int .i64 k ∧ k ≤ l.length ∧ Aside0 (sHas (l.take k) c = false) ∧ Aside0 (Sta w W (fun W => Kd.C k39 W A l.length l ∧ W.cell? ⟨b, 0, none⟩ = some (.int .i64 c) ∧ b < W.heap.size))) (fun s8 _ => l.length - (intOf s8).toNat)
  case atStart => exact ⟨0, rfl, Nat.zero_le _, ⟨rfl⟩, HS⟩
  case round =>
    clear HS
    obtain ⟨k, rfl, hk, HN, HS⟩ := hrel
    by_cases h1 : k < l.length
    · have g2 : decide (k < l.length) = true := decide_eq_true h1
      obtain ⟨ad, e1, y0, y1⟩ := at_T39 HS.out.now.1 (k : Int) (by omega) (by omega)
      cases e1
      rw [Int.toNat_natCast] at y0 y1
      have hw : wrap64 ((k : Int) + 1) = (k : Int) + 1 := by have := HL.out; unfold wrap64; omega
      have ht : sHas (l.take (k + 1)) c = (sHas (l.take k) c || inS (rd_T39 l (k : Int)) c) := by
        rw [rdS h1, List.take_succ_eq_append_getElem h1, sHas_app, sHas_cons, sHas_nil, Bool.or_false]
      have hm : inS (rd_T39 l (k : Int)) c = true → sHas l c = true := fun h => by
        rw [rdS h1] at h
        exact List.any_eq_true.2 ⟨_, List.getElem_mem h1, h⟩
      rw [HN.out, Bool.false_or] at ht
      generalize rd_T39 l (k : Int) = x at *
      have hcl : ∀ W : World, W.cell? ⟨b, 0, none⟩ = some (.int .i64 c) → b < W.heap.size → Calls Try.prog 41 #[.agg #[.int .i64 x.f0, .int .i64 x.f1], .pointer (some ⟨b, 0, none⟩)] W fun e w' => e = .returned (.bool (inS x c)) ∧ Below W.heap.size W w' := fun W h h' => HasC_ok x c b W h h'
      have HCL := Aside0.mk hcl
      have HT := Aside0.mk ht
      have HM := Aside0.mk hm
      clear hcl ht hm
      cases hx : inS x c with
      | true =>
        rw [hx] at HCL HM HT
        have HM2 := Aside0.mk (HM.out rfl)
        clear hx HM
        go_wp2_with (go_at_call 41; refine (HCL.out _ (HS.out.step (by repeat (first | exact Below.refl _ _ | apply zq2 | apply zq3 | apply zq4 | apply zq5))).now.2.1 (HS.out.step (by repeat (first | exact Below.refl _ _ | apply zq2 | apply zq3 | apply zq4 | apply zq5))).now.2.2).mono ?_; rintro e w' ⟨rfl, hb⟩; have m_ := Aside0.mk (HS.out.call (by repeat (first | exact Below.refl _ _ | apply zq2 | apply zq3 | apply zq4 | apply zq5)) hb); clear HS hb; have HS := m_; clear m_)
        go_ret
        exact ⟨k, rfl, by rw [HM2.out]; exact decide_eq_true (by omega), HS.out.bel⟩
      | false =>
        rw [hx] at HCL HM HT
        clear hx HM
        go_wp2_with (go_at_call 41; refine (HCL.out _ (HS.out.step (by repeat (first | exact Below.refl _ _ | apply zq2 | apply zq3 | apply zq4 | apply zq5))).now.2.1 (HS.out.step (by repeat (first | exact Below.refl _ _ | apply zq2 | apply zq3 | apply zq4 | apply zq5))).now.2.2).mono ?_; rintro e w' ⟨rfl, hb⟩; have m_ := Aside0.mk (HS.out.call (by repeat (first | exact Below.refl _ _ | apply zq2 | apply zq3 | apply zq4 | apply zq5)) hb); clear HS hb; have HS := m_; clear m_)
        go_roundw
        case measure => rw [hw]; show l.length - ((k : Int) + 1).toNat < l.length - (k : Int).toNat; omega
        case rel => exact ⟨k + 1, by rw [hw]; rfl, by omega, HT, HS⟩
    · have g2 : decide (k < l.length) = false := decide_eq_false h1
      go_wp2
      go_ret
      refine ⟨-1, rfl, ?_, HS.out.bel⟩
      have := HN.out
      rw [List.take_of_length_le (by omega)] at this
      rw [this]
      rfl
set_option maxRecDepth 100000 in
set_option maxHeartbeats 2000000 in
theorem ConF_ok (A : Option Addr) (d b : Nat) (l : List Sp) (c : Int) (w : World) (hr : Kd.C k39 w A l.length l) (hb : b < w.heap.size) (hc : w.cell? ⟨b, 0, none⟩ = some (.int .i64 c)) :
    Calls Try.prog 40 #[.slice A l.length d, .func (.func 41) #[] #[.pointer (some ⟨b, 0, none⟩)]] w fun e w' => e = .returned (.bool (sHas l c)) ∧ Below w.heap.size w w' := by
  have HI := Aside0.mk (IdxF_ok A d b l c w hr hb hc)
  clear hr hb hc
  go_enter Try.func40, Try.ntmps40
  go_wp2_with (go_at_call 55; refine HI.out.mono ?_; rintro e w' ⟨r, rfl, hr, hb⟩; have HR := Aside0.mk hr; have HB := Aside0.mk hb; clear hr hb)
  go_ret
  exact ⟨by rw [← HR.out]; rfl, HB.out⟩
set_option maxRecDepth 100000 in
set_option maxHeartbeats 2000000 in
theorem Has_ok (A : Option Addr) (d : Nat) (l : List Sp) (c : Int) (w : World) (hr : Kd.C k39 w A l.length l) :
    Calls Try.prog 16 #[.slice A l.length d, .int .i64 c] w fun e w' => e = .returned (.bool (sHas l c)) ∧ Below w.heap.size w w' := by
  have HC := Aside0.mk (ConF_ok A d w.heap.size l c (w.alloc (.cells #[.int .i64 c] 3)) (Kd.C_below hr (below_alloc (Below.refl _ _) _)) (by simp) (by simp))
  clear hr
  go_enter Try.func16, Try.ntmps16
  go_wp2_with (go_at_call 40; refine HC.out.mono ?_; rintro e w' ⟨rfl, hb⟩; have HB := Aside0.mk hb; clear hb)
  go_ret
  exact ⟨rfl, (below_alloc (Below.refl _ _) _).trans (HB.out.mono (by simp))⟩
end Go.Proofs.Ytingbjdpjimikaa.B
namespace Go.Proofs.Ytingbjdpjimikaa
open Go.Shelf Go.RowKit Go.Lib Go.Sort
shelf_lay_g SlLaysF0.n6 Slsf 6 at Try 35 as Try.sortSp
end Go.Proofs.Ytingbjdpjimikaa
namespace Go.Proofs.Ytingbjdpjimikaa.B
open Go.RowKit Go.Proofs Go.Proofs.YtingbjdpjimikaaW.PrintWords Go.Proofs.YtingbjdpjimikaaW.PrintLast Go.Proofs.YtingbjdpjimikaaW.PrintMore Go.Proofs.Ytingbjdpjimikaa.FBase
open Go.Sort (HoldsK flatK putRowK get_flatK)
abbrev SpM := {x : Sp // may x}
instance : Inhabited SpM := ⟨⟨⟨0, 0⟩, by unfold may; simp⟩⟩
def encM (x : SpM) : List Value := [.int .i64 x.1.f0, .int .i64 x.1.f1]
def cmpM (x y : SpM) : Int := x.1.f0 - y.1.f0
theorem ltM (x y : SpM) : ltOf cmpM x y = decide (x.1.f0 < y.1.f0) := by
  unfold ltOf cmpM
  by_cases h : x.1.f0 < y.1.f0
  · rw [decide_eq_true h, decide_eq_true (by omega)]
  · rw [decide_eq_false h, decide_eq_false (by omega)]
theorem swoM : Go.Sort.SWO (ltOf cmpM) where
  irrefl x := by rw [ltM]; simp
  trans x y z h1 h2 := by rw [ltM] at *; simp at *; omega
  ntrans x y z h1 h2 := by rw [ltM] at *; simp at *; omega
set_option maxRecDepth 100000 in
set_option maxHeartbeats 2000000 in
theorem cloM (x y : SpM) (W : World) : Calls Try.prog 36 #[.agg #[.int .i64 x.1.f0, .int .i64 x.1.f1], .agg #[.int .i64 y.1.f0, .int .i64 y.1.f1]] W fun e w' => e = .returned (.int .i64 (cmpM x y)) ∧ ∃ q os', w' = Go.Sort.grow (W.drewN q) os' := by
  obtain ⟨⟨x0, x1⟩, hx⟩ := x
  obtain ⟨⟨y0, y1⟩, hy⟩ := y
  unfold may at hx hy
  have hw : wrap64 (x0 - y0) = x0 - y0 := by unfold wrap64; simp at hx hy; omega
  show Calls Try.prog 36 #[.agg #[.int .i64 x0, .int .i64 x1], .agg #[.int .i64 y0, .int .i64 y1]] W fun e w' => e = .returned (.int .i64 (x0 - y0)) ∧ ∃ q os', w' = Go.Sort.grow (W.drewN q) os'
  clear hx hy
  go_enter Try.func36, Try.ntmps36
  go_wp2
  go_ret
  exact ⟨congrArg (fun t => Ending.returned (.int .i64 t)) hw, 0, _, by rw [Go.Sort.alloc_eq_grow, Go.Sort.alloc_eq_grow, Go.Sort.grow_grow]; rfl⟩
theorem cmpLaysM (blk off size : Nat) (w : World) : CmpLays Try.prog 36 #[] encM 2 cmpM blk off size w := fun _ _ _ _ x y => cloM x y _
theorem getM (d : Array SpM) {j : Nat} (hj : j < d.size) : rd_T39 (d.toList.map (·.1)) (j : Int) = d[j]!.1 := by
  simp [rd_T39, List.getD, hj]
theorem holdsM {e base g cap : Nat} {ok : Nat → Prop} {w : World} {l : List Sp} (d : Array SpM) (h : Kd.R k39 e w base ok (.slice (some ⟨g, 0, none⟩) l.length cap) l) (hd : d.toList.map (·.1) = l) : HoldsK encM 2 w g 0 d := by
  intro j hj
  have hl : l.length = d.size := by rw [← hd]; simp
  have hj2 : j < d.size * 2 := by simpa using hj
  have hj3 : j / 2 < d.size := by omega
  obtain ⟨c, hcl, hM, hcc, hfr⟩ := Kd.R_elem h z39 ((j / 2 : Nat) : Int) (by omega) (by omega)
  obtain rfl := k39_openM hM
  have hx : l.getD ((j / 2 : Nat) : Int).toNat z39 = d[j / 2]!.1 := by
    rw [← getM d hj3, hd]
    rfl
  rw [hx] at hcc
  rw [Int.toNat_natCast] at hcc hfr
  have he : 0 + j = j / 2 * 2 + j % 2 := by omega
  refine ⟨?_, by rw [he]; exact hfr _⟩
  rw [get_flatK _ _ _ _ hj2, he]
  refine hcc (j % 2) _ ?_
  rcases Nat.mod_two_eq_zero_or_one j with h0 | h0 <;> rw [h0] <;> rfl
theorem sortedM {e base g cap n : Nat} {ok : Nat → Prop} {w : World} {l : List Sp} (d' : Array SpM) (os : Array Obj) (h : Kd.R k39 e w base ok (.slice (some ⟨g, 0, none⟩) l.length cap) l) (hs : d'.size = l.length) :
    Kd.R k39 e (sortWorldK encM 2 w g 0 n d' os) base ok (.slice (some ⟨g, 0, none⟩) l.length cap) (d'.toList.map (·.1)) ∧ w.grownBy (sortWorldK encM 2 w g 0 n d' os) (some g) := by
  obtain ⟨hok, inner, ho, hr⟩ := h
  rcases ho.2 with ⟨e0, _⟩ | ⟨g', cap', cur, e0, hb, hg, hn, hm, hcs, ht⟩
  · cases e0
  injection e0 with e1 _ e3
  injection e1 with e1
  injection e1 with e1
  subst e1; subst e3
  have hgl : g < w.heap.size := blk_lt hg
  have hF : (flatK encM 2 d').size = l.length * 2 := by simp [hs]
  have hheap : (sortWorldK encM 2 w g 0 n d' os).heap[g]? = some (.cells (Go.Sort.putCells id 0 (flatK encM 2 d') cur) e (0, 0)) := by
    unfold sortWorldK putRowK
    rw [Go.Sort.heap_grow_old _ _ (by simpa [Go.Sort.putRow, Go.Sort.mapBlock, Go.Sort.ahead] using hgl)]
    simp [Go.Sort.putRow, Go.Sort.mapBlock, Go.Sort.ahead, Array.getElem?_modify, hg, Go.Sort.onCells]
  have hml : (d'.toList.map (·.1)).length = l.length := by simp [hs]
  have hFl : (flatK encM 2 d').toList.length = l.length * 2 := by rw [Array.length_toList, hF]
  have hcur : l.length * 2 ≤ cur.size := by
    have h1 : cur.size = cap * 2 := hcs
    have h2 : l.length ≤ cap := hn
    omega
  have htk : ((Go.Sort.putCells id 0 (flatK encM 2 d') cur).toList.take (l.length * 2)) = (flatK encM 2 d').toList := by
    apply List.ext_getElem?
    intro j
    by_cases hj : j < l.length * 2
    · have hjf : j < (flatK encM 2 d').size := by omega
      rw [List.getElem?_take_of_lt hj, Array.getElem?_toList, Array.getElem?_toList, Array.getElem?_eq_getElem hjf]
      have hjc : j < cur.size := by omega
      simp only [Go.Sort.putCells, Array.getElem?_mapIdx, Array.getElem?_eq_getElem hjc, Option.map_some]
      rw [if_pos (by omega)]
      simp
      exact getElem!_pos (flatK encM 2 d') j hjf
    · rw [List.getElem?_take_eq_none (by omega), List.getElem?_eq_none (by omega)]
  refine ⟨⟨hok, (flatK encM 2 d').toList, ?_, ?_⟩, ?_⟩
  · rw [hml]
    exact ⟨hFl, .inr ⟨g, cap, _, rfl, hb, hheap, hn, hm, by rw [Go.Sort.putCells, Array.size_mapIdx]; exact hcs, htk⟩⟩
  · refine ⟨by rw [hml]; exact hFl, fun j q hq => ?_⟩
    have hj : j < l.length := by rw [← hml]; exact (List.getElem?_eq_some_iff.1 hq).1
    have hq2 : q = d'[j]!.1 := by
      have h1 := (List.getElem?_eq_some_iff.1 hq).2
      simp at h1
      rw [← h1, getElem!_pos d' j (by omega)]
    have hj0 : j * 2 < d'.size * 2 := by omega
    have hj1 : j * 2 + 1 < d'.size * 2 := by omega
    have e0 := get_flatK encM 2 d' (j * 2) hj0
    have e1 := get_flatK encM 2 d' (j * 2 + 1) hj1
    rw [show j * 2 / 2 = j by omega, show j * 2 % 2 = 0 by omega] at e0
    rw [show (j * 2 + 1) / 2 = j by omega, show (j * 2 + 1) % 2 = 1 by omega] at e1
    have hseg : ((flatK encM 2 d').toList.drop (j * 2)).take 2 = [.int .i64 q.f0, .int .i64 q.f1] := by
      rw [List.drop_eq_getElem_cons (by omega), List.drop_eq_getElem_cons (by omega), hq2]
      rw [getElem!_pos _ _ (by omega)] at e0 e1
      simp only [Array.getElem_toList, List.take_succ_cons, List.take_zero]
      rw [e0, e1]
      rfl
    exact (show ((flatK encM 2 d').toList.drop (j * 2)).take k39.sz = _ from hseg) ▸ k39_mkM _ _ _ _
  · refine ⟨rfl, rfl, rfl, ?_, fun k hk hne => ?_⟩
    · simp [sortWorldK, putRowK, Go.Sort.putRow, Go.Sort.mapBlock, Go.Sort.ahead, Go.Sort.grow]
    · unfold sortWorldK putRowK
      rw [Go.Sort.heap_grow_old _ _ (by simpa [Go.Sort.putRow, Go.Sort.mapBlock, Go.Sort.ahead] using hk)]
      have : g ≠ k := fun e => hne (by rw [e])
      simp [Go.Sort.putRow, Go.Sort.mapBlock, Go.Sort.ahead, Array.getElem?_modify, this]
theorem whole_ext {α : Type} (d : Array α) {n : Nat} (h : d.size = n) : (d.extract 0 n).toList = d.toList := by
  subst h
  rw [Array.extract_size]
theorem SortSp_some (v : Value) (l : List Sp) (base : Nat) (ok : Nat → Prop) (w : World) (h : Kd.R k39 39 w base ok v l) (hm : ∀ x ∈ l, may x) (hl : 0 < l.length) (hl2 : l.length ≤ 1000000) :
    Calls Try.prog 35 #[v, .func (.func 36) #[] #[]] w fun e w' => e = .returned (.tuple #[]) ∧ ∃ srt : List Sp, srt.Perm l ∧ srt.Pairwise (fun a b => a.f0 ≤ b.f0) ∧ Kd.R k39 39 w' base ok v srt ∧ w.grownBy w' v.ownBlock := by
  obtain ⟨g, cap, rfl, hb, hg, _⟩ := Kd.R_form h hl
  obtain ⟨d, hd⟩ : ∃ d : Array SpM, d.toList.map (·.1) = l := ⟨(l.attachWith may hm).toArray, by simp⟩
  have hds : d.size = l.length := by rw [← hd]; simp
  have hH := holdsM d h hd
  have eg : ∀ args w, (callFunc 36 args).run Try.prog w = .ok (.enter 36 args) w := enters_of Try.func36 (by kernel_rfl) rfl
  have hcon := AnyQ.slices_SortFunc Try.sortSp 2 Try.isAgg39 Try.sizeOf39 encM (fun _ => rfl) (fun x v hv => by simp [encM] at hv; rcases hv with rfl | rfl <;> rfl) cmpM swoM 36 #[] g 0 cap d w eg (cmpLaysM g 0 d.size w) hH hg (by omega)
  rw [hds] at hcon
  refine hcon.mono ?_
  rintro e w' ⟨rfl, d', n, os, hp, hs, rfl⟩
  have h1 := hp.1
  rw [hds] at h1
  have hR := sortedM (n := n) d' os h h1
  have hp2 := hp.2.2
  rw [whole_ext d' h1, whole_ext d hds] at hp2
  refine ⟨rfl, d'.toList.map (·.1), ?_, ?_, hR.1, hR.2⟩
  · rw [← hd]
    exact hp2.map _
  · rw [List.pairwise_map, List.pairwise_iff_getElem]
    intro i j hi hj hij
    have hs2 := hs i j (Nat.zero_le _) hij (by rw [Array.length_toList] at hj; omega)
    rw [ltM, decide_eq_false_iff_not] at hs2
    rw [getElem!_pos d' j (by simpa using hj), getElem!_pos d' i (by simpa using hi)] at hs2
    simp only [Array.getElem_toList]
    omega
theorem SortSp_ok (v : Value) (l : List Sp) (base : Nat) (ok : Nat → Prop) (w : World) (h : Kd.R k39 39 w base ok v l) (hm : ∀ x ∈ l, may x) (hl2 : l.length ≤ 1000000) :
    Calls Try.prog 35 #[v, .func (.func 36) #[] #[]] w fun e w' => e = .returned (.tuple #[]) ∧ ∃ srt : List Sp, srt.Perm l ∧ srt.Pairwise (fun a b => a.f0 ≤ b.f0) ∧ Kd.R k39 39 w' base ok v srt ∧ w.grownBy w' v.ownBlock := by
  rcases Nat.eq_zero_or_pos l.length with h0 | h0
  · obtain rfl : l = [] := List.eq_nil_of_length_eq_zero h0
    obtain ⟨A, c, e0⟩ := Kd.R_slice h
    subst e0
    refine (AnyF.slices_SortFunc_none Try.sortSp A c _ w).mono ?_
    rintro e w' ⟨rfl, rfl⟩
    exact ⟨rfl, [], .nil, .nil, h, World.grownBy.refl _ _⟩
  · exact SortSp_some v l base ok w h hm h0 hl2
end Go.Proofs.Ytingbjdpjimikaa.B
namespace Go.Proofs.Ytingbjdpjimikaa.B
open Go.RowKit Go.Proofs Go.Proofs.YtingbjdpjimikaaW.PrintWords Go.Proofs.YtingbjdpjimikaaW.PrintLast Go.Proofs.YtingbjdpjimikaaW.PrintMore Go.Proofs.Ytingbjdpjimikaa.FBase
theorem sMrg_last : ∀ (s : List Sp) (m : Nat) (hm : s.length = m + 1) (x y : Sp) (hy : rd_T39 s (m : Int) = y), sMrg s x = if x.f0 ≤ y.f1 then s.set m ⟨y.f0, if y.f1 < x.f1 then x.f1 else y.f1⟩ else s ++ [x]
  | [], m, hm, x, y, hy => by simp at hm
  | [z], m, hm, x, y, hy => by
    obtain rfl : m = 0 := by simp at hm; omega
    subst hy
    rfl
  | z :: z2 :: r, m, hm, x, y, hy => by
    obtain ⟨m, rfl⟩ : ∃ m', m = m' + 1 := ⟨m - 1, by simp at hm; omega⟩
    have ih := sMrg_last (z2 :: r) m (by simpa using hm) x y (by rw [← hy]; simp [rd_T39, List.getD])
    rw [show sMrg (z :: z2 :: r) x = z :: sMrg (z2 :: r) x from rfl, ih]
    split
    · rfl
    · rfl
def posB (x : Sp) : Bool := decide (x.f0 < x.f1)
set_option maxRecDepth 100000 in
set_option maxHeartbeats 4000000 in
theorem Of_many (A : Option Addr) (c : Nat) (l : List Sp) (w : World) (hr : Kd.C k39 w A l.length l) (hm : 256 < l.length) : Calls Try.prog 11 #[.slice A l.length c] w fun e w' => ∃ v : Value, e = .returned (.tuple #[v, .int .i64 5]) ∧ Kd.R k39 39 w' w.heap.size (fun _ => True) v [] ∧ Below w.heap.size w w' := by
  have g1 : decide (256 < (l.length : Int)) = true := decide_eq_true (by omega)
  clear hr
  go_enter Try.func11, Try.ntmps11
  go_wp2
  go_ret2
  exact ⟨_, rfl, Kd.R_nil _ _ _ _ _, Below.refl _ _⟩
set_option maxRecDepth 100000 in
set_option maxHeartbeats 4000000 in
theorem Of_one (A : Option Addr) (c : Nat) (l : List Sp) (w : World) (hr : Kd.C k39 w A l.length l) (hm : ¬ 256 < l.length) : Calls Try.prog 11 #[.slice A l.length c] w fun e w' => ∃ v : Value, e = .returned (.tuple #[v, .int .i64 (sOf l).2]) ∧ Kd.R k39 39 w' w.heap.size (fun _ => True) v (sOf l).1 ∧ Below w.heap.size w w' := by
  have g1 : decide (256 < (l.length : Int)) = false := decide_eq_false (by omega)
  have HR := Aside0.mk hr
  clear hr
  go_enter Try.func11, Try.ntmps11
  go_wp2
  go_loopw [4, 16] (fun s4 s16 W => ∃ (k : Nat) (A2 : Option Addr) (c2 : Nat), s16 = .int .i64 k ∧ s4 = .slice A2 ((l.take k).filter posB).length c2 ∧ k ≤ l.length ∧ Aside0 (∀ x ∈ l.take k, may x) ∧ Aside0 (Kd.R k39 39 W w.heap.size (fun _ => True) (.slice A2 ((l.take k).filter posB).length c2) ((l.take k).filter posB)) ∧ Aside0 (Below w.heap.size w W)) (fun _ s16 _ => l.length - (intOf s16).toNat)
  case atStart => exact ⟨0, none, 0, rfl, rfl, Nat.zero_le _, ⟨fun x hx => nomatch hx⟩, ⟨Kd.R_nil _ _ _ _ _⟩, ⟨Below.refl _ _⟩⟩
  case round =>
    obtain ⟨k, A2, c2, rfl, rfl, hk, HM, HO, HB⟩ := hrel
    by_cases h1 : k < l.length
    · have g2 : decide (k < l.length) = true := decide_eq_true h1
      obtain ⟨ad, e1, y0, y1⟩ := at_T39 (Kd.C_below HR.out HB.out) (k : Int) (by omega) (by omega)
      cases e1
      rw [Int.toNat_natCast] at y0 y1
      have hw : wrap64 ((k : Int) + 1) = (k : Int) + 1 := by unfold wrap64; omega
      have hx : rd_T39 l (k : Int) = l[k] := rdS h1
      have htk : l.take (k + 1) = l.take k ++ [l[k]] := List.take_succ_eq_append_getElem h1
      have hmem : l[k] ∈ l := List.getElem_mem _
      have hln : ((l.take k).filter posB).length ≤ 256 := Nat.le_trans (List.length_filter_le _ _) (by rw [List.length_take]; omega)
      rw [← hx] at htk hmem
      clear hx
      generalize rd_T39 l (k : Int) = x at *
      by_cases hmay : may x
      · have hmay2 := hmay
        unfold may at hmay2
        obtain ⟨m0, m1, m2⟩ := hmay2
        have HM2 := Aside0.mk (show ∀ y ∈ l.take (k + 1), may y by
          intro y hy
          rw [htk] at hy
          rcases List.mem_append.1 hy with hy | hy
          · exact HM.out y hy
          · rw [List.mem_singleton.1 hy]; exact hmay)
        have q0 : decide (x.f0 < 0) = false := decide_eq_false (by omega)
        have q1 : decide (x.f1 < x.f0) = false := decide_eq_false (by omega)
        have q2 : decide (1114112 < x.f1) = false := decide_eq_false (by omega)
        clear hmay HM hmem
        by_cases hpos : x.f0 < x.f1
        · have q3 : decide (x.f0 < x.f1) = true := decide_eq_true hpos
          have hf : (l.take (k + 1)).filter posB = (l.take k).filter posB ++ [x] := by
            rw [htk, List.filter_append, List.filter_cons, if_pos (show posB x = true from q3), List.filter_nil]
          have HF := Aside0.mk hf
          clear hf htk hpos m0 m1 m2
          go_wp2_with ((with_reducible refine gate_builtin (b := .append) (xs := #[.tmp 40, .tmp 42]) rfl ?_); at_builtin; go_loud (refine Kd.R_append k39 (w0 := w) w.heap.size rfl (.tmp 40) (.tmp 42) 22 39 (.agg #[(.int .i64 0), (.int .i64 0)]) 16 rfl Try.underlying22 info39 rfl (by decide) (by omega) (.slice A2 ((l.take k).filter posB).length c2) ((l.take k).filter posB) x [.int .i64 x.f0, .int .i64 x.f1] (fun _ => True) (fun _ => False) rfl (congrArg (fun n => Value.slice (some ⟨n, 0, none⟩) 1 1) (by simp)) ?aP (fun _ hk => hk.elim) ?aF ?aO ?aB ?aS ?aL ?_; (case aP => exact k39_mkM _ _ _ _); (case aB => exact (by repeat (first | exact HB.out | exact Below.refl _ _ | apply below_alloc | apply pw_below_drewN | apply below_drew1))); (case aF => exact (fun _ _ => trivial)); (case aO => exact (by (with_reducible repeat (first | apply Kd.R_alloc | apply Kd.R_drewN | apply Kd.R_drew)); exact HO.out)); (case aS => exact (below_size (by repeat (first | exact HB.out | exact Below.refl _ _ | apply below_alloc | apply pw_below_drewN | apply below_drew1)))); (case aL => omega); intro v3 w3 ho hb hg hat; have n0_ := Aside0.mk hb; have n1_ := Aside0.mk ho; clear ho hb hg hat))
          go_roundw
          case measure => (first | rw [hw] | skip); show l.length - ((k : Int) + 1).toNat < l.length - (k : Int).toNat; omega
          case rel =>
            rw [← HF.out] at n1_
            obtain ⟨A3, c3, e3⟩ := Kd.R_slice n1_.out
            subst e3
            exact ⟨k + 1, A3, c3, by (first | rw [hw] | skip); rfl, rfl, by omega, HM2, n1_, n0_⟩
        · have q3 : decide (x.f0 < x.f1) = false := decide_eq_false hpos
          have hf : (l.take (k + 1)).filter posB = (l.take k).filter posB := by
            rw [htk, List.filter_append, List.filter_cons, if_neg (show ¬ posB x = true by unfold posB; rw [q3]; simp), List.filter_nil, List.append_nil]
          have HF := Aside0.mk hf
          clear hf htk hpos m0 m1 m2
          go_wp2
          go_roundw
          case measure => (first | rw [hw] | skip); show l.length - ((k : Int) + 1).toNat < l.length - (k : Int).toNat; omega
          case rel =>
            exact ⟨k + 1, A2, c2, by (first | rw [hw] | skip); rfl, by rw [HF.out], by omega, HM2, ⟨by rw [HF.out]; exact (by (with_reducible repeat (first | apply Kd.R_alloc | apply Kd.R_drewN | apply Kd.R_drew)); exact HO.out)⟩, ⟨(by repeat (first | exact HB.out | exact Below.refl _ _ | apply below_alloc | apply pw_below_drewN | apply below_drew1))⟩⟩
      · have hs : sOf l = ([], 2) := by
          unfold sOf
          rw [if_neg hm, if_neg]
          intro h
          exact hmay ((mayB_iff x).1 (List.all_eq_true.1 h x hmem))
        have HSO := Aside0.mk hs
        have h3 : x.f0 < 0 ∨ (0 ≤ x.f0 ∧ x.f1 < x.f0) ∨ (0 ≤ x.f0 ∧ x.f0 ≤ x.f1 ∧ 1114112 < x.f1) := by
          unfold may at hmay
          omega
        clear hs hmay HM hmem htk
        rcases h3 with h3 | ⟨h3, h4⟩ | ⟨h3, h4, h5⟩
        · have q0 : decide (x.f0 < 0) = true := decide_eq_true h3
          go_wp2
          go_ret2
          rw [HSO.out]
          exact ⟨_, rfl, Kd.R_nil _ _ _ _ _, (by repeat (first | exact HB.out | exact Below.refl _ _ | apply below_alloc | apply pw_below_drewN | apply below_drew1))⟩
        · have q0 : decide (x.f0 < 0) = false := decide_eq_false (by omega)
          have q1 : decide (x.f1 < x.f0) = true := decide_eq_true h4
          go_wp2
          go_ret2
          rw [HSO.out]
          exact ⟨_, rfl, Kd.R_nil _ _ _ _ _, (by repeat (first | exact HB.out | exact Below.refl _ _ | apply below_alloc | apply pw_below_drewN | apply below_drew1))⟩
        · have q0 : decide (x.f0 < 0) = false := decide_eq_false (by omega)
          have q1 : decide (x.f1 < x.f0) = false := decide_eq_false (by omega)
          have q2 : decide (1114112 < x.f1) = true := decide_eq_true h5
          go_wp2
          go_ret2
          rw [HSO.out]
          exact ⟨_, rfl, Kd.R_nil _ _ _ _ _, (by repeat (first | exact HB.out | exact Below.refl _ _ | apply below_alloc | apply pw_below_drewN | apply below_drew1))⟩
    · have g2 : decide (k < l.length) = false := decide_eq_false h1
      have hkl : k = l.length := by omega
      subst hkl
      rw [List.take_length] at HM HO ⊢
      have hso : sOf l = (mkS (sHas l) (cutsOf l) [], 0) := by
        unfold sOf
        rw [if_neg hm, if_pos (List.all_eq_true.2 fun x hx => (mayB_iff x).2 (HM.out x hx))]
      have hln : (l.filter posB).length ≤ 256 := Nat.le_trans (List.length_filter_le _ _) (by omega)
      have HSR := Aside0.mk (SortSp_ok _ _ _ _ wr HO.out (fun x hx => HM.out x (List.mem_filter.1 hx).1) (by omega))
      have HMS := Aside0.mk fun srt => sOf_mrg l HM.out srt
      have HSO := Aside0.mk hso
      clear hso
      obtain ⟨fl, hfl⟩ : ∃ fl, l.filter posB = fl := ⟨_, rfl⟩
      have hfl2 : (l.filter fun x => decide (x.f0 < x.f1)) = fl := hfl
      rw [hfl2] at HMS
      rw [hfl] at hln HSR HO ⊢
      have HB3 : ∀ w2, wr.grownBy w2 (Value.slice A2 fl.length c2).ownBlock → Below w.heap.size w w2 := fun w2 hg => by
        obtain ⟨inner, ho⟩ := Kd.R_own HO.out
        exact HB.out.grown hg HB.out.size (own_base ho)
      have HB4 := Aside0.mk HB3
      clear hfl hfl2 HM HB3
      obtain ⟨nf, hnf⟩ : ∃ n, fl.length = n := ⟨_, rfl⟩
      have HNF := Aside0.mk hnf
      rw [hnf] at hln HSR HB4 ⊢
      clear hnf
      go_wp2_with (go_at_call 35; refine HSR.out.mono ?_; rintro e w2 ⟨rfl, srt, hp, hs, hR, hg⟩; have hlen := hp.length_eq; rw [HNF.out] at hlen; have HC := Aside0.mk (Kd.R_reads' hR).2.2; have HBW := Aside0.mk (HB4.out _ hg); have HMK := Aside0.mk (HMS.out srt hp hs); clear HSR HMS HB4 hp hs hR hg)
      go_loopw [7, 49] (fun s7 s49 W => ∃ (k : Nat) (A2 : Option Addr) (c2 : Nat) (out : List Sp), s49 = .int .i64 k ∧ s7 = .slice A2 out.length c2 ∧ k ≤ srt.length ∧ out.length ≤ k ∧ Aside0 (out = (srt.take k).foldl sMrg []) ∧ Aside0 (Kd.R k39 39 W w2.heap.size (fun _ => True) (.slice A2 out.length c2) out) ∧ Aside0 (Below w2.heap.size w2 W)) (fun _ s49 _ => nf - (intOf s49).toNat)
      case atStart => exact ⟨0, none, 0, [], rfl, rfl, Nat.zero_le _, Nat.zero_le _, ⟨rfl⟩, ⟨Kd.R_nil _ _ _ _ _⟩, ⟨Below.refl _ _⟩⟩
      case round =>
        clear HB HO
        obtain ⟨k, B2, d2, out, rfl, rfl, hk, hok, HOUT, HO, HB2⟩ := hrel
        by_cases h1 : k < srt.length
        · have g2 : decide (k < nf) = true := decide_eq_true (by omega)
          obtain ⟨ad, e1, y0, y1⟩ := at_T39 (Kd.C_below HC.out HB2.out) (k : Int) (by omega) (by omega)
          cases e1
          rw [Int.toNat_natCast] at y0 y1
          have hw : wrap64 ((k : Int) + 1) = (k : Int) + 1 := by unfold wrap64; omega
          have hx : rd_T39 srt (k : Int) = srt[k] := rdS h1
          have htk : (srt.take (k + 1)).foldl sMrg [] = sMrg out srt[k] := by
            rw [List.take_succ_eq_append_getElem h1, List.foldl_append, ← HOUT.out]
            rfl
          rw [← hx] at htk
          clear hx HOUT
          generalize rd_T39 srt (k : Int) = x at *
          rcases Nat.eq_zero_or_pos out.length with h0 | h0
          · obtain rfl : out = [] := List.eq_nil_of_length_eq_zero h0
            have HT := Aside0.mk (htk.trans (show sMrg [] x = [] ++ [x] from rfl))
            clear htk h0
            go_wp2
            go_quiet (fail)
            go_wp2_with ((with_reducible refine gate_builtin (b := .append) (xs := #[.tmp 82, .tmp 84]) rfl ?_); at_builtin; go_loud (refine Kd.R_append k39 (w0 := w2) w2.heap.size rfl (.tmp 82) (.tmp 84) 22 39 (.agg #[(.int .i64 0), (.int .i64 0)]) 16 rfl Try.underlying22 info39 rfl (by decide) (by omega) (.slice B2 ([] : List Sp).length d2) ([] : List Sp) x [.int .i64 x.f0, .int .i64 x.f1] (fun _ => True) (fun _ => False) rfl (congrArg (fun n => Value.slice (some ⟨n, 0, none⟩) 1 1) (by simp)) ?aP (fun _ hk => hk.elim) ?aF ?aO ?aB ?aS ?aL ?_; (case aP => exact k39_mkM _ _ _ _); (case aB => exact (by repeat (first | exact HB2.out | exact Below.refl _ _ | apply below_alloc | apply pw_below_drewN | apply below_drew1))); (case aF => exact (fun _ _ => trivial)); (case aO => exact (by (with_reducible repeat (first | apply Kd.R_alloc | apply Kd.R_drewN | apply Kd.R_drew)); exact HO.out)); (case aS => exact (below_size (by repeat (first | exact HB2.out | exact Below.refl _ _ | apply below_alloc | apply pw_below_drewN | apply below_drew1)))); (case aL => omega); intro v3 w3 ho hb hg hat; have n0_ := Aside0.mk hb; have n1_ := Aside0.mk ho; clear ho hb hg hat))
            go_roundw
            case measure => (first | rw [hw] | skip); show nf - ((k : Int) + 1).toNat < nf - (k : Int).toNat; omega
            case rel =>
              obtain ⟨A3, c3, e3⟩ := Kd.R_slice n1_.out
              subst e3
              exact ⟨k + 1, A3, c3, _, by (first | rw [hw] | skip); rfl, rfl, by omega, by simp, ⟨HT.out.symm⟩, n1_, n0_⟩
          · obtain ⟨m, hm1⟩ : ∃ m, out.length = m + 1 := ⟨out.length - 1, by omega⟩
            obtain ⟨g, d3, e3, hgb, hgl, _⟩ := Kd.R_form HO.out (by omega)
            injection e3 with e4 _ e5
            subst e4; subst e5
            obtain ⟨cs, hcl, hM, hcc, hfr⟩ := Kd.R_elem HO.out z39 (m : Int) (by omega) (by omega)
            obtain rfl := k39_openM hM
            obtain ⟨y, hy⟩ : ∃ y, rd_T39 out (m : Int) = y := ⟨_, rfl⟩
            have hlast := sMrg_last out m hm1 x y hy
            rw [show out.getD (m : Int).toNat z39 = y from hy] at hcc hM
            have x0 : wr.cell? ⟨g, m * 2, none⟩ = some (.int .i64 y.f0) := hcc 0 _ rfl
            have x1 : wr.cell? ⟨g, m * 2 + 1, none⟩ = some (.int .i64 y.f1) := hcc 1 _ rfl
            have x2 : wr.frozen? ⟨g, m * 2 + 1, none⟩ = false := hfr 1
            have w1 : wrap64 ((out.length : Int) - 1) = (m : Int) := by unfold wrap64; omega
            have g3 : decide (0 < (out.length : Int)) = true := decide_eq_true (by omega)
            have g4 : decide ((m : Int) < (out.length : Int)) = true := decide_eq_true (by omega)
            have e1 : ¬ (g = wr.heap.size) := by omega
            have e2 : ¬ (wr.heap.size = g) := by omega
            clear hcl hcc hfr hM
            rw [hm1] at HO ⊢
            by_cases hle : x.f0 ≤ y.f1
            · have g5 : decide (x.f0 ≤ y.f1) = true := decide_eq_true hle
              rw [if_pos hle] at hlast
              have hmx : (if y.f1 < x.f1 then x.f1 else y.f1) = max y.f1 x.f1 := by
                split <;> omega
              rw [hmx] at hlast
              have HT := Aside0.mk (htk.trans hlast)
              clear hlast htk hmx
              go_wp2
              go_quiet (fail)
              go_wp2
              obtain ⟨W0, hW0⟩ : ∃ W0, ((wr.alloc (.cells #[.int .i64 x.f0, .int .i64 x.f1] 39)).drewN nq) = W0 := ⟨_, rfl⟩
              have hRW : Kd.R k39 39 W0 w2.heap.size (fun _ => True) (.slice (some ⟨g, 0, none⟩) (m + 1) d2) out := by rw [← hW0]; exact (by (with_reducible repeat (first | apply Kd.R_alloc | apply Kd.R_drewN | apply Kd.R_drew)); exact HO.out)
              have hBW : Below w2.heap.size w2 W0 := by rw [← hW0]; exact (by repeat (first | exact HB2.out | exact Below.refl _ _ | apply below_alloc | apply pw_below_drewN | apply below_drew1))
              have z2 : W0.cell? ⟨wr.heap.size, 1, none⟩ = some (.int .i64 x.f1) := by rw [← hW0]; exact cell_drewN1 (blk_cell (blk_new wr _) 1) _
              obtain ⟨cs, hcl, hM, hcc, hfr⟩ := Kd.R_elem hRW z39 (m : Int) (by omega) (by omega)
              obtain rfl := k39_openM hM
              rw [show out.getD (m : Int).toNat z39 = y from hy] at hcc hM hcl
              have z0 : W0.cell? ⟨g, m * 2 + 1, none⟩ = some (.int .i64 y.f1) := hcc 1 _ rfl
              have z1 : W0.frozen? ⟨g, m * 2 + 1, none⟩ = false := hfr 1
              have HSG := Aside0.mk (Kd.R_seg hRW (m : Int) (by omega) (by omega) (seg := [.int .i64 (max y.f1 x.f1)]) (j := 1) hcl hcc (show 2 ≤ 2 by decide) (x' := ⟨y.f0, max y.f1 x.f1⟩) (k39_mkM _ _ _ _) (fun _ hk => hk))
              have HBW3 := Aside0.mk (below_set (j := m * 2 + 1) (v := .int .i64 (max y.f1 x.f1)) hBW hgb)
              rw [hW0]
              clear hW0 x0 x1 x2 hcc hfr hM hcl hRW hBW
              go_region
              go_wp2
              go_roundw
              case measure => (first | rw [hw] | skip); show nf - ((k : Int) + 1).toNat < nf - (k : Int).toNat; omega
              case rel =>
                exact ⟨k + 1, _, _, out.set m ⟨y.f0, max y.f1 x.f1⟩, by (first | rw [hw] | skip); rfl, by rw [List.length_set, hm1], by omega, by rw [List.length_set]; omega, ⟨HT.out.symm⟩, ⟨by rw [List.length_set, hm1]; exact Kd.R_drew HSG.out.1⟩, ⟨below_drew1 HBW3.out⟩⟩
            · have g5 : decide (x.f0 ≤ y.f1) = false := decide_eq_false hle
              rw [if_neg hle] at hlast
              have HT := Aside0.mk (htk.trans hlast)
              clear htk hlast
              go_wp2
              go_quiet (fail)
              go_wp2_with ((with_reducible refine gate_builtin (b := .append) (xs := #[.tmp 82, .tmp 84]) rfl ?_); at_builtin; go_loud (refine Kd.R_append k39 (w0 := w2) w2.heap.size rfl (.tmp 82) (.tmp 84) 22 39 (.agg #[(.int .i64 0), (.int .i64 0)]) 16 rfl Try.underlying22 info39 rfl (by decide) (by omega) (.slice (some ⟨g, 0, none⟩) (m + 1) d2) out x [.int .i64 x.f0, .int .i64 x.f1] (fun _ => True) (fun _ => False) rfl (congrArg (fun n => Value.slice (some ⟨n, 0, none⟩) 1 1) (by simp)) ?aP (fun _ hk => hk.elim) ?aF ?aO ?aB ?aS ?aL ?_; (case aP => exact k39_mkM _ _ _ _); (case aB => exact (by repeat (first | exact HB2.out | exact Below.refl _ _ | apply below_alloc | apply pw_below_drewN | apply below_drew1))); (case aF => exact (fun _ _ => trivial)); (case aO => exact (by (with_reducible repeat (first | apply Kd.R_alloc | apply Kd.R_drewN | apply Kd.R_drew)); exact HO.out)); (case aS => exact (below_size (by repeat (first | exact HB2.out | exact Below.refl _ _ | apply below_alloc | apply pw_below_drewN | apply below_drew1)))); (case aL => omega); intro v3 w3 ho hb hg hat; have n0_ := Aside0.mk hb; have n1_ := Aside0.mk ho; clear ho hb hg hat))
              go_roundw
              case measure => (first | rw [hw] | skip); show nf - ((k : Int) + 1).toNat < nf - (k : Int).toNat; omega
              case rel =>
                obtain ⟨A3, c3, e3⟩ := Kd.R_slice n1_.out
                subst e3
                exact ⟨k + 1, A3, c3, _, by (first | rw [hw] | skip); rfl, rfl, by omega, by rw [List.length_append]; simp; omega, ⟨HT.out.symm⟩, n1_, n0_⟩
        · have g2 : decide (k < nf) = false := decide_eq_false (by omega)
          go_wp2
          go_ret2
          rw [HSO.out, ← HMK.out]
          have h9 := HOUT.out
          rw [List.take_of_length_le (by omega)] at h9
          rw [← h9]
          exact ⟨_, rfl, Kd.R_lower HO.out HBW.out.size, HBW.out.trans (HB2.out.mono HBW.out.size)⟩
theorem Of_ok (A : Option Addr) (c : Nat) (l : List Sp) (w : World) (hr : Kd.C k39 w A l.length l) : Calls Try.prog 11 #[.slice A l.length c] w fun e w' => ∃ v : Value, e = .returned (.tuple #[v, .int .i64 (sOf l).2]) ∧ Kd.R k39 39 w' w.heap.size (fun _ => True) v (sOf l).1 ∧ Below w.heap.size w w' := by
  by_cases hm : 256 < l.length
  · rw [show sOf l = ([], 5) from if_pos hm]
    exact Of_many A c l w hr hm
  · exact Of_one A c l w hr hm
end Go.Proofs.Ytingbjdpjimikaa.B
namespace Go.Proofs.Ytingbjdpjimikaa
open Go.Shelf Go.RowKit Go.Lib Go.Sort
shelf_lay_g SlLaysM.n5 Slgm 5 at Try 56 as Try.sortInts
shelf_lay_g SlLaysN.n43 Slgn 43 at Try 57 as Try.compInts
end Go.Proofs.Ytingbjdpjimikaa
namespace Go.Proofs.Ytingbjdpjimikaa.B
open Go.RowKit Go.Proofs Go.Proofs.YtingbjdpjimikaaW.PrintWords Go.Proofs.YtingbjdpjimikaaW.PrintLast Go.Proofs.YtingbjdpjimikaaW.PrintMore Go.Proofs.Ytingbjdpjimikaa.FBase
theorem comp_upto (d : Array Int) (hd : ∀ i j, i < j → j < d.size → d[i]! ≤ d[j]!) : ∀ m, m ≤ d.size → Ris (Lib.compactUpTo d m) ∧ (∀ x, x ∈ Lib.compactUpTo d m ↔ ∃ j, j < m ∧ d[j]! = x)
  | 0, _ => ⟨List.Pairwise.nil, fun x => ⟨fun h => (nomatch h), fun ⟨j, hj, _⟩ => absurd hj (Nat.not_lt_zero _)⟩⟩
  | m + 1, hm => by
    obtain ⟨h1, h2⟩ := comp_upto d hd m (by omega)
    rw [Lib.compactUpTo_succ]
    by_cases hk : Lib.keeps d m = true
    · rw [if_pos hk]
      have hk2 : m = 0 ∨ d[m]! ≠ d[m - 1]! := of_decide_eq_true hk
      constructor
      · unfold Ris
        refine List.pairwise_append.2 ⟨h1, List.pairwise_singleton _ _, fun a ha b hb => ?_⟩
        rw [List.mem_singleton.1 hb]
        obtain ⟨j, hj, rfl⟩ := (h2 a).1 ha
        have h3 := hd j m (by omega) (by omega)
        have h4 : d[m - 1]! ≤ d[m]! := hd (m - 1) m (by omega) (by omega)
        have h5 : d[j]! ≤ d[m - 1]! := by
          by_cases hjm : j = m - 1
          · rw [hjm]; exact Int.le_refl _
          · exact hd j (m - 1) (by omega) (by omega)
        rcases hk2 with hk2 | hk2
        · omega
        · omega
      · intro x
        rw [List.mem_append, h2 x, List.mem_singleton]
        constructor
        · rintro (⟨j, hj, e⟩ | rfl)
          · exact ⟨j, by omega, e⟩
          · exact ⟨m, by omega, rfl⟩
        · rintro ⟨j, hj, e⟩
          by_cases hjm : j = m
          · subst hjm; exact .inr e.symm
          · exact .inl ⟨j, by omega, e⟩
    · rw [if_neg hk, List.append_nil]
      have hk2 : ¬ (m = 0 ∨ d[m]! ≠ d[m - 1]!) := fun h => hk (decide_eq_true h)
      refine ⟨h1, fun x => ?_⟩
      rw [h2 x]
      constructor
      · rintro ⟨j, hj, e⟩
        exact ⟨j, by omega, e⟩
      · rintro ⟨j, hj, e⟩
        by_cases hjm : j = m
        · subst hjm
          refine ⟨j - 1, by omega, ?_⟩
          rw [← e]
          have : d[j]! = d[j - 1]! := Decidable.byContradiction fun h => hk2 (.inr h)
          exact this.symm
        · exact ⟨j, by omega, e⟩
theorem comp_ok (zs : List Int) : Ris (Lib.compact (zs.mergeSort fun x y => decide (x ≤ y))) ∧ ∀ x, x ∈ Lib.compact (zs.mergeSort fun x y => decide (x ≤ y)) ↔ x ∈ zs := by
  have hs : (zs.mergeSort fun x y => decide (x ≤ y)).Pairwise (fun a b => decide (a ≤ b) = true) := List.pairwise_mergeSort (by simp; omega) (by simp; omega) zs
  have hp := List.mergeSort_perm zs (fun x y => decide (x ≤ y))
  generalize (zs.mergeSort fun x y => decide (x ≤ y)) = ss at hs hp ⊢
  unfold Lib.compact
  have h := comp_upto ss.toArray (fun i j hij hj => by
    have hj' : j < ss.length := by simpa using hj
    have h1 := List.pairwise_iff_getElem.1 hs i j (by omega) hj' hij
    rw [getElem!_pos _ i (by simp; omega), getElem!_pos _ j (by simpa using hj)]
    simpa using h1) ss.length (by simp)
  refine ⟨h.1, fun x => (h.2 x).trans ?_⟩
  rw [← hp.mem_iff]
  constructor
  · rintro ⟨j, hj, rfl⟩
    rw [getElem!_pos _ j (by simpa using hj)]
    simp
  · intro hx
    obtain ⟨j, hj, rfl⟩ := List.getElem_of_mem hx
    exact ⟨j, hj, by rw [getElem!_pos _ j (by simpa using hj)]; simp⟩
theorem grown_put {w : World} {g n : Nat} (d : Array Int) (os : Array Obj) : w.grownBy (Go.Sort.grow (Go.Sort.putRow (Value.int .i64) (Go.Sort.ahead w n) g 0 d) os) (some g) := by
  refine ⟨rfl, rfl, rfl, ?_, fun k hk hne => ?_⟩
  · simp [Go.Sort.putRow, Go.Sort.mapBlock, Go.Sort.ahead, Go.Sort.grow]
  · rw [Go.Sort.heap_grow_old _ _ (by simpa [Go.Sort.putRow, Go.Sort.mapBlock, Go.Sort.ahead] using hk)]
    have : g ≠ k := fun e => hne (by rw [e])
    simp [Go.Sort.putRow, Go.Sort.mapBlock, Go.Sort.ahead, Array.getElem?_modify, this]
theorem SortI_ok (A : Option Addr) (n c : Nat) (zs : List Int) (base : Nat) (ok : Nat → Prop) (w : World) (h : Kd.R (Kd.int .i64) 3 w base ok (.slice A n c) zs) (h0 : 0 < zs.length) (hl : zs.length ≤ 1000000) :
    Calls Try.prog 56 #[.slice A n c] w fun e w' => e = .returned (.tuple #[]) ∧ Kd.R (Kd.int .i64) 3 w' base ok (.slice A n c) (zs.mergeSort fun x y => decide (x ≤ y)) ∧ w.grownBy w' (Value.slice A n c).ownBlock := by
  obtain ⟨g, cap, e0, hb, hg, _⟩ := Kd.R_form h h0
  injection e0 with e1 e2 e3
  subst e1; subst e2; subst e3
  have ho : w.ownsRow base 3 1 (.slice (some ⟨g, 0, none⟩) zs.length c) zs.length (zs.map (Value.int .i64)) := Kd.own_of_R (enc := Value.int .i64) (h1 := fun _ => rfl) h
  obtain ⟨g', cap', e0, _, hg', _, _, _, hH⟩ := Lib.holds_of_ownsRow ho (fun e => by cases e)
  cases e0
  have hcon := AnyM.slices_Sort_int Try.sortInts g 0 c zs w hH hg (by omega)
  refine hcon.mono ?_
  rintro e w' ⟨rfl, n, os, rfl⟩
  have hml : (zs.mergeSort fun x y => decide (x ≤ y)).length = zs.length := List.length_mergeSort _
  have ho2 := Lib.ownsRow_putRow (q := n) (k := zs.length) ho hml (Nat.le_refl _)
  rw [List.take_of_length_le (by omega)] at ho2
  have ho3 := Lib.ownsRow_grow ho2 0 os
  refine ⟨rfl, Kd.R_of_own (enc := Value.int .i64) (h1 := fun _ => rfl) ?_ h.1, grown_put _ _⟩
  rw [hml]
  exact ho3
theorem CompI_ok (A : Option Addr) (n c : Nat) (zs : List Int) (base : Nat) (ok : Nat → Prop) (w : World) (h : Kd.R (Kd.int .i64) 3 w base ok (.slice A n c) zs) (h0 : 0 < zs.length) (hl : zs.length ≤ 1000000) :
    Calls Try.prog 57 #[.slice A n c] w fun e w' => e = .returned (.slice A (Lib.compact zs).length c) ∧ Kd.R (Kd.int .i64) 3 w' base ok (.slice A (Lib.compact zs).length c) (Lib.compact zs) ∧ w.grownBy w' (Value.slice A n c).ownBlock := by
  obtain ⟨g, cap, e0, hb, hg, _⟩ := Kd.R_form h h0
  injection e0 with e1 e2 e3
  subst e1; subst e2; subst e3
  have ho : w.ownsRow base 3 1 (.slice (some ⟨g, 0, none⟩) zs.length c) zs.length (zs.map (Value.int .i64)) := Kd.own_of_R (enc := Value.int .i64) (h1 := fun _ => rfl) h
  obtain ⟨g', cap', e0, _, hg', hnc, _, _, hH⟩ := Lib.holds_of_ownsRow ho (fun e => by cases e)
  cases e0
  have hcon := AnyG.slices_Compact_int Try.compInts g 0 c zs w hH (by omega) hnc
  refine hcon.mono ?_
  rintro e w' ⟨rfl, q, rfl⟩
  have hcl := Lib.compact_length_le zs
  have ho2 := Lib.ownsRow_putRow (q := q) (k := (Lib.compact zs).length) (ys := Lib.compact zs ++ List.replicate (zs.length - (Lib.compact zs).length) 0) ho (by simp; omega) hcl
  rw [List.take_left] at ho2
  refine ⟨rfl, Kd.R_of_own (enc := Value.int .i64) (h1 := fun _ => rfl) ho2 h.1, ?_⟩
  have := grown_put (w := w) (g := g) (n := q) (Lib.compact zs ++ List.replicate (zs.length - (Lib.compact zs).length) 0).toArray #[]
  rw [Go.Sort.grow_empty] at this
  exact this
end Go.Proofs.Ytingbjdpjimikaa.B
namespace Go.Proofs.Ytingbjdpjimikaa.B
open Go.RowKit Go.Proofs Go.Proofs.YtingbjdpjimikaaW.PrintWords Go.Proofs.YtingbjdpjimikaaW.PrintLast Go.Proofs.YtingbjdpjimikaaW.PrintMore Go.Proofs.Ytingbjdpjimikaa.FBase
def pts (l : List Sp) : List Int := l.flatMap fun x => [x.f0, x.f1]
theorem pts_app (l m : List Sp) : pts (l ++ m) = pts l ++ pts m := List.flatMap_append
theorem pts_mem (l : List Sp) (y : Int) : y ∈ pts l ↔ ∃ x ∈ l, y = x.f0 ∨ y = x.f1 := by
  unfold pts
  rw [List.mem_flatMap]
  simp
def ptk (l1 l2 : List Sp) : Nat → List Sp
  | 0 => []
  | 1 => l1
  | _ => l1 ++ l2
theorem lit_own2 (W : World) (base : Nat) (x y : Int) (hb : base ≤ W.heap.size) : Kd.R (Kd.int .i64) 3 (W.alloc (.cells #[.int .i64 x, .int .i64 y] 3)) base (fun _ => True) (.slice (some ⟨W.heap.size, 0, none⟩) 2 2) [x, y] :=
  Kd.R_of_own (enc := Value.int .i64) (h1 := fun _ => rfl) ⟨rfl, .inr ⟨W.heap.size, 2, _, rfl, hb, blk_new W _, Nat.le_refl _, by decide, rfl, rfl⟩⟩ (fun _ _ => trivial)
theorem cuts_eq (l : List Sp) (hm : ∀ x ∈ l, may x) : Lib.compact (([0, 1114112] ++ pts l).mergeSort fun x y => decide (x ≤ y)) = cutsOf l := by
  have h1 := comp_ok ([0, 1114112] ++ pts l)
  have h2 := cutsOf_ok l hm
  refine Ris.uniq h1.1 h2.1 fun x => ?_
  rw [h1.2 x, h2.2 x, List.mem_append, pts_mem]
  simp
set_option maxRecDepth 100000 in
set_option maxHeartbeats 4000000 in
theorem cuts_ok (b : Nat) (A1 A2 : Option Addr) (c1 c2 : Nat) (l1 l2 : List Sp) (w : World) (hb : IsBlk w b (.cells #[.slice A1 l1.length c1, .slice A2 l2.length c2] 22 (0, 0))) (hr1 : Kd.C k39 w A1 l1.length l1) (hr2 : Kd.C k39 w A2 l2.length l2) (hl1 : l1.length ≤ 256) (hl2 : l2.length ≤ 256) (hm : ∀ x ∈ l1 ++ l2, may x) :
    Calls Try.prog 47 #[.slice (some ⟨b, 0, none⟩) 2 2] w fun e w' => ∃ (A : Option Addr) (c : Nat), e = .returned (.slice A (cutsOf (l1 ++ l2)).length c) ∧ Kd.R (Kd.int .i64) 3 w' w.heap.size (fun _ => True) (.slice A (cutsOf (l1 ++ l2)).length c) (cutsOf (l1 ++ l2)) ∧ Below w.heap.size w w' := by
  have HK := Aside0.mk hb
  have H1 := Aside0.mk hr1
  have H2 := Aside0.mk hr2
  have HM := Aside0.mk hm
  clear hb hr1 hr2 hm
  go_enter Try.func47, Try.ntmps47
  go_wp2
  go_loopw [3, 11] (fun s3 s11 W => ∃ (k : Nat) (A3 : Option Addr) (c3 : Nat) (acc : List Int), s11 = .int .i64 k ∧ s3 = .slice A3 acc.length c3 ∧ k ≤ 2 ∧ Aside0 (acc.length = 2 + 2 * (ptk l1 l2 k).length) ∧ Aside0 (acc = [0, 1114112] ++ pts (ptk l1 l2 k)) ∧ Aside0 (Kd.R (Kd.int .i64) 3 W w.heap.size (fun _ => True) (.slice A3 acc.length c3) acc) ∧ Aside0 (Below w.heap.size w W)) (fun _ s11 _ => 2 - (intOf s11).toNat)
  case atStart => exact ⟨0, _, _, [0, 1114112], rfl, rfl, by omega, ⟨rfl⟩, ⟨rfl⟩, ⟨lit_own2 _ _ _ _ (Nat.le_refl _)⟩, ⟨below_alloc (Below.refl _ _) _⟩⟩
  case round =>
    obtain ⟨k, A3, c3, acc, rfl, rfl, hk, HAL, HACC, HO, HB⟩ := hrel
    by_cases h1 : k < 2
    · obtain ⟨A0, c0, l0, hcell, hC0, hl0, hpk⟩ : ∃ A0 c0 l0, wr.cell? ⟨b, k, none⟩ = some (.slice A0 l0.length c0) ∧ Aside0 (Kd.C k39 w A0 l0.length l0) ∧ l0.length ≤ 256 ∧ ptk l1 l2 (k + 1) = ptk l1 l2 k ++ l0 := by
        have hbk := HK.out.below HB.out
        rcases (show k = 0 ∨ k = 1 by omega) with rfl | rfl
        · exact ⟨A1, c1, l1, hbk.cell 0, H1, hl1, rfl⟩
        · exact ⟨A2, c2, l2, hbk.cell 1, H2, hl2, rfl⟩
      have hkl : (ptk l1 l2 k).length ≤ 256 := by
        rcases (show k = 0 ∨ k = 1 by omega) with rfl | rfl
        · exact Nat.zero_le _
        · exact hl1
      have g2 : decide ((k : Int) < 2) = true := decide_eq_true (by omega)
      have hwk : wrap64 ((k : Int) + 1) = (k : Int) + 1 := by unfold wrap64; omega
      have HPK := Aside0.mk hpk
      clear hpk
      go_wp2
      go_loopw [3, 17] (fun s3 s17 W => ∃ (j : Nat) (A3 : Option Addr) (c3 : Nat) (acc : List Int), s17 = .int .i64 j ∧ s3 = .slice A3 acc.length c3 ∧ j ≤ l0.length ∧ Aside0 (acc.length = 2 + 2 * ((ptk l1 l2 k).length + j)) ∧ Aside0 (acc = [0, 1114112] ++ pts (ptk l1 l2 k ++ l0.take j)) ∧ Aside0 (Kd.R (Kd.int .i64) 3 W w.heap.size (fun _ => True) (.slice A3 acc.length c3) acc) ∧ Aside0 (Below w.heap.size w W)) (fun _ s17 _ => l0.length - (intOf s17).toNat)
      case atStart => exact ⟨0, A3, c3, acc, rfl, rfl, Nat.zero_le _, HAL, ⟨by rw [HACC.out, List.take_zero, List.append_nil]⟩, HO, HB⟩
      case round =>
        clear HACC HO HB HAL hcell
        obtain ⟨j, A3, c3, acc, rfl, rfl, hj, HAL, HACC, HO, HB⟩ := hrel
        by_cases h2 : j < l0.length
        · have g3 : decide (j < l0.length) = true := decide_eq_true h2
          obtain ⟨ad, e1, y0, y1⟩ := at_T39 (Kd.C_below hC0.out HB.out) (j : Int) (by omega) (by omega)
          cases e1
          rw [Int.toNat_natCast] at y0 y1
          have hw : wrap64 ((j : Int) + 1) = (j : Int) + 1 := by unfold wrap64; omega
          have hx : rd_T39 l0 (j : Int) = l0[j] := rdS h2
          have hacc2 : acc ++ [l0[j].f0, l0[j].f1] = [0, 1114112] ++ pts (ptk l1 l2 k ++ l0.take (j + 1)) := by
            rw [List.take_succ_eq_append_getElem h2, ← List.append_assoc (ptk l1 l2 k), pts_app (ptk l1 l2 k ++ l0.take j), ← List.append_assoc, ← HACC.out]
            rfl
          rw [← hx] at hacc2
          have HA2 := Aside0.mk hacc2
          clear hacc2 hx HACC
          generalize rd_T39 l0 (j : Int) = x at *
          go_wp2_with ((with_reducible refine gate_builtin (b := .append) (xs := #[.tmp 21, .tmp 26]) rfl ?_); at_builtin; go_loud (refine Kd.R_append_rows (Kd.int .i64) (w0 := w) w.heap.size rfl (.tmp 21) (.tmp 26) 53 3 (.int .i64 0) 8 rfl Try.underlying53 info3 rfl (by decide) (by omega) (.slice A3 acc.length c3) acc [x.f0, x.f1] _ _ _ (fun _ => True) (fun _ => False) rfl rfl ?aO ?aR (fun _ _ h => h) (fun _ h => h.elim) ?aF ?aB ?aS ?aL ?_; (case aR => (have h8 := (Kd.R_reads' (lit_own2 (wr.alloc (.cells #[.int .i64 x.f0, .int .i64 x.f1] 39)) w.heap.size x.f0 x.f1 (below_size (by repeat (first | exact HB.out | exact Below.refl _ _ | apply below_alloc | apply pw_below_drewN | apply below_drew1))))).2.2; rw [World.size_alloc] at h8; exact h8)); (case aB => exact (by repeat (first | exact HB.out | exact Below.refl _ _ | apply below_alloc | apply pw_below_drewN | apply below_drew1))); (case aF => exact (fun _ _ => trivial)); (case aO => exact (by (with_reducible repeat (first | apply Kd.R_alloc | apply Kd.R_drewN | apply Kd.R_drew)); exact HO.out)); (case aS => exact (below_size (by repeat (first | exact HB.out | exact Below.refl _ _ | apply below_alloc | apply pw_below_drewN | apply below_drew1)))); (case aL => have h7 := HAL.out; simp; omega); intro v3 w3 ho hb hg hat; have n0_ := Aside0.mk hb; have n1_ := Aside0.mk ho; clear ho hb hg hat))
          go_roundw
          case measure => (first | rw [hw] | skip); show l0.length - ((j : Int) + 1).toNat < l0.length - (j : Int).toNat; omega
          case rel =>
            obtain ⟨A4, c4, e3⟩ := Kd.R_slice n1_.out
            subst e3
            exact ⟨j + 1, A4, c4, _, by (first | rw [hw] | skip); rfl, rfl, by omega, ⟨by rw [List.length_append, HAL.out]; simp; omega⟩, HA2, n1_, n0_⟩
        · have g3 : decide (j < l0.length) = false := decide_eq_false h2
          have hjl : j = l0.length := by omega
          subst hjl
          rw [List.take_length, ← HPK.out] at HACC
          have hpl : (ptk l1 l2 (k + 1)).length = (ptk l1 l2 k).length + l0.length := by rw [HPK.out, List.length_append]
          have HPL := Aside0.mk hpl
          clear hpl
          go_wp2
          go_roundw
          case measure => (first | rw [hwk] | skip); show 2 - ((k : Int) + 1).toNat < 2 - (k : Int).toNat; omega
          case rel => exact ⟨k + 1, A3, c3, acc, by (first | rw [hwk] | skip); rfl, rfl, by omega, ⟨by rw [HAL.out, HPL.out]⟩, HACC, HO, HB⟩
    · have hk2 : k = 2 := by omega
      subst hk2
      have hlen : (ptk l1 l2 2).length = l1.length + l2.length := List.length_append
      have hal := HAL.out
      have HS1 := Aside0.mk fun W (h : Kd.R (Kd.int .i64) 3 W w.heap.size (fun _ => True) (.slice A3 acc.length c3) acc) => SortI_ok A3 acc.length c3 acc _ _ W h (by omega) (by omega)
      have hms : (acc.mergeSort fun x y => decide (x ≤ y)).length = acc.length := List.length_mergeSort _
      have HS2 := Aside0.mk fun W (h : Kd.R (Kd.int .i64) 3 W w.heap.size (fun _ => True) (.slice A3 acc.length c3) (acc.mergeSort fun x y => decide (x ≤ y))) => CompI_ok A3 acc.length c3 _ _ _ W h (by omega) (by omega)
      have hce : Lib.compact (acc.mergeSort fun x y => decide (x ≤ y)) = cutsOf (l1 ++ l2) := by
        rw [HACC.out]
        exact cuts_eq (l1 ++ l2) HM.out
      rw [hce] at HS2
      clear hce hms hlen hal
      go_wp2_with (first | (go_at_call 56; refine (HS1.out _ HO.out).mono ?_; rintro e w3 ⟨rfl, ho, hg⟩; have hb3 := Aside0.mk (HB.out.grown hg HB.out.size (own_base (Kd.R_own HO.out).choose_spec)); have HO3 := Aside0.mk ho; clear HO HB ho hg) | (go_at_call 57; refine (HS2.out _ HO3.out).mono ?_; rintro e w4 ⟨rfl, ho, hg⟩; have hb4 := Aside0.mk (hb3.out.grown hg hb3.out.size (own_base (Kd.R_own HO3.out).choose_spec)); have HO4 := Aside0.mk ho; clear HO3 hb3 ho hg))
      go_ret
      exact ⟨A3, c3, rfl, HO4.out, hb4.out⟩
end Go.Proofs.Ytingbjdpjimikaa.B
