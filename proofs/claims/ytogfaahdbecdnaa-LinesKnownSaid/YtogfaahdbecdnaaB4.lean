/-
  lines: All (a range over a function), Count, walked.
-/
import Derived.RangeFuncNested
import Derived.RangeFuncBound
import Derived.RangeFuncCalls
import Derived.RangeFuncLeaves
import Derived.RangeFuncBox
import Derived.Shelf.Abstract
import Derived.Shelf.RegionOpen
import Derived.OwnWalkIn
import Derived.TacticsInMore
import Derived.LoopNIn
import Derived.LoopIn
import Derived.Test.YtogfaahdbecdnaaB3
namespace Go.Proofs.Ytogfaahdbecdnaa.B
open Go.RowKit Go.Shelf Go.Proofs Go.Proofs.YtogfaahdbecdnaaW.PrintWords Go.Proofs.YtogfaahdbecdnaaW.PrintLast Go.Proofs.YtogfaahdbecdnaaW.PrintMore Go.Proofs.Ytogfaahdbecdnaa.FBase
set_option linter.unusedVariables false
attribute [local go_sem] Oper.semAt_some

/-- What has come when k rounds are over: f 0, .., f (k - 1). -/
def upto {α : Type} (f : Nat → α) (k : Nat) : List α := (List.range k).map f
theorem upto_succ {α : Type} (f : Nat → α) (k : Nat) : upto f (k + 1) = upto f k ++ [f k] := by simp [upto, List.range_succ]
theorem upto_length {α : Type} (f : Nat → α) (k : Nat) : (upto f k).length = k := by simp [upto]

/-- A line's number and its plain span, as All yields them. -/
abbrev encLn (x : Nat × Ln) : Array Value := #[.int .i64 (x.1 : Int), .agg #[.int .i64 x.2.f0, .int .i64 x.2.f1]]
abbrev nthLn (L : List Ln) (j : Nat) : Nat × Ln := (j, rdLn L (j : Int))

set_option maxRecDepth 100000 in
set_option maxHeartbeats 2000000 in
/-- All's closure, for every loop body that keeps what lay below n₀. -/
theorem All1 (n : Nat) (hn : 1 ≤ n) (l Bs n₀ a : Nat) (L : List Ln) (hpos : 0 < L.length) (hs : L.length ≤ 2097152) (J Jx : List (Nat × Ln) → World → Prop)
    (W : World) (hJ : AbidesFrom W.heap.size J) (hJx : AbidesFrom W.heap.size Jx)
    (hY : ∀ pre x W1, J pre W1 → pre.length < L.length → YieldAt Fence.wide (n - 1) Try.prog l (encLn x) W1 fun e W' =>
      (e = .returned (.bool true) ∧ J (pre ++ [x]) W' ∧ Below n₀ W1 W') ∨ (e = .returned (.bool false) ∧ Jx (pre ++ [x]) W'))
    (w0 : World) (hw0 : w0.heap.size = n₀) (hbW : Below n₀ w0 W) (hI : IsIdx w0 a L) (hBs : W.cell? ⟨Bs, 0, none⟩ = some (.pointer (some ⟨a, 0, none⟩))) (h0 : J [] W) :
    CallsIn Fence.wide n Try.prog 59 #[.func (.yield l) #[] #[], .pointer (some ⟨Bs, 0, none⟩)] W fun e W' => (∃ v, e = .returned v) ∧
      ((∃ ys, ys = upto (nthLn L) L.length ∧ J ys W') ∨ (∃ pre, (∃ k, k ≤ L.length ∧ pre = upto (nthLn L) k) ∧ Jx pre W')) := by
  subst hw0
  have HI := Aside0.mk hI
  have hbW' : Below w0.heap.size w0 W := hbW
  obtain ⟨A, c, h3, hl, hC⟩ := hI.cell
  have h3W := (hbW.cell (World.block_lt_of_cell? w0 _ h3)).trans h3
  have HC := Aside0.mk hC
  have HB := Aside0.mk hbW
  have HJ := Aside0.mk hJ
  have HY := Aside0.mk hY
  clear hI hC hJ hJx hbW hbW' hY h3
  refine callsIn_of_wp Try.func59 rfl trivial ?_ rfl
  simp only [Try.ntmps59, List.size_toArray, List.length_cons, List.length_nil, Nat.reduceAdd, Nat.reduceSub, Array.replicate_succ, Array.replicate_zero, List.push_toArray, List.append_toArray, List.nil_append, List.cons_append]
  gi_wp2_with (refine ⟨trivial, ?_⟩; gi_at_call 58; refine (callsIn_wide.2 (none_idx _ a L (IsIdx.below HI.out HB.out) hpos)).mono ?_; rintro e w' ⟨rfl, rfl⟩)
  gi_loopw [12] (fun i wr => ∃ k : Nat, k ≤ L.length ∧ i = .int .i64 k ∧ Aside0 (J (upto (nthLn L) k) wr) ∧ Aside0 (Below w0.heap.size W wr) ∧ Aside0 (W.heap.size ≤ wr.heap.size))
    (fun i _ => L.length - (intOf i).toNat)
  case atStart => exact ⟨0, Nat.zero_le _, rfl, ⟨h0⟩, ⟨Below.refl _ _⟩, ⟨Nat.le_refl _⟩⟩
  case round =>
    obtain ⟨k, hk, rfl, HJs, HBr, HSz⟩ := hrel
    by_cases hlt : k < L.length
    · obtain ⟨ad, e, h4, h5, h6⟩ := atLn HC.out (k : Int) (by omega) (by omega)
      cases e
      rw [Int.toNat_natCast] at h4 h5 h6
      have hB2 := HB.out.trans HBr.out
      have g4 := (hB2.cell (World.block_lt_of_cell? w0 _ h4)).trans h4
      have g5 := (hB2.cell (World.block_lt_of_cell? w0 _ h5)).trans h5
      have g6 := (hB2.cell (World.block_lt_of_cell? w0 _ h6)).trans h6
      clear h4 h5 h6 hB2
      have hJa : J (upto (nthLn L) k) (wr.alloc (.cells #[.int .i64 (rdLn L k).f0, .int .i64 (rdLn L k).f1, .int .i64 (rdLn L k).f2] 90)) :=
        HJ.out _ _ _ none HJs.out (World.grownBy_alloc _ _ none) (fun r e => by cases e)
      obtain ⟨fn, tmps, assign, body, hy, hR⟩ := HY.out _ (nthLn L k) _ hJa (by rw [upto_length]; exact hlt)
      dsimp only [encLn, nthLn] at hy
      gi_wp2
      refine hR.mono ?_
      rintro e W3 (⟨rfl, hJ3, hk3⟩ | ⟨rfl, hJx3⟩)
      · gi_wp2
        go_roundw
        case rel => exact ⟨k + 1, by omega, by simp, ⟨by rw [upto_succ]; exact hJ3⟩, ⟨(HBr.out.alloc (by have := HB.out.size; have := HSz.out; omega) _).trans hk3⟩, ⟨by have := hk3.size; have := HSz.out; simp at *; omega⟩⟩
        case measure => simp [intOf]; omega
      · gi_wp2
        refine bodyPost_ret (results_none rfl _ _ _) rfl ?_
        exact ⟨⟨_, rfl⟩, .inr ⟨_, ⟨k + 1, by omega, (upto_succ _ _).symm⟩, hJx3⟩⟩
    · obtain rfl : k = L.length := by omega
      gi_wp2
      go_end0
      exact ⟨⟨_, rfl⟩, .inl ⟨_, rfl, HJs.out⟩⟩

/-- All hands back a function value over a box of its receiver. -/
theorem All_calls (p : Option Addr) (w : World) :
    Calls Try.prog 30 #[.pointer p] w fun e w' => e = .returned (.func (.func 59) #[] #[.pointer (some ⟨w.heap.size, 0, none⟩)]) ∧ w' = w.alloc (.cells #[.pointer p] 24) := by
  go_enter Try.func30, Try.ntmps30
  go_wp2
  go_ret
  exact ⟨rfl, rfl⟩

/-- What All hands back yields the lines, each with its number, in order. -/
theorem All_stops (n : Nat) (hn : 1 ≤ n) (Bs n₀ a : Nat) (L : List Ln) (hpos : 0 < L.length) (hs : L.length ≤ 2097152) (w0 w : World) (hw0 : w0.heap.size = n₀) (hbW : Below n₀ w0 w) (hI : IsIdx w0 a L) (hBs : Bs < w.heap.size) (hc : w.cell? ⟨Bs, 0, none⟩ = some (.pointer (some ⟨a, 0, none⟩))) :
    SeqStopsK Fence.wide n Try.prog 59 #[.pointer (some ⟨Bs, 0, none⟩)] encLn (Below n₀) (fun ys => ys = upto (nthLn L) L.length)
      (fun pre => ∃ k, k ≤ L.length ∧ pre = upto (nthLn L) k) L.length w := fun l J Jx W hW hJ hJx hY h0 => by
  have hc' := (hW.cell (p := ⟨Bs, 0, none⟩) hBs).trans hc
  exact All1 n hn l Bs n₀ a L hpos hs J Jx W hJ hJx hY w0 hw0 (hbW.trans (hW.mono (by have := hbW.size; omega))) hI hc' h0
end Go.Proofs.Ytogfaahdbecdnaa.B
