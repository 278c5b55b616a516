/-
  Words of this session's own: struct kinds (a span, a line), an index of lines as an object in memory.
-/
import Derived.Test.YtogfaahdbecdnaaFBasex4
import Derived.Deep.DeepFit
namespace Go.Proofs.Ytogfaahdbecdnaa.B
open Go.RowKit Go.Proofs.YtogfaahdbecdnaaW.PrintWords Go.Proofs.YtogfaahdbecdnaaW.PrintLast Go.Proofs.YtogfaahdbecdnaaW.PrintMore
set_option linter.unusedVariables false

theorem info3 : (Try.prog.info? 3).map (fun i => (i.zero, i.size, i.bytes)) = some (some (.int .i64 0), 1, 8) := by kernel_rfl
theorem infoLn : (Try.prog.info? 90).map (fun i => (i.zero, i.size, i.bytes)) = some (some (.agg #[.int .i64 0, .int .i64 0, .int .i64 0]), 3, 24) := by kernel_rfl
theorem infoSp : (Try.prog.info? 35).map (fun i => (i.zero, i.size, i.bytes)) = some (some (.agg #[.int .i64 0, .int .i64 0]), 2, 16) := by kernel_rfl

/-- A line: where it begins, where what ends it begins, where that ends. -/
structure Ln where
  f0 : Int
  f1 : Int
  f2 : Int
deriving DecidableEq
def zLn : Ln := ⟨0, 0, 0⟩
def kLn : Kd Ln := Kd.iso (Kd.pair (Kd.int .i64) (Kd.pair (Kd.int .i64) (Kd.int .i64))) (fun x : Ln => (x.f0, x.f1, x.f2))
theorem kLn_open {w : World} {x : Ln} {cs : List Value} (h : kLn.K w x cs) : cs = [.int .i64 x.f0, .int .i64 x.f1, .int .i64 x.f2] := by
  obtain ⟨_, _, rfl, rfl, _, _, rfl, rfl, rfl⟩ := h
  exact rfl
theorem kLn_mkM (w : World) (base : Nat) (ok : Nat → Prop) (x : Ln) : kLn.M w base ok x [.int .i64 x.f0, .int .i64 x.f1, .int .i64 x.f2] :=
  ⟨[.int .i64 x.f0], [.int .i64 x.f1, .int .i64 x.f2], rfl, rfl, ⟨[.int .i64 x.f1], [.int .i64 x.f2], rfl, rfl, rfl⟩⟩
def rdLn (xs : List Ln) (i : Int) : Ln := xs.getD i.toNat zLn
theorem atLn {w : World} {A : Option Addr} {n : Nat} {xs : List Ln} (h : Kd.C kLn w A n xs) (i : Int) (h0 : 0 ≤ i) (h1 : i < n) : ∃ ad , A = some ad ∧ w.cell? (ad.add (i.toNat * 3)) = some (.int .i64 (rdLn xs i).f0) ∧ w.cell? ⟨(ad.add (i.toNat * 3)).block, (ad.add (i.toNat * 3)).off + 1, none⟩ = some (.int .i64 (rdLn xs i).f1) ∧ w.cell? ⟨(ad.add (i.toNat * 3)).block, (ad.add (i.toNat * 3)).off + 2, none⟩ = some (.int .i64 (rdLn xs i).f2) := by
  obtain ⟨ad, c, e, _, hK, hc0⟩ := Kd.C_get h zLn i h0 h1
  have hc : ∀ j u, c[j]? = some u → w.cell? (ad.add (i.toNat * 3 + j)) = some u := hc0
  obtain rfl := kLn_open hK
  exact ⟨ad, e, hc 0 _ rfl, by rw [← add_field _ _ 1 (by omega)]; exact hc 1 _ rfl, by rw [← add_field _ _ 2 (by omega)]; exact hc 2 _ rfl⟩

/-- An index of lines at block a of W: its lines. -/
def IsIdx (W : World) (a : Nat) (L : List Ln) : Prop :=
  ∃ A c, W.heap[a]? = some (.cells #[.slice A L.length c] 56 (0, 0)) ∧ L.length ≤ c ∧ Kd.C kLn W A L.length L
theorem IsIdx.lt {W : World} {a : Nat} {L : List Ln} (h : IsIdx W a L) : a < W.heap.size := by
  obtain ⟨A, c, hb, _⟩ := h
  exact blk_lt hb
theorem IsIdx.below {W W1 : World} {a : Nat} {L : List Ln} (h : IsIdx W a L) (hb : Below W.heap.size W W1) : IsIdx W1 a L := by
  have hl := h.lt
  obtain ⟨A, c, h1, h2, h3⟩ := h
  exact ⟨A, c, (hb.block a hl).trans h1, h2, Kd.C_below h3 hb⟩
theorem IsIdx.alloc {W : World} {a : Nat} {L : List Ln} (h : IsIdx W a L) (o : Obj) : IsIdx (W.alloc o) a L := h.below (below_alloc (Below.refl _ _) o)
theorem IsIdx.drewN {W : World} {a : Nat} {L : List Ln} (h : IsIdx W a L) (m : Nat) : IsIdx (W.drewN m) a L := h.below (pw_below_drewN (Below.refl _ _) m)
theorem IsIdx.drew {W : World} {a : Nat} {L : List Ln} (h : IsIdx W a L) : IsIdx W.drew a L := h.below (below_drew (Below.refl _ _))
/-- What an index's one cell holds. -/
theorem IsIdx.cell {W : World} {a : Nat} {L : List Ln} (h : IsIdx W a L) : ∃ A c, W.cell? ⟨a, 0, none⟩ = some (.slice A L.length c) ∧ L.length ≤ c ∧ Kd.C kLn W A L.length L := by
  obtain ⟨A, c, hb, hl, hc⟩ := h
  exact ⟨A, c, (blk_cell hb 0).trans rfl, hl, hc⟩

/-- (*lines.Index).none of nil. -/
theorem none_nil (w : World) : Calls Try.prog 58 #[.pointer none] w fun e w' => e = .returned (.bool true) ∧ w = w' := by
  go_enter Try.func58, Try.ntmps58
  go_wp2
  go_ret
  exact ⟨rfl, rfl⟩
/-- .. of an index with a line. -/
theorem none_idx (w : World) (a : Nat) (L : List Ln) (h : IsIdx w a L) (hL : 0 < L.length) : Calls Try.prog 58 #[.pointer (some ⟨a, 0, none⟩)] w fun e w' => e = .returned (.bool false) ∧ w = w' := by
  obtain ⟨A, c, hc, hl, _⟩ := h.cell
  have hz : ((L.length : Int) == 0) = false := by rw [beq_eq_false_iff_ne]; omega
  have hz2 : ¬ (L = []) := by rintro rfl; simp at hL
  generalize L.length = n at *
  go_enter Try.func58, Try.ntmps58
  go_wp2
  go_ret
  exact ⟨rfl, rfl⟩
end Go.Proofs.Ytogfaahdbecdnaa.B
