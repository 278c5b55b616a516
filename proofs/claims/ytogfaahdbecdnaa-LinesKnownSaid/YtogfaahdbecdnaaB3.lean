/-
  lines: Line beyond the lines, Find, All, Count, walked.
-/
import Derived.Test.YtogfaahdbecdnaaB2
namespace Go.Proofs.Ytogfaahdbecdnaa.B
open Go.RowKit Go.Proofs.YtogfaahdbecdnaaW.PrintWords Go.Proofs.YtogfaahdbecdnaaW.PrintLast Go.Proofs.YtogfaahdbecdnaaW.PrintMore Go.Proofs.Ytogfaahdbecdnaa.FBase
set_option linter.unusedVariables false

set_option maxHeartbeats 1000000 in
/-- (*lines.Index).Line of a line that there isn't. -/
theorem Line_out (a : Nat) (L : List Ln) (i : Int) (w : World) (hI : IsIdx w a L) (hpos : 0 < L.length) (h1 : i < 0 ∨ L.length ≤ i) (hs : L.length ≤ 2097152) :
    Calls Try.prog 27 #[.pointer (some ⟨a, 0, none⟩), .int .i64 i] w fun e w' => e = .returned (.tuple #[.agg #[.int .i64 0, .int .i64 0], .agg #[.int .i64 0, .int .i64 0], .int .i64 9]) ∧ Below w.heap.size w w' := by
  have HI := Aside0.mk hI
  obtain ⟨A, c, h3, hl, hC⟩ := hI.cell
  clear hC hI
  have g3 := cell_alloc2 h3
  clear h3
  by_cases hlt : i < 0
  all_goals
    have hge : ¬ i < 0 → decide ((L.length : Int) ≤ i) = true := fun h => decide_eq_true (by omega)
    go_enter Try.func27, Try.ntmps27
    go_wp2_with (go_at_call 58; refine (none_idx _ a L (by repeat (first | exact HI.out | apply IsIdx.alloc | apply IsIdx.drewN)) hpos).mono ?_; rintro e w' ⟨rfl, rfl⟩)
    refine bodyPost_ret (v := .tuple #[.agg #[.int .i64 0, .int .i64 0], .agg #[.int .i64 0, .int .i64 0], .int .i64 9]) (by simp [results, Try.results27, go_sem]) rfl ⟨rfl, ?_⟩
    repeat (first | exact Below.refl _ _ | apply below_alloc | apply pw_below_drewN | apply below_drew1 | refine Below.setCell ?_ (by simp) _)

set_option maxHeartbeats 1000000 in
/-- (*lines.Index).Line of nil. -/
theorem Line_nil (i : Int) (w : World) :
    Calls Try.prog 27 #[.pointer none, .int .i64 i] w fun e w' => e = .returned (.tuple #[.agg #[.int .i64 0, .int .i64 0], .agg #[.int .i64 0, .int .i64 0], .int .i64 1]) ∧ Below w.heap.size w w' := by
  go_enter Try.func27, Try.ntmps27
  go_wp2_with (go_at_call 58; refine (none_nil _).mono ?_; rintro e w' ⟨rfl, rfl⟩)
  refine bodyPost_ret (v := .tuple #[.agg #[.int .i64 0, .int .i64 0], .agg #[.int .i64 0, .int .i64 0], .int .i64 1]) (by simp [results, Try.results27, go_sem]) rfl ⟨rfl, ?_⟩
  repeat (first | exact Below.refl _ _ | apply below_alloc | apply pw_below_drewN | apply below_drew1 | refine Below.setCell ?_ (by simp) _)

/-- Lines rise. -/
def Rises (L : List Ln) : Prop := ∀ a b : Nat, a ≤ b → b < L.length → (rdLn L a).f2 ≤ (rdLn L b).f2

set_option maxHeartbeats 1000000 in
/-- (*lines.Index).Find of a byte that there is. -/
theorem Find_ok (a : Nat) (L : List Ln) (at_ : Int) (w : World) (hI : IsIdx w a L) (hpos : 0 < L.length) (h0 : 0 ≤ at_) (h1 : at_ ≤ (rdLn L ((L.length : Int) - 1)).f2) (hs : L.length ≤ 2097152) (hr : Rises L) :
    Calls Try.prog 31 #[.pointer (some ⟨a, 0, none⟩), .int .i64 at_] w fun e w' => ∃ r : Nat, e = .returned (.tuple #[.int .i64 r, .int .i64 0]) ∧ r < L.length ∧ (∀ t : Nat, t < r → (rdLn L t).f2 ≤ at_) ∧ (∀ t : Nat, r ≤ t → t + 1 < L.length → at_ < (rdLn L t).f2) ∧ Below w.heap.size w w' := by
  have HI := Aside0.mk hI
  have HRS := Aside0.mk hr
  obtain ⟨A, c, h3, hl, hC⟩ := hI.cell
  obtain ⟨n, hn⟩ : ∃ n, L.length = n + 1 := ⟨L.length - 1, by omega⟩
  rw [hn] at h3 hl hC hs h1
  rw [show (((n + 1 : Nat) : Int) - 1) = (n : Int) by omega] at h1
  obtain ⟨ad, e, _, _, h4⟩ := atLn hC (n : Int) (by omega) (by omega)
  cases e
  rw [Int.toNat_natCast] at h4
  clear hC hI hr
  have HN := Aside0.mk hn
  clear hn
  have g3 := cell_alloc2 h3
  have g4 := cell_alloc2 h4
  clear h3 h4
  have hlt : decide (at_ < 0) = false := decide_eq_false (by omega)
  have hgt : decide ((rdLn L (n : Int)).f2 < at_) = false := decide_eq_false (by omega)
  have HS : Aside0 (∀ t : Nat, t ≤ n → ∃ z, z = (rdLn L t).f2) := ⟨fun t _ => ⟨_, rfl⟩⟩
  go_enter Try.func31, Try.ntmps31
  go_wp2_with (go_at_call 58; refine (none_idx _ a L (by repeat (first | exact HI.out | apply IsIdx.alloc | apply IsIdx.drewN)) hpos).mono ?_; rintro e w' ⟨rfl, rfl⟩)
  go_quiet (fail)
  go_wp2_with fail
  refine (Search #[Value.pointer (some ⟨w.heap.size + 1, 0, none⟩), Value.pointer (some ⟨w.heap.size, 0, none⟩)] n (fun t => decide (at_ < (rdLn L t).f2)) _ (by omega) ?hf ?hm).mono ?_
  case hf =>
    intro m i hi
    refine FindFn (w.heap.size + 1) w.heap.size a L at_ i _ (by have := HN.out; omega) ?_ ?_ ?_
    · show ((w.alloc (Obj.cells #[Value.pointer (some ⟨a, 0, none⟩)] 24)).alloc (Obj.cells #[Value.int .i64 at_] 3)).cell? ⟨w.heap.size + 1, 0, none⟩ = _
      simp
    · show ((w.alloc (Obj.cells #[Value.pointer (some ⟨a, 0, none⟩)] 24)).alloc (Obj.cells #[Value.int .i64 at_] 3)).cell? ⟨w.heap.size, 0, none⟩ = _
      simp
    · repeat (first | exact HI.out | apply IsIdx.drewN | apply IsIdx.alloc)
  case hm => exact fun x y hxy hy hx => decide_eq_true (by have := HRS.out x y hxy (by have := HN.out; omega); have := of_decide_eq_true hx; omega)
  rintro e w' ⟨r, rfl, hr, h1, h2, q, rfl⟩
  have K1 := Aside0.mk h1
  have K2 := Aside0.mk h2
  clear h1 h2
  go_wp2
  go_ret2
  refine ⟨r, rfl, by have := HN.out; omega, fun t ht => by have := of_decide_eq_false (K1.out t ht); omega, fun t h1 h2 => of_decide_eq_true (K2.out t h1 (by have := HN.out; omega)), ?_⟩
  repeat (first | exact Below.refl _ _ | apply below_alloc | apply pw_below_drewN | apply below_drew1 | refine Below.setCell ?_ (by simp) _)

set_option maxHeartbeats 1000000 in
/-- (*lines.Index).Find of a byte that there isn't. -/
theorem Find_out (a : Nat) (L : List Ln) (at_ : Int) (w : World) (hI : IsIdx w a L) (hpos : 0 < L.length) (h1 : at_ < 0 ∨ (rdLn L ((L.length : Int) - 1)).f2 < at_) (hs : L.length ≤ 2097152) :
    Calls Try.prog 31 #[.pointer (some ⟨a, 0, none⟩), .int .i64 at_] w fun e w' => e = .returned (.tuple #[.int .i64 0, .int .i64 9]) ∧ Below w.heap.size w w' := by
  have HI := Aside0.mk hI
  obtain ⟨A, c, h3, hl, hC⟩ := hI.cell
  obtain ⟨n, hn⟩ : ∃ n, L.length = n + 1 := ⟨L.length - 1, by omega⟩
  rw [hn] at h3 hl hC hs h1
  rw [show (((n + 1 : Nat) : Int) - 1) = (n : Int) by omega] at h1
  obtain ⟨ad, e, _, _, h4⟩ := atLn hC (n : Int) (by omega) (by omega)
  cases e
  rw [Int.toNat_natCast] at h4
  clear hC hI
  clear hn
  have g3 := cell_alloc2 h3
  have g4 := cell_alloc2 h4
  clear h3 h4
  generalize (rdLn L (n : Int)).f2 = z at *
  by_cases hlt0 : at_ < 0
  · have hlt : decide (at_ < 0) = true := decide_eq_true hlt0
    clear h1
    go_enter Try.func31, Try.ntmps31
    go_wp2_with (go_at_call 58; refine (none_idx _ a L (by repeat (first | exact HI.out | apply IsIdx.alloc | apply IsIdx.drewN)) hpos).mono ?_; rintro e w' ⟨rfl, rfl⟩)
    go_quiet (fail)
    go_wp2
    go_ret2
    refine ⟨rfl, ?_⟩
    repeat (first | exact Below.refl _ _ | apply below_alloc | apply pw_below_drewN | apply below_drew1 | refine Below.setCell ?_ (by simp) _)
  · have hlt : decide (at_ < 0) = false := decide_eq_false hlt0
    have hgt : decide (z < at_) = true := decide_eq_true (by omega)
    go_enter Try.func31, Try.ntmps31
    go_wp2_with (go_at_call 58; refine (none_idx _ a L (by repeat (first | exact HI.out | apply IsIdx.alloc | apply IsIdx.drewN)) hpos).mono ?_; rintro e w' ⟨rfl, rfl⟩)
    go_quiet (fail)
    go_wp2
    go_ret2
    refine ⟨rfl, ?_⟩
    repeat (first | exact Below.refl _ _ | apply below_alloc | apply pw_below_drewN | apply below_drew1 | refine Below.setCell ?_ (by simp) _)
end Go.Proofs.Ytogfaahdbecdnaa.B
