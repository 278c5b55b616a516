/-
  lines: Line, Find (with sort.Search), walked.
-/
import Derived.Test.YtogfaahdbecdnaaB1
namespace Go.Proofs.Ytogfaahdbecdnaa.B
open Go.RowKit Go.Proofs.YtogfaahdbecdnaaW.PrintWords Go.Proofs.YtogfaahdbecdnaaW.PrintLast Go.Proofs.YtogfaahdbecdnaaW.PrintMore Go.Proofs.Ytogfaahdbecdnaa.FBase
set_option linter.unusedVariables false

/-- (*lines.Index).Find's closure: does that line end behind the byte? -/
theorem FindFn (ba bx a : Nat) (L : List Ln) (at_ : Int) (i : Nat) (w : World) (hi : i < L.length) (h1 : w.cell? ⟨ba, 0, none⟩ = some (.int .i64 at_)) (h2 : w.cell? ⟨bx, 0, none⟩ = some (.pointer (some ⟨a, 0, none⟩))) (hI : IsIdx w a L) :
    Calls Try.prog 61 #[.int .i64 i, .pointer (some ⟨ba, 0, none⟩), .pointer (some ⟨bx, 0, none⟩)] w fun e w' => e = .returned (.bool (decide (at_ < (rdLn L i).f2))) ∧ ∃ q, w' = w.drewN q := by
  obtain ⟨A, c, h3, hl, hC⟩ := hI.cell
  obtain ⟨ad, e, _, _, h4⟩ := atLn hC i (by omega) (by omega)
  cases e
  rw [Int.toNat_natCast] at h4
  have hi2 : (i : Int) < (L.length : Int) := by omega
  generalize L.length = n at *
  clear hC hI
  generalize (rdLn L ↑i).f2 = z at *
  go_enter Try.func61, Try.ntmps61
  go_wp2
  go_quiet (fail)
  go_wp2
  go_ret
  exact ⟨rfl, _, rfl⟩

set_option maxHeartbeats 1000000 in
/-- sort.Search over that closure: the least place at which it says yes, where it goes on to say so. -/
theorem Search (cb : Array Value) (n : Nat) (p : Nat → Bool) (w : World) (hsz : n < 4611686018427387904)
    (hf : ∀ (m : Nat) (i : Nat), i < n → Calls Try.prog 61 (#[.int .i64 i] ++ cb) (w.drewN m) fun e w' => e = .returned (.bool (p i)) ∧ ∃ q, w' = (w.drewN m).drewN q)
    (hmono : ∀ a b, a ≤ b → b < n → p a = true → p b = true) :
    Calls Try.prog 60 #[.int .i64 n, .func (.func 61) #[] cb] w fun e w' => ∃ r : Nat, e = .returned (.int .i64 r) ∧ r ≤ n ∧ (∀ t, t < r → p t = false) ∧ (∀ t, r ≤ t → t < n → p t = true) ∧ ∃ q, w' = w.drewN q := by
  have HF := Aside0.mk hf
  have M := Aside0.mk hmono
  clear hf hmono
  go_enter Try.func60, Try.ntmps60
  go_wp2
  go_loopg [5, 6] n (fun kx s5 s6 wr => ∃ (lo hi q : Nat), s5 = .int .i64 lo ∧ s6 = .int .i64 hi ∧ lo ≤ hi ∧ hi ≤ n ∧ hi - lo ≤ kx ∧ wr = w.drewN q ∧
    Aside0 ((∀ t, t < lo → p t = false) ∧ (∀ t, hi ≤ t → t < n → p t = true)))
  case atStart => exact ⟨0, n, 0, rfl, rfl, Nat.zero_le _, Nat.le_refl _, by omega, rfl, ⟨fun t ht => absurd ht (Nat.not_lt_zero _), fun t h1 h2 => by omega⟩⟩
  case round =>
    obtain ⟨lo, hi, q, rfl, rfl, hlh, hin, hg, rfl, I⟩ := hrel
    by_cases hlt : lo < hi
    · have hc := HF.out q ((lo + hi) / 2) (by omega)
      rw [show (((lo + hi) / 2 : Nat) : Int) = ((lo : Int) + (hi : Int)) / 2 by omega] at hc
      cases hp : p ((lo + hi) / 2) <;> rw [hp] at hc
      · have HP := Aside0.mk hp
        clear hp
        go_wp2_with (go_at_call 61; refine hc.mono ?_; rintro e w' ⟨rfl, nq, rfl⟩)
        go_roundg (hi - ((lo + hi) / 2 + 1))
        case measure => omega
        case rel =>
          have I2 : Aside0 ((∀ t, t < (lo + hi) / 2 + 1 → p t = false) ∧ (∀ t, hi ≤ t → t < n → p t = true)) := ⟨fun t ht => (by
            cases h : p t with
            | false => rfl
            | true => have := M.out t ((lo + hi) / 2) (by omega) (by omega) h; rw [HP.out] at this; cases this), I.out.2⟩
          exact ⟨(lo + hi) / 2 + 1, hi, q + nq, by rw [show ((lo : Int) + (hi : Int)) / 2 + 1 = (((lo + hi) / 2 + 1 : Nat) : Int) by omega], rfl, by omega, hin, Nat.le_refl _, rfl, I2⟩
      · have HP := Aside0.mk hp
        clear hp
        go_wp2_with (go_at_call 61; refine hc.mono ?_; rintro e w' ⟨rfl, nq, rfl⟩)
        go_roundg ((lo + hi) / 2 - lo)
        case measure => omega
        case rel =>
          have I2 : Aside0 ((∀ t, t < lo → p t = false) ∧ (∀ t, (lo + hi) / 2 ≤ t → t < n → p t = true)) := ⟨I.out.1, fun t ht htn => M.out ((lo + hi) / 2) t ht htn HP.out⟩
          exact ⟨lo, (lo + hi) / 2, q + nq, rfl, by rw [show ((lo : Int) + (hi : Int)) / 2 = (((lo + hi) / 2 : Nat) : Int) by omega], by omega, by omega, Nat.le_refl _, rfl, I2⟩
    · obtain rfl : hi = lo := by omega
      go_wp2
      go_ret
      exact ⟨hi, rfl, hin, I.out.1, I.out.2, q, rfl⟩

theorem cell_alloc2 {w : World} {p : Addr} {v : Value} (h : w.cell? p = some v) : ∀ o1 o2 : Obj, ((w.alloc o1).alloc o2).cell? p = some v := by
  intro o1 o2
  have hb := World.block_lt_of_cell? w _ h
  exact ((below_alloc (below_alloc (Below.refl w.heap.size w) o1) o2).cell hb).trans h
theorem cell_alloc3 {w : World} {p : Addr} {v : Value} (h : w.cell? p = some v) : ∀ o1 o2 o3 : Obj, (((w.alloc o1).alloc o2).alloc o3).cell? p = some v := by
  intro o1 o2 o3
  have hb := World.block_lt_of_cell? w _ h
  exact ((below_alloc (below_alloc (below_alloc (Below.refl w.heap.size w) o1) o2) o3).cell hb).trans h

set_option maxHeartbeats 1000000 in
/-- (*lines.Index).Line of a line that there is. -/
theorem Line_ok (a : Nat) (L : List Ln) (i : Int) (w : World) (hI : IsIdx w a L) (h0 : 0 ≤ i) (h1 : i < L.length) (hs : L.length ≤ 2097152) :
    Calls Try.prog 27 #[.pointer (some ⟨a, 0, none⟩), .int .i64 i] w fun e w' => e = .returned (.tuple #[.agg #[.int .i64 (rdLn L i).f0, .int .i64 (rdLn L i).f2], .agg #[.int .i64 (rdLn L i).f0, .int .i64 (rdLn L i).f1], .int .i64 0]) ∧ Below w.heap.size w w' := by
  have HI := Aside0.mk hI
  obtain ⟨A, c, h3, hl, hC⟩ := hI.cell
  obtain ⟨ad, e, h4, h5, h6⟩ := atLn hC i h0 h1
  cases e
  have hpos : 0 < L.length := by omega
  clear hC hI
  generalize (rdLn L i).f0 = x0 at *
  generalize (rdLn L i).f1 = x1 at *
  generalize (rdLn L i).f2 = x2 at *
  have g3 := cell_alloc2 h3
  have g4 := cell_alloc2 h4
  have g5 := cell_alloc2 h5
  have g6 := cell_alloc2 h6
  clear h3 h4 h5 h6
  have hlt : decide (i < 0) = false := decide_eq_false (by omega)
  have hge : decide ((L.length : Int) ≤ i) = false := decide_eq_false (by omega)
  go_enter Try.func27, Try.ntmps27
  go_wp2_with (go_at_call 58; refine (none_idx _ a L (by repeat (first | exact HI.out | apply IsIdx.alloc | apply IsIdx.drewN)) hpos).mono ?_; rintro e w' ⟨rfl, rfl⟩)
  go_region
  go_wp2
  refine bodyPost_ret (v := .tuple #[.agg #[.int .i64 x0, .int .i64 x2], .agg #[.int .i64 x0, .int .i64 x1], .int .i64 0]) (by simp [results, Try.results27, go_sem]) rfl ⟨rfl, ?_⟩
  repeat (first | exact Below.refl _ _ | apply below_alloc | apply pw_below_drewN | apply below_drew1 | refine Below.setCell ?_ (by simp) _)
end Go.Proofs.Ytogfaahdbecdnaa.B
