/-
  Plain laws of lines: they lie one behind the other; of each byte there is one line.
-/
import Derived.Test.YtogfaahdbecdnaaC1
namespace Go.Proofs.Ytogfaahdbecdnaa.B
open Go.RowKit Go.Proofs.YtogfaahdbecdnaaW.PrintWords Go.Proofs.YtogfaahdbecdnaaW.PrintLast Go.Proofs.YtogfaahdbecdnaaW.PrintMore Go.Proofs.Ytogfaahdbecdnaa.FBase
set_option linter.unusedVariables false

/-- Lines one behind the other, from fr to e; the last one has no end. -/
def Chain : List Ln → Int → Int → Prop
  | [], _, _ => False
  | [x], fr, e => x.f0 = fr ∧ fr ≤ x.f1 ∧ x.f1 = x.f2 ∧ x.f2 = e
  | x :: y :: r, fr, e => x.f0 = fr ∧ fr ≤ x.f1 ∧ x.f1 < x.f2 ∧ x.f2 ≤ x.f1 + 2 ∧ Chain (y :: r) x.f2 e
theorem Chain.cons {x : Ln} {r : List Ln} {fr e : Int} (h0 : x.f0 = fr) (h1 : fr ≤ x.f1) (h2 : x.f1 < x.f2) (h3 : x.f2 ≤ x.f1 + 2) (h : Chain r x.f2 e) : Chain (x :: r) fr e := by
  cases r with
  | nil => exact h.elim
  | cons y r => exact ⟨h0, h1, h2, h3, h⟩
theorem lns_chain (n : Nat) : ∀ (l : List Int) (fr i : Int), l.length ≤ n → fr ≤ i → Chain (lns l fr i) fr (i + l.length) := by
  induction n with
  | zero =>
    intro l fr i hl hfi
    obtain rfl : l = [] := List.length_eq_zero_iff.1 (by omega)
    rw [lns]
    exact ⟨rfl, hfi, rfl, by simp⟩
  | succ n ih =>
    intro l fr i hl hfi
    cases l with
    | nil => rw [lns]; exact ⟨rfl, hfi, rfl, by simp⟩
    | cons b r =>
      rw [lns]
      simp only [List.length_cons] at hl ⊢
      by_cases h10 : b = 10
      · rw [if_pos h10]
        refine Chain.cons rfl hfi (by show i < i + 1; omega) (by show i + 1 ≤ i + 2; omega) ?_
        have := ih r (i + 1) (i + 1) (by omega) (Int.le_refl _)
        rwa [show i + 1 + (r.length : Int) = i + ((r.length + 1 : Nat) : Int) by omega] at this
      · rw [if_neg h10]
        by_cases h13 : b = 13
        · rw [if_pos h13]
          by_cases h2 : r.head? = some 10
          · rw [if_pos h2]
            refine Chain.cons rfl hfi (by show i < i + 2; omega) (by show i + 2 ≤ i + 2; omega) ?_
            have hr : 0 < r.length := by
              cases r with
              | nil => simp at h2
              | cons y r => simp
            have := ih r.tail (i + 2) (i + 2) (by simp; omega) (Int.le_refl _)
            rwa [show i + 2 + (r.tail.length : Int) = i + ((r.length + 1 : Nat) : Int) by simp; omega] at this
          · rw [if_neg h2]
            refine Chain.cons rfl hfi (by show i < i + 1; omega) (by show i + 1 ≤ i + 2; omega) ?_
            have := ih r (i + 1) (i + 1) (by omega) (Int.le_refl _)
            rwa [show i + 1 + (r.length : Int) = i + ((r.length + 1 : Nat) : Int) by omega] at this
        · rw [if_neg h13]
          have := ih r fr (i + 1) (by omega) (by omega)
          rwa [show i + 1 + (r.length : Int) = i + ((r.length + 1 : Nat) : Int) by omega] at this
theorem lns_chain0 (l : List Int) : Chain (lns l 0 0) 0 l.length := by
  have := lns_chain l.length l 0 0 (Nat.le_refl _) (Int.le_refl _)
  rwa [Int.zero_add] at this

theorem Chain.pos {L : List Ln} {fr e : Int} (h : Chain L fr e) : 0 < L.length := by
  cases L with
  | nil => exact h.elim
  | cons x r => simp
theorem rdLn_zero (x : Ln) (r : List Ln) : rdLn (x :: r) 0 = x := rfl
theorem rdLn_succ (x : Ln) (r : List Ln) (t : Nat) : rdLn (x :: r) ((t + 1 : Nat) : Int) = rdLn r (t : Int) := by simp [rdLn, List.getD]
/-- What is told of each line. -/
theorem Chain.at : ∀ {L : List Ln} {fr e : Int}, Chain L fr e → ∀ t : Nat, t < L.length → fr ≤ (rdLn L t).f0 ∧ (rdLn L t).f0 ≤ (rdLn L t).f1 ∧ (rdLn L t).f1 ≤ (rdLn L t).f2 ∧ (rdLn L t).f2 ≤ e ∧ (t = 0 → (rdLn L t).f0 = fr) ∧
    (t + 1 < L.length → (rdLn L t).f1 < (rdLn L t).f2 ∧ (rdLn L t).f2 ≤ (rdLn L t).f1 + 2 ∧ (rdLn L (t + 1 : Nat)).f0 = (rdLn L t).f2) ∧ (t + 1 = L.length → (rdLn L t).f1 = e ∧ (rdLn L t).f2 = e) ∧ fr ≤ e
  | [], _, _, h, _, _ => h.elim
  | [x], fr, e, ⟨h0, h1, h2, h3⟩, t, ht => by
    obtain rfl : t = 0 := by simpa using ht
    simp only [Int.natCast_zero, rdLn_zero, List.length_singleton]
    omega
  | x :: y :: r, fr, e, ⟨h0, h1, h2, h2', h3⟩, t, ht => by
    cases t with
    | zero =>
      have h4 := Chain.at h3 0 (by simp)
      have h5 := h4.2.2.2.2.1 rfl
      simp only [Int.natCast_zero, rdLn_zero, List.length_cons] at h4 ⊢
      rw [show ((0 + 1 : Nat) : Int) = ((0 + 1 : Nat) : Int) from rfl, rdLn_succ]
      simp only [Int.natCast_zero, rdLn_zero]
      simp only [Int.natCast_zero, rdLn_zero] at h5
      omega
    | succ t =>
      have h4 := Chain.at h3 t (by simpa using ht)
      rw [rdLn_succ, rdLn_succ]
      simp only [List.length_cons] at h4 ⊢
      have h5 := h4.2.2.2.2.2.1
      have h6 := h4.2.2.2.2.2.2.1
      refine ⟨by omega, by omega, by omega, by omega, by omega, fun h => h5 (by omega), fun h => h6 (by omega), by omega⟩
theorem Chain.step {L : List Ln} {fr e : Int} (h : Chain L fr e) (a : Nat) : ∀ d : Nat, a + d < L.length → (rdLn L a).f2 + d ≤ (rdLn L (a + d : Nat)).f2 + (if a + d + 1 = L.length then 1 else 0) ∧ (rdLn L a).f2 ≤ (rdLn L (a + d : Nat)).f2 := by
  intro d
  induction d with
  | zero => intro _; simp; split <;> omega
  | succ d ih =>
    intro hd
    have h1 := ih (by omega)
    have h2 := h.at (a + d) (by omega)
    have h3 := h.at (a + d + 1) (by omega)
    have h4 := h2.2.2.2.2.2.1 (by omega)
    rw [if_neg (by omega)] at h1
    have e1 : ((a + (d + 1) : Nat)) = a + d + 1 := by omega
    rw [e1]
    by_cases hl : a + d + 1 + 1 = L.length
    · rw [if_pos hl]
      omega
    · rw [if_neg hl]
      have h5 := h3.2.2.2.2.2.1 (by omega)
      omega
theorem Chain.rises {L : List Ln} {fr e : Int} (h : Chain L fr e) : Rises L := by
  intro a b hab hb
  obtain ⟨d, rfl⟩ : ∃ d, b = a + d := ⟨b - a, by omega⟩
  exact (h.step a d hb).2
theorem Chain.last {L : List Ln} {fr e : Int} (h : Chain L fr e) : (rdLn L ((L.length : Int) - 1)).f2 = e := by
  have hp := h.pos
  have := (h.at (L.length - 1) (by omega)).2.2.2.2.2.2.1 (by omega)
  rw [show ((L.length : Int) - 1) = ((L.length - 1 : Nat) : Int) by omega]
  exact this.2
theorem Chain.length_le {L : List Ln} {fr e : Int} (h : Chain L fr e) : (L.length : Int) ≤ e - fr + 1 := by
  have hp := h.pos
  have h1 := (h.step 0 (L.length - 1) (by omega)).1
  rw [if_pos (by omega)] at h1
  have h2 := h.at 0 hp
  have h3 := (h.at (0 + (L.length - 1)) (by omega)).2.2.2.2.2.2.1 (by omega)
  rw [h3.2] at h1
  by_cases hl : L.length = 1
  · omega
  · have := h2.2.2.2.2.2.1 (by omega)
    omega
theorem Chain.find {L : List Ln} {fr e : Int} (h : Chain L fr e) (at_ : Int) : ∃ r, FindAt L at_ r := by
  have hp := h.pos
  have : ∀ d : Nat, d < L.length → (∃ r, FindAt L at_ r) ∨ (∀ t : Nat, t < d → (rdLn L t).f2 ≤ at_) := by
    intro d
    induction d with
    | zero => intro _; exact .inr (fun t ht => absurd ht (Nat.not_lt_zero _))
    | succ d ih =>
      intro hd
      rcases ih (by omega) with h1 | h1
      · exact .inl h1
      · by_cases hlt : at_ < (rdLn L d).f2
        · exact .inl ⟨d, by omega, h1, fun _ => hlt⟩
        · refine .inr (fun t ht => ?_)
          rcases Nat.lt_succ_iff_lt_or_eq.1 ht with h2 | rfl
          · exact h1 t h2
          · omega
  rcases this (L.length - 1) (by omega) with h1 | h1
  · exact h1
  · exact ⟨L.length - 1, by omega, h1, fun h2 => by omega⟩

/-- (*lines.Index).Find is the line of a byte. -/
theorem Find_is (a : Nat) (L : List Ln) (fr e at_ : Int) (r : Nat) (w : World) (hI : IsIdx w a L) (hc : Chain L fr e) (h0 : 0 ≤ at_) (h1 : at_ ≤ e) (hs : L.length ≤ 2097152) (hf : FindAt L at_ r) :
    Calls Try.prog 31 #[.pointer (some ⟨a, 0, none⟩), .int .i64 at_] w fun e w' => e = .returned (.tuple #[.int .i64 r, .int .i64 0]) ∧ Below w.heap.size w w' := by
  refine (Find_ok a L at_ w hI hc.pos h0 (by rw [hc.last]; exact h1) hs hc.rises).mono ?_
  rintro e' w' ⟨r', rfl, h2, h3, h4, hb⟩
  obtain rfl : r' = r := FindAt.uniq ⟨h2, h3, fun h => h4 r' (Nat.le_refl _) h⟩ hf
  exact ⟨rfl, hb⟩
theorem Find_no (a : Nat) (L : List Ln) (fr e at_ : Int) (w : World) (hI : IsIdx w a L) (hc : Chain L fr e) (h1 : at_ < 0 ∨ e < at_) (hs : L.length ≤ 2097152) :
    Calls Try.prog 31 #[.pointer (some ⟨a, 0, none⟩), .int .i64 at_] w fun e w' => e = .returned (.tuple #[.int .i64 0, .int .i64 9]) ∧ Below w.heap.size w w' :=
  Find_out a L at_ w hI hc.pos (by rw [hc.last]; exact h1) hs
theorem RFind_is (a : Nat) (L : List Ln) (fr e at_ : Int) (r : Nat) (w : World) (hI : IsRef w a L) (hc : Chain L fr e) (h0 : 0 ≤ at_) (h1 : at_ ≤ e) (hs : L.length ≤ 2097152) (hf : FindAt L at_ r) :
    Calls Try.prog 32 #[.pointer (some ⟨a, 0, none⟩), .int .i64 at_] w fun e w' => e = .returned (.tuple #[.int .i64 r, .int .i64 0]) ∧ w = w' := by
  refine (RFind_ok a L at_ w hI hc.pos h0 (by rw [hc.last]; exact h1) hs).mono ?_
  rintro e' w' ⟨r', rfl, h2, rfl⟩
  obtain rfl : r' = r := h2.uniq hf
  exact ⟨rfl, rfl⟩
theorem RFind_no (a : Nat) (L : List Ln) (fr e at_ : Int) (w : World) (hI : IsRef w a L) (hc : Chain L fr e) (h1 : at_ < 0 ∨ e < at_) (hs : L.length ≤ 2097152) :
    Calls Try.prog 32 #[.pointer (some ⟨a, 0, none⟩), .int .i64 at_] w fun e w' => e = .returned (.tuple #[.int .i64 0, .int .i64 9]) ∧ w = w' :=
  RFind_out a L at_ w hI hc.pos (by rw [hc.last]; exact h1) hs
end Go.Proofs.Ytogfaahdbecdnaa.B
