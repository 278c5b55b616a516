/-
  Plain laws of characters: Check.
-/
import Derived.Test.YtogfaahdbecdnaaM0
namespace Go.Proofs.Ytogfaahdbecdnaa.B
open Go.RowKit Go.Proofs.YtogfaahdbecdnaaW.PrintWords Go.Proofs.YtogfaahdbecdnaaW.PrintLast Go.Proofs.YtogfaahdbecdnaaW.PrintMore Go.Proofs.Ytogfaahdbecdnaa.FBase
set_option linter.unusedVariables false

theorem LeO_le {α : Type} {f : Nat → Option α} (h : ∀ k, LeO (f k) (f (k + 1))) {a b : Nat} (hab : a ≤ b) {r : α} (e : f a = some r) : f b = some r := by
  obtain ⟨d, rfl⟩ : ∃ d, b = a + d := ⟨b - a, by omega⟩
  induction d with
  | zero => exact e
  | succ d ih => exact h _ _ (ih (by omega))

theorem restOf_ok {c n lo hi : Int} {t : List Int} (h0 : 0 ≤ c) (hn : n = 2 ∨ n = 3 ∨ n = 4) (he : (restOf c n lo hi t).2.2 = 0) : (restOf c n lo hi t).2.1 = n ∧ n ≤ t.length + 1 ∧ 0 ≤ (restOf c n lo hi t).1 := by
  unfold restOf at *
  cases t with
  | nil => simp at he
  | cons b1 t1 =>
    simp only at he ⊢
    by_cases l1 : b1 < lo
    · simp [l1] at he
    · by_cases g1 : hi < b1
      · simp [l1, g1] at he
      · rw [if_neg l1, if_neg g1] at he ⊢
        by_cases n2 : n = 2
        · rw [if_pos n2]; simp only [len1]; refine ⟨n2.symm, ?_, ?_⟩ <;> omega
        · rw [if_neg n2] at he ⊢
          cases t1 with
          | nil => simp at he
          | cons b2 t2 =>
            simp only at he ⊢
            by_cases l2 : b2 < 128
            · simp [l2] at he
            · by_cases g2 : 191 < b2
              · simp [l2, g2] at he
              · rw [if_neg l2, if_neg g2] at he ⊢
                by_cases n3 : n = 3
                · rw [if_pos n3]; simp only [len1]; refine ⟨n3.symm, ?_, ?_⟩ <;> omega
                · rw [if_neg n3] at he ⊢
                  cases t2 with
                  | nil => simp at he
                  | cons b3 t3 =>
                    simp only at he ⊢
                    by_cases l3 : b3 < 128
                    · simp [l3] at he
                    · by_cases g3 : 191 < b3
                      · simp [l3, g3] at he
                      · rw [if_neg l3, if_neg g3]; simp only [len1]; refine ⟨by omega, ?_, ?_⟩ <;> omega
/-- A character has a size, and lies in the bytes. -/
theorem dec_ok {y : List Int} (hy : Bytes y) (he : (dec y).2.2 = 0) : 1 ≤ (dec y).2.1 ∧ (dec y).2.1 ≤ y.length ∧ (dec y).2.1 ≤ 4 ∧ 0 ≤ (dec y).1 := by
  unfold dec at *
  cases y with
  | nil => simp at he
  | cons b t =>
    have hb := hy b (by simp)
    simp only at he ⊢
    rcases size_range b with e | e | e | e | e
    · simp [e] at he
    · simp only [e, if_true, len1]; omega
    · rw [e] at he ⊢
      rw [if_neg (by decide), if_neg (by decide), if_pos rfl] at he ⊢
      have := restOf_ok (by omega) (by simp) he
      simp only [len1]
      omega
    · rw [e] at he ⊢
      rw [if_neg (by decide), if_neg (by decide), if_neg (by decide), if_pos rfl] at he ⊢
      have := restOf_ok (by omega) (by simp) he
      simp only [len1]
      omega
    · rw [e] at he ⊢
      rw [if_neg (by decide), if_neg (by decide), if_neg (by decide), if_neg (by decide)] at he ⊢
      have := restOf_ok (by omega) (by simp) he
      simp only [len1]
      omega

/-- Check, from a place on. -/
def chkF : Nat → List Int → Int → Int × Int
  | 0, _, i => (i, 0)
  | n + 1, l, i => if i < l.length then (if (dec (l.drop i.toNat)).2.2 = 0 then chkF n l (i + (dec (l.drop i.toNat)).2.1) else (i, (dec (l.drop i.toNat)).2.2)) else (i, 0)
def chk (l : List Int) : Int × Int := chkF l.length l 0

theorem Decode_ge {l : List Int} {i : Int} (h : Bytes l) (hl : l.length ≤ 1048576) (h0 : 0 ≤ i) (h1 : i < l.length) {k : Nat} (hk : 8 ≤ k) : runes_Decode.f k l i = some (dec (l.drop i.toNat)) :=
  LeO_le (fun k => runes_Decode.mono l i k) hk (Decode_f l i h hl h0 h1)
theorem Check_l (l : List Int) (h : Bytes l) (hl : l.length ≤ 1048576) (n : Nat) : ∀ (k : Nat) (i : Int), 0 ≤ i → i ≤ l.length → (l.length : Int) - i ≤ n → n + 8 < k → runes_Check.l0 k l i = some (chkF n l i) := by
  induction n with
  | zero =>
    intro k i h0 h1 hn hk
    obtain ⟨k, rfl⟩ : ∃ m, k = m + 1 := ⟨k - 1, by omega⟩
    rw [runes_Check.l0, if_neg (by omega), chkF]
  | succ n ih =>
    intro k i h0 h1 hn hk
    obtain ⟨k, rfl⟩ : ∃ m, k = m + 1 := ⟨k - 1, by omega⟩
    rw [runes_Check.l0, chkF]
    by_cases hi : i < (l.length : Int)
    · rw [if_pos hi, if_pos hi, Decode_ge h hl h0 hi (by omega)]
      simp only [Option.bind_some]
      by_cases he : (dec (l.drop i.toNat)).2.2 = 0
      · rw [if_pos he, if_pos he]
        have hd := dec_ok (h.drop i.toNat) he
        have hlen : (l.drop i.toNat).length = l.length - i.toNat := List.length_drop
        rw [w64 _ (by omega) (by omega)]
        exact ih k _ (by omega) (by omega) (by omega) (by omega)
      · rw [if_neg he, if_neg he]
    · rw [if_neg hi, if_neg hi]
/-- Check. -/
theorem Check_f (l : List Int) (h : Bytes l) (hl : l.length ≤ 1048576) {k : Nat} (hk : l.length + 8 < k) : runes_Check.f k l = some (chk l) := by
  unfold runes_Check.f chk
  exact Check_l l h hl l.length k 0 (Int.le_refl _) (by omega) (by omega) hk
theorem chk_total (l : List Int) (h : ∀ x ∈ l, 0 ≤ x ∧ x < 256) (hs : l.length ≤ 1048576) : ∃ k r1 r2, runes_Check.f k l = some (r1, r2) :=
  ⟨l.length + 9, _, _, Check_f l h hs (by omega)⟩
end Go.Proofs.Ytogfaahdbecdnaa.B
