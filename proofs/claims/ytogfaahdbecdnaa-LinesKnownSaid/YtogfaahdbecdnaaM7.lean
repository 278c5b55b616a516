/-
  Plain laws of characters: the document's Decode and Check come to the program's.
-/
import Derived.Test.YtogfaahdbecdnaaM6
namespace Go.Proofs.Ytogfaahdbecdnaa.B
open Go.RowKit Go.Proofs.YtogfaahdbecdnaaW.PrintWords Go.Proofs.YtogfaahdbecdnaaW.PrintLast Go.Proofs.YtogfaahdbecdnaaW.PrintMore Go.Proofs.Ytogfaahdbecdnaa.FBase
set_option linter.unusedVariables false

theorem dec_of2 (b b1 : Int) (t : List Int) (h0 : 128 ≤ b) : ((194 ≤ b ∧ b < 224) ∧ 128 ≤ b1 ∧ b1 ≤ 191 → dec (b :: b1 :: t) = (b % 32 * 64 + b1 % 64, 2, 0)) ∧ (¬ ((194 ≤ b ∧ b < 224) ∧ 128 ≤ b1 ∧ b1 ≤ 191) → ¬ (224 ≤ b ∧ b ≤ 244 ∧ Low b b1) → dec (b :: b1 :: t) = (0, 0, 10)) := by
  refine ⟨fun h => by rw [dec_2 _ h.1.1 h.1.2, rest_2 h.2], fun h h2 => ?_⟩
  by_cases c0 : b < 194 ∨ 244 < b
  · rw [dec_0 _ h0 c0]
  · by_cases c2 : b < 224
    · rw [dec_2 _ (by omega) c2, rest_no (fun hh => h ⟨⟨by omega, c2⟩, hh⟩)]
    · by_cases c3 : b < 240
      · rw [dec_3 _ (by omega) c3, rest_no (fun hh => h2 ⟨by omega, by omega, hh⟩)]
      · rw [dec_4 _ (by omega) (by omega), rest_no (fun hh => h2 ⟨by omega, by omega, hh⟩)]
theorem dec_of2e (b b1 : Int) (h : 224 ≤ b ∧ b ≤ 244 ∧ Low b b1) : dec [b, b1] = (0, 0, 3) := by
  by_cases c3 : b < 240
  · rw [dec_3 _ h.1 c3, rest_n h.2.2 (by decide) rfl]
  · rw [dec_4 _ (by omega) h.2.1, rest_n h.2.2 (by decide) rfl]
theorem dec_of3 (b b1 b2 : Int) (t : List Int) (hE : E23 b b1) : dec (b :: b1 :: b2 :: t) = if 128 ≤ b2 ∧ b2 ≤ 191 then ((b % 16 * 64 + b1 % 64) * 64 + b2 % 64, 3, 0) else (0, 0, 10) := by
  rw [dec_3 _ hE.1 hE.2.1]
  by_cases h : 128 ≤ b2 ∧ b2 ≤ 191
  · rw [if_pos h, rest_3 hE.2.2 h]
  · rw [if_neg h, rest_n2 hE.2.2 (by decide) h]
theorem dec_of4 (b b1 b2 : Int) (t : List Int) (hE : E24 b b1) (h : ¬ (128 ≤ b2 ∧ b2 ≤ 191)) : dec (b :: b1 :: b2 :: t) = (0, 0, 10) := by
  rw [dec_4 _ hE.1 hE.2.1, rest_n2 hE.2.2 (by decide) h]
theorem split_E (b b1 : Int) (h : 224 ≤ b ∧ b ≤ 244 ∧ Low b b1) : E23 b b1 ∨ E24 b b1 := by
  rcases Int.lt_or_le b 240 with h4 | h4
  · exact .inl ⟨h.1, h4, h.2.2⟩
  · exact .inr ⟨h4, h.2.1, h.2.2⟩

/-- The document's Decode, of bytes that there are. -/
theorem RDecode_y (y : List Int) (h : Bytes y) (hne : y ≠ []) : colophonref01_Decode.l0 60 y 1 = some (dec y) := by
  match y, h, hne with
  | [], _, hne => exact absurd rfl hne
  | [b], h, _ =>
    have hb := h b (by simp)
    have s1 := D_step 58 (by decide) [b] h 1 (by decide) (by decide) (by simp)
    simp only [jn, List.take, m1 b hb.1 hb.2] at s1
    rw [show ((1 : Nat) : Int) = 1 from rfl] at s1
    rw [s1, dec_of1 b hb.1]
    by_cases c1 : b < 128
    · rw [if_pos c1, if_pos c1]
    · rw [if_neg c1, if_neg c1, show (1 : Int) + 1 = ((2 : Nat) : Int) from rfl, D_end 56 [b] 2 (.inr (by simp)), if_pos (by simp), LeO_le (fun k => colophonref01_begins.mono [b] k) (by decide) (begins_1 b hb.1 hb.2), Option.bind_some]
      by_cases c2 : 194 ≤ b ∧ b ≤ 244
      · rw [if_pos (decide_eq_true c2), if_pos c2]
      · rw [if_neg (by simpa using c2), if_neg c2]
  | [b, b1], h, _ =>
    have hb := h b (by simp)
    have hb1 := h b1 (by simp)
    have s1 := D_step 58 (by decide) [b, b1] h 1 (by decide) (by decide) (by simp)
    have s2 := D_step 56 (by decide) [b, b1] h 2 (by decide) (by decide) (by simp)
    simp only [jn, List.take, m1 b hb.1 hb.2] at s1
    simp only [jn, List.take, m2 b b1 hb.1 hb.2 hb1.1 hb1.2] at s2
    rw [show ((1 : Nat) : Int) = 1 from rfl] at s1
    rw [show ((2 : Nat) : Int) = 2 from rfl] at s2
    rw [s1]
    by_cases c1 : b < 128
    · rw [if_pos c1, dec_1 _ c1]
    · rw [if_neg c1, show (1 : Int) + 1 = 2 from rfl, s2]
      have d2 := dec_of2 b b1 [] (by omega)
      by_cases c2 : (194 ≤ b ∧ b < 224) ∧ 128 ≤ b1 ∧ b1 ≤ 191
      · rw [if_pos c2, d2.1 c2]
      · rw [if_neg c2, show (2 : Int) + 1 = ((3 : Nat) : Int) from rfl, D_end 54 [b, b1] 3 (.inr (by simp)), if_pos (by simp), LeO_le (fun k => colophonref01_begins.mono [b, b1] k) (by decide) (begins_2 b b1 h), Option.bind_some]
        by_cases c3 : 224 ≤ b ∧ b ≤ 244 ∧ Low b b1
        · rw [if_pos (decide_eq_true c3), dec_of2e b b1 c3]
        · rw [if_neg (by simpa using c3), d2.2 c2 c3]
  | [b, b1, b2], h, _ =>
    have hb := h b (by simp)
    have hb1 := h b1 (by simp)
    have hb2 := h b2 (by simp)
    have s1 := D_step 58 (by decide) [b, b1, b2] h 1 (by decide) (by decide) (by simp)
    have s2 := D_step 56 (by decide) [b, b1, b2] h 2 (by decide) (by decide) (by simp)
    have s3 := D_step 54 (by decide) [b, b1, b2] h 3 (by decide) (by decide) (by simp)
    simp only [jn, List.take, m1 b hb.1 hb.2] at s1
    simp only [jn, List.take, m2 b b1 hb.1 hb.2 hb1.1 hb1.2] at s2
    simp only [jn, List.take, m3 b b1 b2 hb.1 hb.2 hb1.1 hb1.2 hb2.1 hb2.2] at s3
    rw [show ((1 : Nat) : Int) = 1 from rfl] at s1
    rw [show ((2 : Nat) : Int) = 2 from rfl] at s2
    rw [show ((3 : Nat) : Int) = 3 from rfl] at s3
    rw [s1]
    by_cases c1 : b < 128
    · rw [if_pos c1, dec_1 _ c1]
    · rw [if_neg c1, show (1 : Int) + 1 = 2 from rfl, s2]
      have d2 := dec_of2 b b1 [b2] (by omega)
      by_cases c2 : (194 ≤ b ∧ b < 224) ∧ 128 ≤ b1 ∧ b1 ≤ 191
      · rw [if_pos c2, d2.1 c2]
      · rw [if_neg c2, show (2 : Int) + 1 = 3 from rfl, s3]
        by_cases c3 : E23 b b1 ∧ 128 ≤ b2 ∧ b2 ≤ 191
        · rw [if_pos c3, dec_of3 b b1 b2 [] c3.1, if_pos c3.2]
        · rw [if_neg c3, show (3 : Int) + 1 = ((4 : Nat) : Int) from rfl, D_end 52 [b, b1, b2] 4 (.inr (by simp)), if_pos (by simp), LeO_le (fun k => colophonref01_begins.mono [b, b1, b2] k) (by decide) (begins_3 b b1 b2 h), Option.bind_some]
          by_cases c4 : E34 b b1 b2
          · rw [if_pos (decide_eq_true c4), dec_4 _ c4.1 c4.2.1, rest_4e c4.2.2.1 c4.2.2.2]
          · rw [if_neg (by simpa using c4)]
            by_cases c5 : 224 ≤ b ∧ b ≤ 244 ∧ Low b b1
            · rcases split_E b b1 c5 with e | e
              · rw [dec_of3 b b1 b2 [] e, if_neg (fun hh => c3 ⟨e, hh⟩)]
              · rw [dec_of4 b b1 b2 [] e (fun hh => c4 ⟨e.1, e.2.1, e.2.2, hh⟩)]
            · rw [d2.2 c2 c5]
  | b :: b1 :: b2 :: b3 :: t, h, _ =>
    have hb := h b (by simp)
    have hb1 := h b1 (by simp)
    have hb2 := h b2 (by simp)
    have hb3 := h b3 (by simp)
    have s1 := D_step 58 (by decide) (b :: b1 :: b2 :: b3 :: t) h 1 (by decide) (by decide) (by simp)
    have s2 := D_step 56 (by decide) (b :: b1 :: b2 :: b3 :: t) h 2 (by decide) (by decide) (by simp)
    have s3 := D_step 54 (by decide) (b :: b1 :: b2 :: b3 :: t) h 3 (by decide) (by decide) (by simp)
    have s4 := D_step 52 (by decide) (b :: b1 :: b2 :: b3 :: t) h 4 (by decide) (by decide) (by simp)
    simp only [jn, List.take, m1 b hb.1 hb.2] at s1
    simp only [jn, List.take, m2 b b1 hb.1 hb.2 hb1.1 hb1.2] at s2
    simp only [jn, List.take, m3 b b1 b2 hb.1 hb.2 hb1.1 hb1.2 hb2.1 hb2.2] at s3
    simp only [jn, List.take, m4 b b1 b2 b3 hb.1 hb.2 hb1.1 hb1.2 hb2.1 hb2.2 hb3.1 hb3.2] at s4
    rw [show ((1 : Nat) : Int) = 1 from rfl] at s1
    rw [show ((2 : Nat) : Int) = 2 from rfl] at s2
    rw [show ((3 : Nat) : Int) = 3 from rfl] at s3
    rw [show ((4 : Nat) : Int) = 4 from rfl] at s4
    rw [s1]
    by_cases c1 : b < 128
    · rw [if_pos c1, dec_1 _ c1]
    · rw [if_neg c1, show (1 : Int) + 1 = 2 from rfl, s2]
      have d2 := dec_of2 b b1 (b2 :: b3 :: t) (by omega)
      by_cases c2 : (194 ≤ b ∧ b < 224) ∧ 128 ≤ b1 ∧ b1 ≤ 191
      · rw [if_pos c2, d2.1 c2]
      · rw [if_neg c2, show (2 : Int) + 1 = 3 from rfl, s3]
        by_cases c3 : E23 b b1 ∧ 128 ≤ b2 ∧ b2 ≤ 191
        · rw [if_pos c3, dec_of3 b b1 b2 _ c3.1, if_pos c3.2]
        · rw [if_neg c3, show (3 : Int) + 1 = 4 from rfl, s4]
          by_cases c4 : E34 b b1 b2 ∧ 128 ≤ b3 ∧ b3 ≤ 191
          · rw [if_pos c4, dec_4 _ c4.1.1 c4.1.2.1, rest_4 c4.1.2.2.1 c4.1.2.2.2, if_pos c4.2]
          · rw [if_neg c4, show (4 : Int) + 1 = ((5 : Nat) : Int) from rfl, D_end 50 _ 5 (.inl (by decide)), if_neg (by simp)]
            by_cases c5 : 224 ≤ b ∧ b ≤ 244 ∧ Low b b1
            · rcases split_E b b1 c5 with e | e
              · rw [dec_of3 b b1 b2 _ e, if_neg (fun hh => c3 ⟨e, hh⟩)]
              · by_cases c6 : 128 ≤ b2 ∧ b2 ≤ 191
                · rw [dec_4 _ e.1 e.2.1, rest_4 e.2.2 c6, if_neg (fun hh => c4 ⟨⟨e.1, e.2.1, e.2.2, c6⟩, hh⟩)]
                · rw [dec_of4 b b1 b2 _ e c6]
            · rw [d2.2 c2 c5]
theorem RDecode_f {l : List Int} {i : Int} (h : Bytes l) (h0 : 0 ≤ i) (h1 : i < l.length) {k : Nat} (hk : 61 ≤ k) : colophonref01_Decode.f k l i = some (dec (l.drop i.toNat)) := by
  refine LeO_le (fun k => colophonref01_Decode.mono l i k) hk ?_
  unfold colophonref01_Decode.f
  rw [if_neg (by omega), decide_eq_false (by omega), colophonref01_Decode.j0, if_neg (by decide), if_pos h0, if_pos (by omega)]
  exact RDecode_y _ (h.drop _) (by rw [Ne, List.drop_eq_nil_iff]; omega)
theorem RCheck_l (l : List Int) (h : Bytes l) (hl : l.length ≤ 1048576) (n : Nat) : ∀ (k : Nat) (i : Int), 0 ≤ i → i ≤ l.length → (l.length : Int) - i ≤ n → n + 61 < k → colophonref01_Check.l0 k l i = some (chkF n l i) := by
  induction n with
  | zero =>
    intro k i h0 h1 hn hk
    obtain ⟨k, rfl⟩ : ∃ m, k = m + 1 := ⟨k - 1, by omega⟩
    rw [colophonref01_Check.l0, if_neg (by omega), chkF, show i = l.length by omega]
  | succ n ih =>
    intro k i h0 h1 hn hk
    obtain ⟨k, rfl⟩ : ∃ m, k = m + 1 := ⟨k - 1, by omega⟩
    rw [colophonref01_Check.l0, chkF]
    by_cases hi : i < (l.length : Int)
    · rw [if_pos hi, if_pos hi, RDecode_f h h0 hi (by omega)]
      simp only [Option.bind_some]
      by_cases he : (dec (l.drop i.toNat)).2.2 = 0
      · rw [if_pos he, if_pos he]
        have hd := dec_ok (h.drop i.toNat) he
        have hlen : (l.drop i.toNat).length = l.length - i.toNat := List.length_drop
        rw [w64 _ (by omega) (by omega)]
        exact ih k _ (by omega) (by omega) (by omega) (by omega)
      · rw [if_neg he, if_neg he]
    · rw [if_neg hi, if_neg hi]
/-- The document's Check. -/
theorem RCheck_f (l : List Int) (h : Bytes l) (hl : l.length ≤ 1048576) {k : Nat} (hk : l.length + 61 < k) : colophonref01_Check.f k l = some (chk l) := by
  unfold colophonref01_Check.f chk
  exact RCheck_l l h hl l.length k 0 (Int.le_refl _) (by omega) (by omega) hk
end Go.Proofs.Ytogfaahdbecdnaa.B
