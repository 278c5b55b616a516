/-
  Plain laws of characters: the document's Decode and Check come to the program's.
-/
import Derived.Test.YtogfaahdbecdnaaM2
namespace Go.Proofs.Ytogfaahdbecdnaa.B
open Go.RowKit Go.Proofs.YtogfaahdbecdnaaW.PrintWords Go.Proofs.YtogfaahdbecdnaaW.PrintLast Go.Proofs.YtogfaahdbecdnaaW.PrintMore Go.Proofs.Ytogfaahdbecdnaa.FBase
set_option linter.unusedVariables false

/-- A character, and its bytes. -/
def isC (c : Int) : Prop := 0 ≤ c ∧ c ≤ 1114111 ∧ ¬ (55296 ≤ c ∧ c ≤ 57343)
instance (c : Int) : Decidable (isC c) := by unfold isC; infer_instance
def enc (c : Int) : List Int :=
  if c < 128 then [c] else if c < 2048 then [192 + c / 64, 128 + c % 64] else if c < 65536 then [224 + c / 4096, 128 + c / 64 % 64, 128 + c % 64]
  else [240 + c / 262144, 128 + c / 4096 % 64, 128 + c / 64 % 64, 128 + c % 64]
theorem Is_f (c : Int) : colophonref01_Is.f c = some (decide (isC c)) := by
  unfold colophonref01_Is.f isC
  by_cases h0 : c ≥ 0
  · rw [if_pos h0]
    by_cases h1 : c ≤ 1114111
    · rw [if_pos h1]
      by_cases h2 : c ≥ 55296
      · rw [if_pos h2]
        congr 1
        by_cases h3 : c ≤ 57343
        · simp [h3]; omega
        · simp [h3]; omega
      · rw [if_neg h2]
        congr 1
        simp; omega
    · rw [if_neg h1]
      congr 1
      simp; omega
  · rw [if_neg h0]
    congr 1
    simp; omega
theorem Encode_f (c : Int) (h0 : 0 ≤ c) (h1 : c < 1099511627776) : colophonref01_Encode.f c = if isC c then some (enc c, 0) else some ([], 10) := by
  unfold colophonref01_Encode.f
  rw [Is_f, Option.bind_some]
  by_cases h : isC c
  · rw [if_pos h, if_pos (decide_eq_true h)]
    have hh := h.2.1
    unfold enc
    have d1 : Int.tdiv c 64 = c / 64 := Int.tdiv_eq_ediv_of_nonneg h0
    have d2 : Int.tdiv c 4096 = c / 4096 := Int.tdiv_eq_ediv_of_nonneg h0
    have d3 : Int.tdiv c 262144 = c / 262144 := Int.tdiv_eq_ediv_of_nonneg h0
    have e0 : Int.tmod c 64 = c % 64 := Int.tmod_eq_emod_of_nonneg h0
    rw [d1, d2, d3, e0, w64 (c / 64) (by omega) (by omega), w64 (c / 4096) (by omega) (by omega), w64 (c / 262144) (by omega) (by omega)]
    have e1 : Int.tmod (c / 64) 64 = c / 64 % 64 := Int.tmod_eq_emod_of_nonneg (by omega)
    have e2 : Int.tmod (c / 4096) 64 = c / 4096 % 64 := Int.tmod_eq_emod_of_nonneg (by omega)
    rw [e1, e2, w64 (192 + c / 64) (by omega) (by omega), w64 (128 + c % 64) (by omega) (by omega), w64 (224 + c / 4096) (by omega) (by omega), w64 (128 + c / 64 % 64) (by omega) (by omega), w64 (240 + c / 262144) (by omega) (by omega), w64 (128 + c / 4096 % 64) (by omega) (by omega)]
    split
    · rw [show c % 256 = c by omega]
    · split
      · rw [show (192 + c / 64) % 256 = 192 + c / 64 by omega, show (128 + c % 64) % 256 = 128 + c % 64 by omega]
      · split
        · rw [show (224 + c / 4096) % 256 = 224 + c / 4096 by omega, show (128 + c / 64 % 64) % 256 = 128 + c / 64 % 64 by omega, show (128 + c % 64) % 256 = 128 + c % 64 by omega]
        · rw [show (240 + c / 262144) % 256 = 240 + c / 262144 by omega, show (128 + c / 4096 % 64) % 256 = 128 + c / 4096 % 64 by omega, show (128 + c / 64 % 64) % 256 = 128 + c / 64 % 64 by omega, show (128 + c % 64) % 256 = 128 + c % 64 by omega]
  · rw [if_neg h, if_neg (by simpa using h)]
theorem EqBytes_l (a b : List Int) (hl : a.length = b.length) (hs : a.length ≤ 1048576) (n : Nat) : ∀ (k : Nat) (i : Int), 0 ≤ i → i ≤ a.length → (a.length : Int) - i ≤ n → n < k → colophonref00_EqBytes.l0 k a b i = some (decide (a.drop i.toNat = b.drop i.toNat)) := by
  induction n with
  | zero =>
    intro k i h0 h1 hn hk
    obtain ⟨k, rfl⟩ : ∃ m, k = m + 1 := ⟨k - 1, by omega⟩
    rw [colophonref00_EqBytes.l0, if_neg (by omega), show a.drop i.toNat = [] by rw [List.drop_eq_nil_iff]; omega, show b.drop i.toNat = [] by rw [List.drop_eq_nil_iff]; omega]
    rfl
  | succ n ih =>
    intro k i h0 h1 hn hk
    obtain ⟨k, rfl⟩ : ∃ m, k = m + 1 := ⟨k - 1, by omega⟩
    rw [colophonref00_EqBytes.l0]
    by_cases hi : i < (a.length : Int)
    · have ha : i.toNat < a.length := by omega
      have hb : i.toNat < b.length := by omega
      rw [if_pos hi, if_pos h0, if_pos (by omega)]
      rw [List.drop_eq_getElem_cons ha, List.drop_eq_getElem_cons hb]
      have e1 : rd a i = a[i.toNat] := by simp [rd, List.getD, ha]
      have e2 : rd b i = b[i.toNat] := by simp [rd, List.getD, hb]
      rw [e1, e2]
      by_cases he : a[i.toNat] = b[i.toNat]
      · rw [if_pos he, w64 _ (by omega) (by omega), ih k (i + 1) (by omega) (by omega) (by omega) (by omega), show (i + 1).toNat = i.toNat + 1 by omega]
        exact congrArg some (decide_eq_decide.2 ⟨fun h => by rw [he, h], fun h => (List.cons.inj h).2⟩)
      · rw [if_neg he]
        exact congrArg some (decide_eq_false (fun h => he (List.cons.inj h).1)).symm
    · rw [if_neg hi, show a.drop i.toNat = [] by rw [List.drop_eq_nil_iff]; omega, show b.drop i.toNat = [] by rw [List.drop_eq_nil_iff]; omega]
      rfl
theorem EqBytes_f (a b : List Int) (hs : a.length ≤ 1048576) {k : Nat} (hk : a.length < k) : colophonref00_EqBytes.f k a b = some (decide (a = b)) := by
  unfold colophonref00_EqBytes.f
  by_cases hl : a.length = b.length
  · rw [if_pos (by omega), EqBytes_l a b hl hs a.length k 0 (Int.le_refl _) (by omega) (by omega) hk]
    simp
  · rw [if_neg (by omega)]
    congr 1
    rw [eq_comm, decide_eq_false_iff_not]
    rintro rfl
    exact hl rfl

/-- The number that bytes would have. -/
def jn : Nat → List Int → Int
  | 1, b :: _ => b
  | 2, b :: b1 :: _ => (b % 32) * 64 + b1 % 64
  | 3, b :: b1 :: b2 :: _ => ((b % 16) * 64 + b1 % 64) * 64 + b2 % 64
  | 4, b :: b1 :: b2 :: b3 :: _ => (((b % 8) * 64 + b1 % 64) * 64 + b2 % 64) * 64 + b3 % 64
  | _, _ => 0
theorem tm (x m : Int) (h : 0 ≤ x) : Int.tmod x m = x % m := Int.tmod_eq_emod_of_nonneg h
theorem joined_1 (b : Int) (t : List Int) (h : Bytes (b :: t)) {k : Nat} (hk : 5 ≤ k) : colophonref01_joined.f k (b :: t) 1 = some b := by
  have hb := h b (by simp)
  refine LeO_le (fun k => colophonref01_joined.mono (b :: t) 1 k) hk ?_
  simp only [colophonref01_joined.f, colophonref01_joined.j0, colophonref01_joined.j1, colophonref01_joined.j2, colophonref01_joined.l0, rd0, w64 b (by omega) (by omega)]
  rw [if_pos (by simp), if_neg (by decide), if_neg (by decide), if_neg (by decide), if_neg (by decide)]
theorem joined_2 (b b1 : Int) (t : List Int) (h : Bytes (b :: b1 :: t)) {k : Nat} (hk : 6 ≤ k) : colophonref01_joined.f k (b :: b1 :: t) 2 = some ((b % 32) * 64 + b1 % 64) := by
  have hb := h b (by simp)
  have hb1 := h b1 (by simp)
  refine LeO_le (fun k => colophonref01_joined.mono (b :: b1 :: t) 2 k) hk ?_
  simp only [colophonref01_joined.f, colophonref01_joined.j0, colophonref01_joined.j1, colophonref01_joined.j2, colophonref01_joined.l0, rd0, rd1, ww1, w64 b (by omega) (by omega), w64 b1 (by omega) (by omega), len1]
  rw [if_pos (by omega), if_pos trivial, if_neg (by decide), if_neg (by decide), if_pos (by decide), if_pos (by decide), if_pos (by omega), if_neg (by decide), tm b 32 (by omega), tm b1 64 (by omega), w64 (b % 32 * 64) (by omega) (by omega), w64 _ (by omega) (by omega)]
theorem joined_3 (b b1 b2 : Int) (t : List Int) (h : Bytes (b :: b1 :: b2 :: t)) {k : Nat} (hk : 7 ≤ k) : colophonref01_joined.f k (b :: b1 :: b2 :: t) 3 = some (((b % 16) * 64 + b1 % 64) * 64 + b2 % 64) := by
  have hb := h b (by simp)
  have hb1 := h b1 (by simp)
  have hb2 := h b2 (by simp)
  refine LeO_le (fun k => colophonref01_joined.mono (b :: b1 :: b2 :: t) 3 k) hk ?_
  simp only [colophonref01_joined.f, colophonref01_joined.j0, colophonref01_joined.j1, colophonref01_joined.j2, colophonref01_joined.l0, rd0, rd1, rd2, ww1, ww2, w64 b (by omega) (by omega), w64 b1 (by omega) (by omega), w64 b2 (by omega) (by omega), len1]
  rw [if_pos (by omega), if_neg (by decide), if_pos trivial, if_neg (by decide), if_pos (by decide), if_pos (by decide), if_pos (by omega), if_pos (by decide), if_pos (by decide), if_pos (by omega), if_neg (by decide), tm b 16 (by omega), tm b1 64 (by omega), tm b2 64 (by omega), w64 (b % 16 * 64) (by omega) (by omega), w64 (b % 16 * 64 + b1 % 64) (by omega) (by omega), w64 ((b % 16 * 64 + b1 % 64) * 64) (by omega) (by omega), w64 _ (by omega) (by omega)]
theorem joined_4 (b b1 b2 b3 : Int) (t : List Int) (h : Bytes (b :: b1 :: b2 :: b3 :: t)) {k : Nat} (hk : 8 ≤ k) : colophonref01_joined.f k (b :: b1 :: b2 :: b3 :: t) 4 = some ((((b % 8) * 64 + b1 % 64) * 64 + b2 % 64) * 64 + b3 % 64) := by
  have hb := h b (by simp)
  have hb1 := h b1 (by simp)
  have hb2 := h b2 (by simp)
  have hb3 := h b3 (by simp)
  refine LeO_le (fun k => colophonref01_joined.mono (b :: b1 :: b2 :: b3 :: t) 4 k) hk ?_
  simp only [colophonref01_joined.f, colophonref01_joined.j0, colophonref01_joined.j1, colophonref01_joined.j2, colophonref01_joined.l0, rd0, rd1, rd2, rd3, ww1, ww2, ww3, w64 b (by omega) (by omega), w64 b1 (by omega) (by omega), w64 b2 (by omega) (by omega), w64 b3 (by omega) (by omega), len1]
  rw [if_pos (by omega), if_neg (by decide), if_neg (by decide), if_pos trivial, if_pos (by decide), if_pos (by decide), if_pos (by omega), if_pos (by decide), if_pos (by decide), if_pos (by omega), if_pos (by decide), if_pos (by decide), if_pos (by omega), if_neg (by decide), tm b 8 (by omega), tm b1 64 (by omega), tm b2 64 (by omega), tm b3 64 (by omega), w64 (b % 8 * 64) (by omega) (by omega), w64 (b % 8 * 64 + b1 % 64) (by omega) (by omega), w64 ((b % 8 * 64 + b1 % 64) * 64) (by omega) (by omega), w64 ((b % 8 * 64 + b1 % 64) * 64 + b2 % 64) (by omega) (by omega), w64 (((b % 8 * 64 + b1 % 64) * 64 + b2 % 64) * 64) (by omega) (by omega), w64 _ (by omega) (by omega)]
theorem joined_f (y : List Int) (h : Bytes y) (n : Nat) (h1 : 1 ≤ n) (h4 : n ≤ 4) (hl : n ≤ y.length) {k : Nat} (hk : 8 ≤ k) : colophonref01_joined.f k y n = some (jn n y) := by
  match y, n, h1, h4, hl with
  | b :: t, 1, _, _, _ => exact joined_1 b t h (by omega)
  | b :: b1 :: t, 2, _, _, _ => exact joined_2 b b1 t h (by omega)
  | b :: b1 :: b2 :: t, 3, _, _, _ => exact joined_3 b b1 b2 t h (by omega)
  | b :: b1 :: b2 :: b3 :: t, 4, _, _, _ => exact joined_4 b b1 b2 b3 t h (by omega)
  | _, n + 5, _, h4, _ => exact absurd h4 (by omega)
  | [], _ + 1, _, _, hl => exact absurd hl (by simp)
  | [_], _ + 2, _, _, hl => exact absurd hl (by simp)
  | [_, _], _ + 3, _, _, hl => exact absurd hl (by simp)
  | [_, _, _], _ + 4, _, _, hl => exact absurd hl (by simp)
theorem jn_nn (y : List Int) (h : Bytes y) (n : Nat) : 0 ≤ jn n y ∧ jn n y < 2097152 := by
  unfold jn
  split
  · have := h _ List.mem_cons_self; omega
  · omega
  · omega
  · omega
  · omega
end Go.Proofs.Ytogfaahdbecdnaa.B
