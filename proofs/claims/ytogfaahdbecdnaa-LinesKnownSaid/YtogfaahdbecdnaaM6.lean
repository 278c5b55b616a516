/-
  Plain laws of characters: the document's Decode and Check come to the program's.
-/
import Derived.Test.YtogfaahdbecdnaaM5
namespace Go.Proofs.Ytogfaahdbecdnaa.B
open Go.RowKit Go.Proofs.YtogfaahdbecdnaaW.PrintWords Go.Proofs.YtogfaahdbecdnaaW.PrintLast Go.Proofs.YtogfaahdbecdnaaW.PrintMore Go.Proofs.Ytogfaahdbecdnaa.FBase
set_option linter.unusedVariables false

theorem D_step (k : Nat) (hk : 8 ≤ k) (y : List Int) (h : Bytes y) (n : Nat) (h1 : 1 ≤ n) (h4 : n ≤ 4) (hl : n ≤ y.length) :
    colophonref01_Decode.l0 (k + 2) y n = if isC (jn n y) ∧ enc (jn n y) = y.take n then some (jn n y, (n : Int), 0) else colophonref01_Decode.l0 k y (n + 1) := by
  have hj := jn_nn y h n
  have he := enc_len (jn n y)
  rw [colophonref01_Decode.l0, if_pos (by omega), colophonref01_Decode.j2, if_pos (decide_eq_true (by omega)), joined_f y h n h1 h4 hl hk, Option.bind_some, Encode_f _ hj.1 (by omega), w64 _ (by omega) (by omega)]
  by_cases hC : isC (jn n y)
  · rw [if_pos hC]
    simp only [Option.bind_some]
    rw [if_pos trivial, if_pos (by omega), if_pos (by omega), Int.toNat_natCast, EqBytes_f _ _ (by omega) (by omega), Option.bind_some]
    by_cases hE : enc (jn n y) = y.take n
    · rw [if_pos (decide_eq_true hE), if_pos ⟨hC, hE⟩]
    · rw [if_neg (by simpa using hE), if_neg (fun h => hE h.2)]
  · rw [if_neg hC, if_neg (fun h => hC h.1)]
    rfl
theorem D_end (k : Nat) (y : List Int) (n : Nat) (h : 4 < n ∨ y.length < n) :
    colophonref01_Decode.l0 (k + 2) y n = if y.length < 4 then ((colophonref01_begins.f k y).bind fun t => if t = true then some (0, 0, 3) else some (0, 0, 10)) else some (0, 0, 10) := by
  rw [colophonref01_Decode.l0]
  have e : (if (n : Int) ≤ 4 then colophonref01_Decode.j2 (k + 1) y n (decide ((n : Int) ≤ (y.length : Int))) else colophonref01_Decode.j2 (k + 1) y n false) = colophonref01_Decode.j2 (k + 1) y n false := by
    split
    · rw [decide_eq_false (by omega)]
    · rfl
  rw [e, colophonref01_Decode.j2, if_neg (by decide)]
  by_cases hl : y.length < 4
  · rw [if_pos (by omega), if_pos hl]
  · rw [if_neg (by omega), if_neg hl]

theorem m1 (b : Int) (h0 : 0 ≤ b) (h1 : b < 256) : (isC b ∧ enc b = [b]) ↔ b < 128 := by
  constructor
  · rintro ⟨-, h⟩
    refine Int.not_le.1 (fun h2 => ?_)
    rw [enc_2 h2 (by omega)] at h
    simp at h
  · intro h
    exact ⟨⟨h0, by omega, by omega⟩, enc_1 h⟩
theorem m2 (b b1 : Int) (h0 : 0 ≤ b) (h1 : b < 256) (g0 : 0 ≤ b1) (g1 : b1 < 256) : (isC ((b % 32) * 64 + b1 % 64) ∧ enc ((b % 32) * 64 + b1 % 64) = [b, b1]) ↔ (194 ≤ b ∧ b < 224) ∧ 128 ≤ b1 ∧ b1 ≤ 191 := by
  constructor
  · rintro ⟨-, h⟩
    have hl := enc_len2 (show (enc (b % 32 * 64 + b1 % 64)).length = 2 by rw [h]; rfl)
    rw [enc_2 hl.1 hl.2] at h
    simp at h
    refine ⟨⟨by omega, by omega⟩, by omega, by omega⟩
  · rintro ⟨⟨e1, e2⟩, e3, e4⟩
    refine ⟨⟨by omega, by omega, by omega⟩, ?_⟩
    rw [enc_2 (by omega) (by omega)]
    simp
    omega
theorem low_range {b b1 : Int} (h : Low b b1) : 128 ≤ b1 ∧ b1 ≤ 191 := by
  obtain ⟨e3, e4⟩ := h
  unfold lowOf at e3
  unfold highOf at e4
  constructor
  · split at e3
    · omega
    · split at e3 <;> omega
  · split at e4
    · omega
    · split at e4 <;> omega
theorem m3 (b b1 b2 : Int) (h0 : 0 ≤ b) (h1 : b < 256) (g0 : 0 ≤ b1) (g1 : b1 < 256) (i0 : 0 ≤ b2) (i1 : b2 < 256) :
    (isC (((b % 16) * 64 + b1 % 64) * 64 + b2 % 64) ∧ enc (((b % 16) * 64 + b1 % 64) * 64 + b2 % 64) = [b, b1, b2]) ↔ E23 b b1 ∧ 128 ≤ b2 ∧ b2 ≤ 191 := by
  constructor
  · rintro ⟨⟨c0, c1, c2⟩, h⟩
    have hl := enc_len3 (show (enc ((b % 16 * 64 + b1 % 64) * 64 + b2 % 64)).length = 3 by rw [h]; rfl)
    rw [enc_3 hl.1 hl.2] at h
    simp at h
    unfold E23 Low lowOf highOf
    refine ⟨⟨by omega, by omega, ?_, ?_⟩, by omega, by omega⟩
    · split
      · omega
      · split <;> omega
    · split
      · omega
      · split <;> omega
  · rintro ⟨⟨e1, e2, hL⟩, e5, e6⟩
    have hr := low_range hL
    obtain ⟨e3, e4⟩ := hL
    unfold lowOf at e3
    unfold highOf at e4
    have hge : 2048 ≤ (b % 16 * 64 + b1 % 64) * 64 + b2 % 64 := by
      split at e3
      · omega
      · omega
    refine ⟨⟨by omega, by omega, ?_⟩, ?_⟩
    · split at e4 <;> omega
    · rw [enc_3 hge (by omega)]
      simp
      omega
theorem m4 (b b1 b2 b3 : Int) (h0 : 0 ≤ b) (h1 : b < 256) (g0 : 0 ≤ b1) (g1 : b1 < 256) (i0 : 0 ≤ b2) (i1 : b2 < 256) (j0 : 0 ≤ b3) (j1 : b3 < 256) :
    (isC ((((b % 8) * 64 + b1 % 64) * 64 + b2 % 64) * 64 + b3 % 64) ∧ enc ((((b % 8) * 64 + b1 % 64) * 64 + b2 % 64) * 64 + b3 % 64) = [b, b1, b2, b3]) ↔ E34 b b1 b2 ∧ 128 ≤ b3 ∧ b3 ≤ 191 := by
  constructor
  · rintro ⟨⟨c0, c1, c2⟩, h⟩
    have hl := enc_len4 (show (enc (((b % 8 * 64 + b1 % 64) * 64 + b2 % 64) * 64 + b3 % 64)).length = 4 by rw [h]; rfl)
    rw [enc_4 hl] at h
    simp at h
    unfold E34 Low lowOf highOf
    refine ⟨⟨by omega, by omega, ⟨?_, ?_⟩, by omega, by omega⟩, by omega, by omega⟩
    · split
      · omega
      · split <;> omega
    · split
      · omega
      · split <;> omega
  · rintro ⟨⟨e1, e2, hL, e7, e8⟩, e5, e6⟩
    have hr := low_range hL
    obtain ⟨e3, e4⟩ := hL
    unfold lowOf at e3
    unfold highOf at e4
    rw [if_neg (by omega)] at e3 e4
    have hge : 65536 ≤ ((b % 8 * 64 + b1 % 64) * 64 + b2 % 64) * 64 + b3 % 64 := by
      split at e3 <;> omega
    refine ⟨⟨by omega, ?_, by omega⟩, ?_⟩
    · split at e4 <;> omega
    · rw [enc_4 hge]
      simp
      omega

theorem size_1 {b : Int} (h : b < 128) : sizeOfFirst b = 1 := by unfold sizeOfFirst; rw [if_pos h]
theorem size_0 {b : Int} (h : 128 ≤ b) (h1 : b < 194 ∨ 244 < b) : sizeOfFirst b = 0 := by
  unfold sizeOfFirst
  rw [if_neg (by omega)]
  split
  · rfl
  · rw [if_pos (by omega)]
theorem size_2 {b : Int} (h : 194 ≤ b) (h1 : b < 224) : sizeOfFirst b = 2 := by unfold sizeOfFirst; rw [if_neg (by omega), if_neg (by omega), if_neg (by omega), if_pos h1]
theorem size_3 {b : Int} (h : 224 ≤ b) (h1 : b < 240) : sizeOfFirst b = 3 := by unfold sizeOfFirst; rw [if_neg (by omega), if_neg (by omega), if_neg (by omega), if_neg (by omega), if_pos h1]
theorem size_4 {b : Int} (h : 240 ≤ b) (h1 : b ≤ 244) : sizeOfFirst b = 4 := by unfold sizeOfFirst; rw [if_neg (by omega), if_neg (by omega), if_neg (by omega), if_neg (by omega), if_neg (by omega)]
theorem dec_1 {b : Int} (t : List Int) (h : b < 128) : dec (b :: t) = (b, 1, 0) := by rw [dec, size_1 h, if_pos rfl]
theorem dec_0 {b : Int} (t : List Int) (h : 128 ≤ b) (h1 : b < 194 ∨ 244 < b) : dec (b :: t) = (0, 0, 10) := by rw [dec, size_0 h h1, if_neg (by decide), if_pos rfl]
theorem dec_2 {b : Int} (t : List Int) (h : 194 ≤ b) (h1 : b < 224) : dec (b :: t) = restOf (b % 32) 2 128 191 t := by
  rw [dec, size_2 h h1, if_neg (by decide), if_neg (by decide), if_pos rfl]
  unfold lowOf highOf
  rw [if_neg (by omega), if_neg (by omega), if_neg (by omega), if_neg (by omega)]
theorem dec_3 {b : Int} (t : List Int) (h : 224 ≤ b) (h1 : b < 240) : dec (b :: t) = restOf (b % 16) 3 (lowOf b) (highOf b) t := by
  rw [dec, size_3 h h1, if_neg (by decide), if_neg (by decide), if_neg (by decide), if_pos rfl]
theorem dec_4 {b : Int} (t : List Int) (h : 240 ≤ b) (h1 : b ≤ 244) : dec (b :: t) = restOf (b % 8) 4 (lowOf b) (highOf b) t := by
  rw [dec, size_4 h h1, if_neg (by decide), if_neg (by decide), if_neg (by decide), if_neg (by decide)]

/-- What dec is, of bytes that are so many. -/
theorem dec_of1 (b : Int) (h0 : 0 ≤ b) : dec [b] = if b < 128 then (b, 1, 0) else if 194 ≤ b ∧ b ≤ 244 then (0, 0, 3) else (0, 0, 10) := by
  by_cases c1 : b < 128
  · rw [if_pos c1, dec_1 _ c1]
  · rw [if_neg c1]
    by_cases c2 : 194 ≤ b ∧ b ≤ 244
    · rw [if_pos c2]
      rcases Int.lt_or_le b 224 with h | h
      · rw [dec_2 _ c2.1 h]; rfl
      · rcases Int.lt_or_le b 240 with h2 | h2
        · rw [dec_3 _ h h2]; rfl
        · rw [dec_4 _ h2 c2.2]; rfl
    · rw [if_neg c2, dec_0 _ (by omega) (by omega)]
theorem rest_no {c n lo hi b1 : Int} {t : List Int} (h : ¬ (lo ≤ b1 ∧ b1 ≤ hi)) : restOf c n lo hi (b1 :: t) = (0, 0, 10) := by
  rw [restOf.eq_def]
  dsimp only
  by_cases h1 : b1 < lo
  · rw [if_pos h1]
  · rw [if_neg h1, if_pos (by omega)]
theorem rest_2 {c lo hi b1 : Int} {t : List Int} (h : lo ≤ b1 ∧ b1 ≤ hi) : restOf c 2 lo hi (b1 :: t) = (c * 64 + b1 % 64, 2, 0) := by
  rw [restOf.eq_def]
  dsimp only
  rw [if_neg (by omega), if_neg (by omega), if_pos rfl]
theorem rest_n {c n lo hi b1 : Int} {t : List Int} (h : lo ≤ b1 ∧ b1 ≤ hi) (hn : n ≠ 2) (h3 : t = []) : restOf c n lo hi (b1 :: t) = (0, 0, 3) := by
  subst h3
  rw [restOf.eq_def]
  dsimp only
  rw [if_neg (by omega), if_neg (by omega), if_neg hn]
theorem rest_n2 {c n lo hi b1 b2 : Int} {t : List Int} (h : lo ≤ b1 ∧ b1 ≤ hi) (hn : n ≠ 2) (h3 : ¬ (128 ≤ b2 ∧ b2 ≤ 191)) : restOf c n lo hi (b1 :: b2 :: t) = (0, 0, 10) := by
  rw [restOf.eq_def]
  dsimp only
  rw [if_neg (by omega), if_neg (by omega), if_neg hn]
  by_cases h1 : b2 < 128
  · (try dsimp only); rw [if_pos h1]
  · (try dsimp only); rw [if_neg h1, if_pos (by omega)]
theorem rest_3 {c lo hi b1 b2 : Int} {t : List Int} (h : lo ≤ b1 ∧ b1 ≤ hi) (h3 : 128 ≤ b2 ∧ b2 ≤ 191) : restOf c 3 lo hi (b1 :: b2 :: t) = ((c * 64 + b1 % 64) * 64 + b2 % 64, 3, 0) := by
  rw [restOf.eq_def]
  dsimp only
  rw [if_neg (by omega), if_neg (by omega), if_neg (by decide)]
  try dsimp only
  rw [if_neg (by omega), if_neg (by omega), if_pos rfl]
theorem rest_4e {c lo hi b1 b2 : Int} (h : lo ≤ b1 ∧ b1 ≤ hi) (h3 : 128 ≤ b2 ∧ b2 ≤ 191) : restOf c 4 lo hi [b1, b2] = (0, 0, 3) := by
  rw [restOf.eq_def]
  dsimp only
  rw [if_neg (by omega), if_neg (by omega), if_neg (by decide)]
  try dsimp only
  rw [if_neg (by omega), if_neg (by omega), if_neg (by decide)]
theorem rest_4 {c lo hi b1 b2 b3 : Int} {t : List Int} (h : lo ≤ b1 ∧ b1 ≤ hi) (h3 : 128 ≤ b2 ∧ b2 ≤ 191) : restOf c 4 lo hi (b1 :: b2 :: b3 :: t) = if 128 ≤ b3 ∧ b3 ≤ 191 then (((c * 64 + b1 % 64) * 64 + b2 % 64) * 64 + b3 % 64, 4, 0) else (0, 0, 10) := by
  rw [restOf.eq_def]
  dsimp only
  rw [if_neg (by omega), if_neg (by omega), if_neg (by decide)]
  try dsimp only
  rw [if_neg (by omega), if_neg (by omega), if_neg (by decide)]
  by_cases h5 : 128 ≤ b3 ∧ b3 ≤ 191
  · rw [if_pos h5, if_neg (by omega), if_neg (by omega)]
  · rw [if_neg h5]
    by_cases h1 : b3 < 128
    · rw [if_pos h1]
    · rw [if_neg h1, if_pos (by omega)]
end Go.Proofs.Ytogfaahdbecdnaa.B
