/-
  Plain laws of characters: the document's Decode and Check come to the program's.
-/
import Derived.Test.YtogfaahdbecdnaaM3
namespace Go.Proofs.Ytogfaahdbecdnaa.B
open Go.RowKit Go.Proofs.YtogfaahdbecdnaaW.PrintWords Go.Proofs.YtogfaahdbecdnaaW.PrintLast Go.Proofs.YtogfaahdbecdnaaW.PrintMore Go.Proofs.Ytogfaahdbecdnaa.FBase
set_option linter.unusedVariables false

theorem enc_len (c : Int) : 1 ≤ (enc c).length ∧ (enc c).length ≤ 4 := by
  unfold enc
  split
  · simp
  · split
    · simp
    · split <;> simp
theorem enc_1 {c : Int} (h : c < 128) : enc c = [c] := by unfold enc; rw [if_pos h]
theorem enc_2 {c : Int} (h : 128 ≤ c) (h1 : c < 2048) : enc c = [192 + c / 64, 128 + c % 64] := by unfold enc; rw [if_neg (by omega), if_pos h1]
theorem enc_3 {c : Int} (h : 2048 ≤ c) (h1 : c < 65536) : enc c = [224 + c / 4096, 128 + c / 64 % 64, 128 + c % 64] := by unfold enc; rw [if_neg (by omega), if_neg (by omega), if_pos h1]
theorem enc_4 {c : Int} (h : 65536 ≤ c) : enc c = [240 + c / 262144, 128 + c / 4096 % 64, 128 + c / 64 % 64, 128 + c % 64] := by unfold enc; rw [if_neg (by omega), if_neg (by omega), if_neg (by omega)]
theorem enc_len2 {c : Int} (h : (enc c).length = 2) : 128 ≤ c ∧ c < 2048 := by
  unfold enc at h
  split at h
  · simp at h
  · split at h
    · omega
    · split at h <;> simp at h
theorem enc_len3 {c : Int} (h : (enc c).length = 3) : 2048 ≤ c ∧ c < 65536 := by
  unfold enc at h
  split at h
  · simp at h
  · split at h
    · simp at h
    · split at h
      · omega
      · simp at h
theorem enc_len4 {c : Int} (h : (enc c).length = 4) : 65536 ≤ c := by
  unfold enc at h
  split at h
  · simp at h
  · split at h
    · simp at h
    · split at h
      · simp at h
      · omega

/-- One candidate of begins. -/
def T (y : List Int) (n : Nat) (lo hi c : Int) : Prop := isC c ∧ lo ≤ c ∧ c ≤ hi ∧ (enc c).length = n ∧ (enc c).take y.length = y
instance (y : List Int) (n : Nat) (lo hi c : Int) : Decidable (T y n lo hi c) := by unfold T; infer_instance
theorem l2_step (k : Nat) (hk : 5 ≤ k) (y : List Int) (n : Nat) (hy : y.length < n) (hn : n ≤ 4) (lo hi x8 c : Int) (h0 : 0 ≤ x8) (h4 : x8 < 4) (hc : rd [mx lo (rd [0, 0, 128, 2048, 65536] (n : Int)), 57344, hi, lo] x8 = c) (c0 : 0 ≤ c) (c1 : c < 1099511627776) :
    colophonref01_begins.l2 (k + 1) y n lo hi x8 = if T y n lo hi c then some true else colophonref01_begins.l2 k y n lo hi (x8 + 1) := by
  rw [colophonref01_begins.l2, if_pos h4]
  simp only [Option.bind_some]
  rw [if_pos (by omega), if_pos (by simp; omega), if_pos h0, if_pos (by simp; omega), hc, Encode_f c c0 c1, w64 (x8 + 1) (by omega) (by omega)]
  by_cases hC : isC c
  · rw [if_pos hC]
    simp only [Option.bind_some]
    rw [if_pos trivial]
    by_cases h1 : lo ≤ c
    · rw [if_pos h1]
      by_cases h2 : c ≤ hi
      · rw [if_pos h2]
        by_cases h3 : (enc c).length = n
        · have hl := enc_len c
          rw [if_pos (by omega), if_pos (by omega), if_pos (by omega), Int.toNat_natCast, EqBytes_f _ _ (by rw [List.length_take]; omega) (by rw [List.length_take]; omega), Option.bind_some]
          by_cases h5 : (enc c).take y.length = y
          · rw [if_pos (decide_eq_true h5), if_pos (show T y n lo hi c from ⟨hC, h1, h2, h3, h5⟩)]
          · rw [if_neg (by simpa using h5), if_neg (fun h : T y n lo hi c => h5 h.2.2.2.2)]
        · rw [if_neg (by omega), if_neg (fun h : T y n lo hi c => h3 h.2.2.2.1)]
      · rw [if_neg h2, if_neg (fun h : T y n lo hi c => h2 h.2.2.1)]
    · rw [if_neg h1, if_neg (fun h : T y n lo hi c => h1 h.2.1)]
  · rw [if_neg hC]
    simp only [Option.bind_some]
    rw [if_neg (fun h : T y n lo hi c => hC h.1)]
    rfl
theorem l2_all (k : Nat) (hk : 5 ≤ k) (y : List Int) (n : Nat) (hy : y.length < n) (hn : n ≤ 4) (lo hi : Int) (E : Prop) [Decidable E] (h1 : ∀ c, T y n lo hi c → E) (h2 : E → T y n lo hi (mx lo (rd [0, 0, 128, 2048, 65536] (n : Int))))
    (l0 : 0 ≤ lo) (l1 : lo ≤ hi) (l2 : hi < 2097152) (m0 : 0 ≤ mx lo (rd [0, 0, 128, 2048, 65536] (n : Int))) (m1 : mx lo (rd [0, 0, 128, 2048, 65536] (n : Int)) < 2097152) :
    colophonref01_begins.l2 (k + 5) y n lo hi 0 = if E then some true else colophonref01_begins.l0 k y (n + 1) := by
  rw [l2_step (k + 4) (by omega) y n hy hn lo hi 0 (mx lo (rd [0, 0, 128, 2048, 65536] (n : Int))) (by decide) (by decide) rfl m0 (by omega)]
  by_cases hE : E
  · rw [if_pos (h2 hE), if_pos hE]
  · rw [if_neg (fun h => hE (h1 _ h)), if_neg hE, show (0 : Int) + 1 = 1 from rfl, l2_step (k + 3) (by omega) y n hy hn lo hi 1 57344 (by decide) (by decide) rfl (by decide) (by decide), if_neg (fun h => hE (h1 _ h)),
      show (1 : Int) + 1 = 2 from rfl, l2_step (k + 2) (by omega) y n hy hn lo hi 2 hi (by decide) (by decide) rfl (by omega) (by omega), if_neg (fun h => hE (h1 _ h)),
      show (2 : Int) + 1 = 3 from rfl, l2_step (k + 1) (by omega) y n hy hn lo hi 3 lo (by decide) (by decide) rfl (by omega) (by omega), if_neg (fun h => hE (h1 _ h)),
      show (3 : Int) + 1 = 4 from rfl, colophonref01_begins.l2, if_neg (by decide), w64 _ (by omega) (by omega)]
theorem l1_end (k : Nat) (hk : 8 ≤ k) (y lo hi : List Int) (n : Nat) (h1 : 1 ≤ n) (hn : n ≤ 4) (hlo : lo.length = n) (hhi : hi.length = n) (blo : Bytes lo) (bhi : Bytes hi) :
    colophonref01_begins.l1 (k + 1) y n lo hi = colophonref01_begins.l2 k y n (jn n lo) (jn n hi) 0 := by
  rw [colophonref01_begins.l1, if_neg (by omega), joined_f lo blo n h1 hn (by omega) hk, joined_f hi bhi n h1 hn (by omega) hk]
  rfl
theorem l1_step (k : Nat) (y lo hi : List Int) (n : Nat) (hn : n ≤ 4) (hlo : lo.length < n) (hhi : hi.length < n) :
    colophonref01_begins.l1 (k + 1) y n lo hi = colophonref01_begins.l1 k y n (lo ++ [128]) (hi ++ [191]) := by
  rw [colophonref01_begins.l1, if_pos (by omega), if_pos (by omega), if_pos (by omega)]
theorem l0_step (k : Nat) (y : List Int) (n : Nat) (hn : n ≤ 4) (hy : y.length ≤ 4) : colophonref01_begins.l0 (k + 1) y n = colophonref01_begins.l1 k y n y y := by
  rw [colophonref01_begins.l0, if_pos (by omega)]
  simp only [Option.bind_some, List.nil_append, List.length_nil]
  rw [if_pos (by omega), if_pos (by omega)]
theorem l0_end (k : Nat) (y : List Int) : colophonref01_begins.l0 (k + 1) y 5 = some false := by
  rw [colophonref01_begins.l0, if_neg (by decide)]
theorem Bytes.add {y : List Int} (h : Bytes y) (c : Int) (h0 : 0 ≤ c) (h1 : c < 256) : Bytes (y ++ [c]) := fun x hx => by
  rcases List.mem_append.1 hx with hx | hx
  · exact h x hx
  · rw [List.mem_singleton] at hx; subst hx; exact ⟨h0, h1⟩
theorem round1 (k : Nat) (hk : 5 ≤ k) (y : List Int) (hy : Bytes y) (n : Nat) (hn : n ≤ 4) (hl : y.length + 1 = n) (E : Prop) [Decidable E] (h1 : ∀ c, T y n (jn n (y ++ [128])) (jn n (y ++ [191])) c → E)
    (h2 : E → T y n (jn n (y ++ [128])) (jn n (y ++ [191])) (mx (jn n (y ++ [128])) (rd [0, 0, 128, 2048, 65536] (n : Int)))) (hle : jn n (y ++ [128]) ≤ jn n (y ++ [191])) (m0 : 0 ≤ mx (jn n (y ++ [128])) (rd [0, 0, 128, 2048, 65536] (n : Int))) (m1 : mx (jn n (y ++ [128])) (rd [0, 0, 128, 2048, 65536] (n : Int)) < 2097152) :
    colophonref01_begins.l0 (k + 8) y n = if E then some true else colophonref01_begins.l0 k y (n + 1) := by
  have b1 := hy.add 128 (by decide) (by decide)
  have b2 := hy.add 191 (by decide) (by decide)
  rw [l0_step (k + 7) y n hn (by omega), l1_step (k + 6) y y y n hn (by omega) (by omega), l1_end (k + 5) (by omega) y _ _ n (by omega) hn (by simp; omega) (by simp; omega) b1 b2]
  exact l2_all k hk y n (by omega) hn _ _ E h1 h2 (jn_nn _ b1 n).1 hle (jn_nn _ b2 n).2 m0 m1
theorem round2 (k : Nat) (hk : 5 ≤ k) (y : List Int) (hy : Bytes y) (n : Nat) (hn : n ≤ 4) (hl : y.length + 2 = n) (E : Prop) [Decidable E] (h1 : ∀ c, T y n (jn n (y ++ [128] ++ [128])) (jn n (y ++ [191] ++ [191])) c → E)
    (h2 : E → T y n (jn n (y ++ [128] ++ [128])) (jn n (y ++ [191] ++ [191])) (mx (jn n (y ++ [128] ++ [128])) (rd [0, 0, 128, 2048, 65536] (n : Int)))) (hle : jn n (y ++ [128] ++ [128]) ≤ jn n (y ++ [191] ++ [191])) (m0 : 0 ≤ mx (jn n (y ++ [128] ++ [128])) (rd [0, 0, 128, 2048, 65536] (n : Int))) (m1 : mx (jn n (y ++ [128] ++ [128])) (rd [0, 0, 128, 2048, 65536] (n : Int)) < 2097152) :
    colophonref01_begins.l0 (k + 9) y n = if E then some true else colophonref01_begins.l0 k y (n + 1) := by
  have b1 := (hy.add 128 (by decide) (by decide)).add 128 (by decide) (by decide)
  have b2 := (hy.add 191 (by decide) (by decide)).add 191 (by decide) (by decide)
  rw [l0_step (k + 8) y n hn (by omega), l1_step (k + 7) y y y n hn (by omega) (by omega), l1_step (k + 6) y _ _ n hn (by simp; omega) (by simp; omega), l1_end (k + 5) (by omega) y _ _ n (by omega) hn (by simp; omega) (by simp; omega) b1 b2]
  exact l2_all k hk y n (by omega) hn _ _ E h1 h2 (jn_nn _ b1 n).1 hle (jn_nn _ b2 n).2 m0 m1
theorem round3 (k : Nat) (hk : 5 ≤ k) (y : List Int) (hy : Bytes y) (n : Nat) (hn : n ≤ 4) (hl : y.length + 3 = n) (E : Prop) [Decidable E] (h1 : ∀ c, T y n (jn n (y ++ [128] ++ [128] ++ [128])) (jn n (y ++ [191] ++ [191] ++ [191])) c → E)
    (h2 : E → T y n (jn n (y ++ [128] ++ [128] ++ [128])) (jn n (y ++ [191] ++ [191] ++ [191])) (mx (jn n (y ++ [128] ++ [128] ++ [128])) (rd [0, 0, 128, 2048, 65536] (n : Int)))) (hle : jn n (y ++ [128] ++ [128] ++ [128]) ≤ jn n (y ++ [191] ++ [191] ++ [191])) (m0 : 0 ≤ mx (jn n (y ++ [128] ++ [128] ++ [128])) (rd [0, 0, 128, 2048, 65536] (n : Int))) (m1 : mx (jn n (y ++ [128] ++ [128] ++ [128])) (rd [0, 0, 128, 2048, 65536] (n : Int)) < 2097152) :
    colophonref01_begins.l0 (k + 10) y n = if E then some true else colophonref01_begins.l0 k y (n + 1) := by
  have b1 := ((hy.add 128 (by decide) (by decide)).add 128 (by decide) (by decide)).add 128 (by decide) (by decide)
  have b2 := ((hy.add 191 (by decide) (by decide)).add 191 (by decide) (by decide)).add 191 (by decide) (by decide)
  rw [l0_step (k + 9) y n hn (by omega), l1_step (k + 8) y y y n hn (by omega) (by omega), l1_step (k + 7) y _ _ n hn (by simp; omega) (by simp; omega), l1_step (k + 6) y _ _ n hn (by simp; omega) (by simp; omega), l1_end (k + 5) (by omega) y _ _ n (by omega) hn (by simp; omega) (by simp; omega) b1 b2]
  exact l2_all k hk y n (by omega) hn _ _ E h1 h2 (jn_nn _ b1 n).1 hle (jn_nn _ b2 n).2 m0 m1
end Go.Proofs.Ytogfaahdbecdnaa.B
