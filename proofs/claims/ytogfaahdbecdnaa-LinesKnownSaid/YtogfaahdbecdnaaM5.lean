/-
  Plain laws of characters: the document's Decode and Check come to the program's.
-/
import Derived.Test.YtogfaahdbecdnaaM4
namespace Go.Proofs.Ytogfaahdbecdnaa.B
open Go.RowKit Go.Proofs.YtogfaahdbecdnaaW.PrintWords Go.Proofs.YtogfaahdbecdnaaW.PrintLast Go.Proofs.YtogfaahdbecdnaaW.PrintMore Go.Proofs.Ytogfaahdbecdnaa.FBase
set_option linter.unusedVariables false

theorem mx_le (a b : Int) (h : a ≤ b) : mx a b = b := by unfold mx; split <;> omega
theorem mx_ge (a b : Int) (h : b ≤ a) : mx a b = a := by unfold mx; split <;> omega
theorem tab2 : rd [0, 0, 128, 2048, 65536] ((2 : Nat) : Int) = 128 := rfl
theorem tab3 : rd [0, 0, 128, 2048, 65536] ((3 : Nat) : Int) = 2048 := rfl
theorem tab4 : rd [0, 0, 128, 2048, 65536] ((4 : Nat) : Int) = 65536 := rfl
theorem mx_range (a b : Int) (h0 : 0 ≤ a) (h1 : a < 2097152) (h2 : 0 ≤ b) (h3 : b < 2097152) : 0 ≤ mx a b ∧ mx a b < 2097152 := by unfold mx; split <;> omega

/-- A proper beginning of a character's bytes. -/
def Low (b b1 : Int) : Prop := lowOf b ≤ b1 ∧ b1 ≤ highOf b
instance (b b1 : Int) : Decidable (Low b b1) := by unfold Low; infer_instance
def E34 (b b1 b2 : Int) : Prop := 240 ≤ b ∧ b ≤ 244 ∧ Low b b1 ∧ 128 ≤ b2 ∧ b2 ≤ 191
instance (b b1 b2 : Int) : Decidable (E34 b b1 b2) := by unfold E34; infer_instance
def E23 (b b1 : Int) : Prop := 224 ≤ b ∧ b < 240 ∧ Low b b1
instance (b b1 : Int) : Decidable (E23 b b1) := by unfold E23; infer_instance
def E24 (b b1 : Int) : Prop := 240 ≤ b ∧ b ≤ 244 ∧ Low b b1
instance (b b1 : Int) : Decidable (E24 b b1) := by unfold E24; infer_instance

theorem begins_34 (k : Nat) (hk : 5 ≤ k) (b b1 b2 : Int) (h : Bytes [b, b1, b2]) : colophonref01_begins.l0 (k + 8) [b, b1, b2] 4 = if E34 b b1 b2 then some true else colophonref01_begins.l0 k [b, b1, b2] 5 := by
  have hb := h b (by simp)
  have hb1 := h b1 (by simp)
  have hb2 := h b2 (by simp)
  have m := mx_range (jn 4 ([b, b1, b2] ++ [128])) 65536 (jn_nn _ (h.add 128 (by decide) (by decide)) 4).1 (jn_nn _ (h.add 128 (by decide) (by decide)) 4).2 (by decide) (by decide)
  refine round1 k hk [b, b1, b2] h 4 (by decide) rfl (E34 b b1 b2) (fun c hT => ?_) (fun hE => ?_) (by simp [jn]; omega) m.1 m.2
  · obtain ⟨⟨c0, c1, c2⟩, hlo, hhi, hl, ht⟩ := hT
    rw [enc_4 (enc_len4 hl)] at ht
    simp [jn] at hlo hhi ht
    have := enc_len4 hl
    unfold E34 Low lowOf highOf
    refine ⟨by omega, by omega, ⟨?_, ?_⟩, by omega, by omega⟩
    · split
      · omega
      · split <;> omega
    · split
      · omega
      · split <;> omega
  · obtain ⟨e1, e2, ⟨e3, e4⟩, e5, e6⟩ := hE
    unfold lowOf at e3
    unfold highOf at e4
    have hge : 65536 ≤ jn 4 ([b, b1, b2] ++ [128]) := by
      simp [jn]
      rw [if_neg (by omega)] at e3
      split at e3 <;> omega
    rw [tab4, mx_ge _ _ hge]
    have hle : jn 4 ([b, b1, b2] ++ [128]) ≤ 1114111 := by
      simp [jn]
      rw [if_neg (by omega)] at e4
      split at e4 <;> omega
    have hle2 : jn 4 ([b, b1, b2] ++ [128]) ≤ jn 4 ([b, b1, b2] ++ [191]) := by simp [jn]; omega
    refine ⟨⟨by omega, hle, by omega⟩, Int.le_refl _, hle2, by rw [enc_4 hge]; rfl, ?_⟩
    rw [enc_4 hge]
    have b1r : 128 ≤ b1 ∧ b1 < 192 := by
      rw [if_neg (by omega)] at e3
      rw [if_neg (by omega)] at e4
      constructor
      · split at e3 <;> omega
      · split at e4 <;> omega
    simp [jn]
    refine ⟨by omega, by omega, by omega⟩
theorem begins_23 (k : Nat) (hk : 5 ≤ k) (b b1 : Int) (h : Bytes [b, b1]) : colophonref01_begins.l0 (k + 8) [b, b1] 3 = if E23 b b1 then some true else colophonref01_begins.l0 k [b, b1] 4 := by
  have hb := h b (by simp)
  have hb1 := h b1 (by simp)
  have m := mx_range (jn 3 ([b, b1] ++ [128])) 2048 (jn_nn _ (h.add 128 (by decide) (by decide)) 3).1 (jn_nn _ (h.add 128 (by decide) (by decide)) 3).2 (by decide) (by decide)
  refine round1 k hk [b, b1] h 3 (by decide) rfl (E23 b b1) (fun c hT => ?_) (fun hE => ?_) (by simp [jn]; omega) m.1 m.2
  · obtain ⟨⟨c0, c1, c2⟩, hlo, hhi, hl, ht⟩ := hT
    have h3 := enc_len3 hl
    rw [enc_3 h3.1 h3.2] at ht
    simp [jn] at hlo hhi ht
    unfold E23 Low lowOf highOf
    refine ⟨by omega, by omega, ?_, ?_⟩
    · split
      · omega
      · split <;> omega
    · split
      · omega
      · split <;> omega
  · obtain ⟨e1, e2, e3, e4⟩ := hE
    unfold lowOf at e3
    unfold highOf at e4
    have hge : 2048 ≤ jn 3 ([b, b1] ++ [128]) := by
      simp [jn]
      split at e3
      · omega
      · rw [if_neg (by omega)] at e3; omega
    have b1r : 128 ≤ b1 ∧ b1 < 192 := by
      constructor
      · split at e3
        · omega
        · split at e3 <;> omega
      · split at e4
        · omega
        · split at e4 <;> omega
    rw [tab3, mx_ge _ _ hge]
    have hle : jn 3 ([b, b1] ++ [128]) < 65536 := by simp [jn]; omega
    have hsur : ¬ (55296 ≤ jn 3 ([b, b1] ++ [128]) ∧ jn 3 ([b, b1] ++ [128]) ≤ 57343) := by
      simp [jn]
      split at e4 <;> omega
    have hle2 : jn 3 ([b, b1] ++ [128]) ≤ jn 3 ([b, b1] ++ [191]) := by simp [jn]; omega
    refine ⟨⟨by omega, by omega, hsur⟩, Int.le_refl _, hle2, by rw [enc_3 hge hle]; rfl, ?_⟩
    rw [enc_3 hge hle]
    simp [jn]
    refine ⟨by omega, by omega⟩
theorem begins_24 (k : Nat) (hk : 5 ≤ k) (b b1 : Int) (h : Bytes [b, b1]) : colophonref01_begins.l0 (k + 9) [b, b1] 4 = if E24 b b1 then some true else colophonref01_begins.l0 k [b, b1] 5 := by
  have hb := h b (by simp)
  have hb1 := h b1 (by simp)
  have bb := (h.add 128 (by decide) (by decide)).add 128 (by decide) (by decide)
  have m := mx_range (jn 4 ([b, b1] ++ [128] ++ [128])) 65536 (jn_nn _ bb 4).1 (jn_nn _ bb 4).2 (by decide) (by decide)
  refine round2 k hk [b, b1] h 4 (by decide) rfl (E24 b b1) (fun c hT => ?_) (fun hE => ?_) (by simp [jn]; omega) m.1 m.2
  · obtain ⟨⟨c0, c1, c2⟩, hlo, hhi, hl, ht⟩ := hT
    have h3 := enc_len4 hl
    rw [enc_4 h3] at ht
    simp [jn] at hlo hhi ht
    unfold E24 Low lowOf highOf
    refine ⟨by omega, by omega, ?_, ?_⟩
    · split
      · omega
      · split <;> omega
    · split
      · omega
      · split <;> omega
  · obtain ⟨e1, e2, e3, e4⟩ := hE
    unfold lowOf at e3
    unfold highOf at e4
    rw [if_neg (by omega)] at e3 e4
    have b1r : 128 ≤ b1 ∧ b1 < 192 := by
      constructor
      · split at e3 <;> omega
      · split at e4 <;> omega
    have hge : 65536 ≤ jn 4 ([b, b1] ++ [128] ++ [128]) := by
      simp [jn]
      split at e3 <;> omega
    rw [tab4, mx_ge _ _ hge]
    have hle : jn 4 ([b, b1] ++ [128] ++ [128]) ≤ 1114111 := by
      simp [jn]
      split at e4 <;> omega
    have hle2 : jn 4 ([b, b1] ++ [128] ++ [128]) ≤ jn 4 ([b, b1] ++ [191] ++ [191]) := by simp [jn]; omega
    refine ⟨⟨by omega, hle, by omega⟩, Int.le_refl _, hle2, by rw [enc_4 hge]; rfl, ?_⟩
    rw [enc_4 hge]
    simp [jn]
    refine ⟨by omega, by omega⟩
theorem begins_one : ∀ b : Fin 256, colophonref01_begins.f 40 [((b.val : Nat) : Int)] = some (decide (194 ≤ b.val ∧ b.val ≤ 244)) := by decide +kernel
theorem begins_1 (b : Int) (h0 : 0 ≤ b) (h1 : b < 256) : colophonref01_begins.f 40 [b] = some (decide (194 ≤ b ∧ b ≤ 244)) := by
  have := begins_one ⟨b.toNat, by omega⟩
  simp only [Int.toNat_of_nonneg h0] at this
  rw [this]
  congr 1
  exact decide_eq_decide.2 (by omega)
theorem begins_2 (b b1 : Int) (h : Bytes [b, b1]) : colophonref01_begins.f 40 [b, b1] = some (decide (224 ≤ b ∧ b ≤ 244 ∧ Low b b1)) := by
  unfold colophonref01_begins.f
  rw [show wrap64 (([b, b1].length : Nat) + 1 : Int) = 3 from w64 3 (by decide) (by decide), begins_23 32 (by decide) b b1 h]
  by_cases h1 : E23 b b1
  · rw [if_pos h1]
    exact congrArg some (decide_eq_true ⟨h1.1, by have := h1.2.1; omega, h1.2.2⟩).symm
  · rw [if_neg h1, begins_24 23 (by decide) b b1 h]
    by_cases h2 : E24 b b1
    · rw [if_pos h2]
      exact congrArg some (decide_eq_true ⟨by have := h2.1; omega, h2.2.1, h2.2.2⟩).symm
    · rw [if_neg h2, l0_end]
      refine congrArg some (decide_eq_false (fun h3 => ?_)).symm
      rcases Int.lt_or_le b 240 with h4 | h4
      · exact h1 ⟨h3.1, h4, h3.2.2⟩
      · exact h2 ⟨h4, h3.2.1, h3.2.2⟩
theorem begins_3 (b b1 b2 : Int) (h : Bytes [b, b1, b2]) : colophonref01_begins.f 40 [b, b1, b2] = some (decide (E34 b b1 b2)) := by
  unfold colophonref01_begins.f
  rw [show wrap64 (([b, b1, b2].length : Nat) + 1 : Int) = 4 from w64 4 (by decide) (by decide), begins_34 32 (by decide) b b1 b2 h]
  by_cases h1 : E34 b b1 b2
  · rw [if_pos h1]
    exact congrArg some (decide_eq_true h1).symm
  · rw [if_neg h1, l0_end]
    exact congrArg some (decide_eq_false h1).symm
end Go.Proofs.Ytogfaahdbecdnaa.B
