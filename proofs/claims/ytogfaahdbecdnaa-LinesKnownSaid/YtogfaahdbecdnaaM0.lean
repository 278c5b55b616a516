/-
  Plain laws of characters: what the program's Decode and Check come to.
-/
import Derived.Test.YtogfaahdbecdnaaFBasex4
namespace Go.Proofs.Ytogfaahdbecdnaa.B
open Go.RowKit Go.Proofs.YtogfaahdbecdnaaW.PrintWords Go.Proofs.YtogfaahdbecdnaaW.PrintLast Go.Proofs.YtogfaahdbecdnaaW.PrintMore Go.Proofs.Ytogfaahdbecdnaa.FBase
set_option linter.unusedVariables false

/-- Bytes. -/
def Bytes (l : List Int) : Prop := ∀ x ∈ l, 0 ≤ x ∧ x < 256
theorem Bytes.tail {b : Int} {l : List Int} (h : Bytes (b :: l)) : Bytes l := fun x hx => h x (List.mem_cons_of_mem _ hx)
theorem Bytes.drop {l : List Int} (h : Bytes l) (n : Nat) : Bytes (l.drop n) := fun x hx => h x (List.mem_of_mem_drop hx)
theorem Bytes.take {l : List Int} (h : Bytes l) (n : Nat) : Bytes (l.take n) := fun x hx => h x (List.mem_of_mem_take hx)

/-- How many bytes a first byte begins. -/
def sizeOfFirst (b : Int) : Int := if b < 128 then 1 else if b < 194 then 0 else if 244 < b then 0 else if b < 224 then 2 else if b < 240 then 3 else 4
def lowOf (b : Int) : Int := if b = 224 then 160 else if b = 240 then 144 else 128
def highOf (b : Int) : Int := if b = 237 then 159 else if b = 244 then 143 else 191
/-- The rest of a character of n bytes, the first of which has the bits c. -/
def restOf (c n lo hi : Int) : List Int → Int × Int × Int
  | [] => (0, 0, 3)
  | b1 :: t1 =>
    if b1 < lo then (0, 0, 10) else if hi < b1 then (0, 0, 10)
    else if n = 2 then (c * 64 + b1 % 64, 2, 0)
    else match t1 with
    | [] => (0, 0, 3)
    | b2 :: t2 =>
      if b2 < 128 then (0, 0, 10) else if 191 < b2 then (0, 0, 10)
      else if n = 3 then ((c * 64 + b1 % 64) * 64 + b2 % 64, 3, 0)
      else match t2 with
      | [] => (0, 0, 3)
      | b3 :: _ => if b3 < 128 then (0, 0, 10) else if 191 < b3 then (0, 0, 10) else (((c * 64 + b1 % 64) * 64 + b2 % 64) * 64 + b3 % 64, 4, 0)
/-- The character at the head of bytes: it, its size, an error. -/
def dec : List Int → Int × Int × Int
  | [] => (0, 0, 9)
  | b :: t =>
    if sizeOfFirst b = 1 then (b, 1, 0) else if sizeOfFirst b = 0 then (0, 0, 10)
    else if sizeOfFirst b = 2 then restOf (b % 32) 2 (lowOf b) (highOf b) t
    else if sizeOfFirst b = 3 then restOf (b % 16) 3 (lowOf b) (highOf b) t
    else restOf (b % 8) 4 (lowOf b) (highOf b) t

theorem w64 (x : Int) (h0 : 0 ≤ x) (h1 : x < 4611686018427387904) : wrap64 x = x := by unfold wrap64; omega
theorem i64_or6 (x y : Int) (hx0 : 0 ≤ x) (hx : x % 64 = 0) (hx1 : x < 4611686018427387904) (h0 : 0 ≤ y) (h1 : y < 64) : Go.bits .or .i64 x y = x + y :=
  bits_join .i64 62 (by decide) (fun n h0 h1 => by rw [IntKind.wrap_i64]; omega) 6 x y hx0 hx hx1 h0 h1 (by omega)
theorem step6 (c b : Int) (h0 : 0 ≤ c) (h1 : c < 16777216) (hb0 : 0 ≤ b) (hb1 : b < 256) : Go.bits .or .i64 (wrap64 (c * 64)) (wrap64 (Go.bits .and .u8 b 63)) = c * 64 + b % 64 := by
  rw [u8_and63 b hb0 hb1, w64 (c * 64) (by omega) (by omega), w64 (b % 64) (by omega) (by omega)]
  exact i64_or6 _ _ (by omega) (by omega) (by omega) (by omega) (by omega)
theorem rd0 (b : Int) (t : List Int) : rd (b :: t) 0 = b := rfl
theorem rd1 (b b1 : Int) (t : List Int) : rd (b :: b1 :: t) 1 = b1 := rfl
theorem rd2 (b b1 b2 : Int) (t : List Int) : rd (b :: b1 :: b2 :: t) 2 = b2 := rfl
theorem rd3 (b b1 b2 b3 : Int) (t : List Int) : rd (b :: b1 :: b2 :: b3 :: t) 3 = b3 := rfl
theorem ww1 : wrap64 (1 + 1) = 2 := by unfold wrap64; omega
theorem ww2 : wrap64 (2 + 1) = 3 := by unfold wrap64; omega
theorem ww3 : wrap64 (3 + 1) = 4 := by unfold wrap64; omega
theorem len1 (b : Int) (t : List Int) : ((b :: t).length : Int) = t.length + 1 := by simp

/-- What form tells. -/
theorem form_f (b : Int) (h0 : 0 ≤ b) (h1 : b < 256) : ∃ m lo hi, runes_form.f 2 b = some (sizeOfFirst b, m, lo, hi) ∧ (sizeOfFirst b = 1 → m = 127) ∧
    (1 < sizeOfFirst b → lo = lowOf b ∧ hi = highOf b) ∧ (sizeOfFirst b = 2 → m = 31) ∧ (sizeOfFirst b = 3 → m = 15) ∧ (sizeOfFirst b = 4 → m = 7) := by
  unfold runes_form.f sizeOfFirst lowOf highOf
  by_cases c1 : b < 128
  · simp [c1]
  · by_cases c2 : b < 194
    · simp [c1, c2, runes_form.j0]
    · by_cases c3 : 244 < b
      · simp [c1, c2, c3, runes_form.j0]
      · by_cases c4 : b < 224
        · have n1 : ¬ b = 224 := by omega
          have n2 : ¬ b = 240 := by omega
          have n3 : ¬ b = 237 := by omega
          have n4 : ¬ b = 244 := by omega
          simp [c1, c2, c3, c4, n1, n2, n3, n4, runes_form.j0]
          exact ⟨_, _, _, ⟨rfl, rfl, rfl⟩, ⟨rfl, rfl⟩, rfl⟩
        · by_cases c5 : b < 240
          · have n2 : ¬ b = 240 := by omega
            have n4 : ¬ b = 244 := by omega
            by_cases c6 : b = 224
            · simp [c6, runes_form.j0]
              exact ⟨_, _, _, ⟨rfl, rfl, rfl⟩, ⟨rfl, rfl⟩, rfl⟩
            · by_cases c7 : b = 237
              · simp [c7, runes_form.j0]
                exact ⟨_, _, _, ⟨rfl, rfl, rfl⟩, ⟨rfl, rfl⟩, rfl⟩
              · simp [c1, c2, c3, c4, c5, c6, c7, n2, n4, runes_form.j0]
                exact ⟨_, _, _, ⟨rfl, rfl, rfl⟩, ⟨rfl, rfl⟩, rfl⟩
          · have n1 : ¬ b = 224 := by omega
            have n3 : ¬ b = 237 := by omega
            by_cases c6 : b = 240
            · simp [c6, runes_form.j0]
              exact ⟨_, _, _, ⟨rfl, rfl, rfl⟩, ⟨rfl, rfl⟩, rfl⟩
            · by_cases c7 : b = 244
              · simp [c7, runes_form.j0]
                exact ⟨_, _, _, ⟨rfl, rfl, rfl⟩, ⟨rfl, rfl⟩, rfl⟩
              · simp [c1, c2, c3, c4, c5, c6, c7, n1, n3, runes_form.j0]
                exact ⟨_, _, _, ⟨rfl, rfl, rfl⟩, ⟨rfl, rfl⟩, rfl⟩
theorem size_range (b : Int) : sizeOfFirst b = 0 ∨ sizeOfFirst b = 1 ∨ sizeOfFirst b = 2 ∨ sizeOfFirst b = 3 ∨ sizeOfFirst b = 4 := by
  unfold sizeOfFirst
  by_cases c1 : b < 128
  · simp [c1]
  · by_cases c2 : b < 194
    · simp [c1, c2]
    · by_cases c3 : 244 < b
      · simp [c1, c2, c3]
      · by_cases c4 : b < 224
        · simp [c1, c2, c3, c4]
        · by_cases c5 : b < 240 <;> simp [c1, c2, c3, c4, c5]
theorem size_one (b : Int) (h : sizeOfFirst b = 1) : b < 128 := by
  refine Int.not_le.1 (fun hn => ?_)
  unfold sizeOfFirst at h
  rw [if_neg (by omega)] at h
  by_cases c2 : b < 194
  · simp [c2] at h
  · by_cases c3 : 244 < b
    · simp [c2, c3] at h
    · by_cases c4 : b < 224
      · simp [c2, c3, c4] at h
      · by_cases c5 : b < 240 <;> simp [c2, c3, c4, c5] at h

set_option maxRecDepth 100000 in
/-- The rest of a character, byte by byte. -/
theorem loop_f (b : Int) (t : List Int) (h : Bytes (b :: t)) (c n lo hi : Int) (hl : (t.length : Int) < 4611686018427387904) (hn : n = 2 ∨ n = 3 ∨ n = 4) (hc0 : 0 ≤ c) (hc1 : c < 32) (k : Nat) :
    runes_Decode.l0 (k + 4) c n (b :: t) lo hi 1 = some (restOf c n lo hi t) := by
  have hn1 : 1 < n := by omega
  unfold restOf
  rw [runes_Decode.l0, if_pos hn1]
  cases t with
  | nil => simp
  | cons b1 t1 =>
    have hb1 := h b1 (by simp)
    simp only [len1]
    rw [if_neg (by have : (0 : Int) ≤ t1.length := Int.natCast_nonneg _; omega), if_pos (by decide), if_pos (by have : (0 : Int) ≤ t1.length := Int.natCast_nonneg _; omega), rd1]
    by_cases l1 : b1 < lo
    · simp [l1]
    · rw [if_neg l1, if_neg l1]
      by_cases g1 : hi < b1
      · simp [g1]
      · rw [if_neg (by omega), if_neg g1, step6 c b1 hc0 (by omega) hb1.1 hb1.2, ww1, runes_Decode.l0]
        by_cases n2 : n = 2
        · subst n2; simp
        · rw [if_pos (by omega), if_neg n2]
          cases t1 with
          | nil => simp
          | cons b2 t2 =>
            have hb2 := h b2 (by simp)
            simp only [len1]
            rw [if_neg (by have : (0 : Int) ≤ t2.length := Int.natCast_nonneg _; omega), if_pos (by decide), if_pos (by have : (0 : Int) ≤ t2.length := Int.natCast_nonneg _; omega), rd2]
            by_cases l2 : b2 < 128
            · simp [l2]
            · rw [if_neg l2, if_neg l2]
              by_cases g2 : 191 < b2
              · simp [g2]
              · rw [if_neg (by omega), if_neg g2, step6 _ b2 (by omega) (by omega) hb2.1 hb2.2, ww2, runes_Decode.l0]
                by_cases n3 : n = 3
                · subst n3; simp
                · have n4 : n = 4 := by omega
                  rw [if_pos (show (3 : Int) < n by omega), if_neg n3]
                  cases t2 with
                  | nil => simp
                  | cons b3 t3 =>
                    have hb3 := h b3 (by simp)
                    simp only [len1]
                    rw [if_neg (by have : (0 : Int) ≤ t3.length := Int.natCast_nonneg _; omega), if_pos (by decide), if_pos (by have : (0 : Int) ≤ t3.length := Int.natCast_nonneg _; omega), rd3]
                    by_cases l3 : b3 < 128
                    · simp [l3]
                    · rw [if_neg l3, if_neg l3]
                      by_cases g3 : 191 < b3
                      · simp [g3]
                      · rw [if_neg (by omega), if_neg g3, step6 _ b3 (by omega) (by omega) hb3.1 hb3.2, ww3, runes_Decode.l0, if_neg (by omega), n4]

/-- Decode. -/
theorem Decode_f (l : List Int) (i : Int) (h : Bytes l) (hl : l.length ≤ 1048576) (h0 : 0 ≤ i) (h1 : i < l.length) : runes_Decode.f 8 l i = some (dec (l.drop i.toNat)) := by
  unfold runes_Decode.f
  rw [if_neg (by omega), decide_eq_false (by omega)]
  simp only [runes_Decode.j0, Option.bind_some]
  rw [if_neg (by decide), if_pos h0, if_pos (by omega)]
  have hB := h.drop i.toNat
  have hlen : (l.drop i.toNat).length = l.length - i.toNat := List.length_drop
  generalize l.drop i.toNat = y at *
  cases y with
  | nil => simp at hlen; omega
  | cons b t =>
    have hb := hB b (by simp)
    have hpos : (0 : Int) < ((b :: t).length : Int) := by simp only [len1]; omega
    rw [if_pos hpos, rd0]
    obtain ⟨m, lo, hi, hf, f1, f2, f3, f4, f5⟩ := form_f b hb.1 hb.2
    have hf7 : runes_form.f 7 b = some (sizeOfFirst b, m, lo, hi) := by
      have e : ∀ k, runes_form.f (2 + k) b = some (sizeOfFirst b, m, lo, hi) := by
        intro k
        induction k with
        | zero => exact hf
        | succ k ih => exact runes_form.mono b _ _ ih
      exact e 5
    rw [hf7]
    simp only [Option.bind_some]
    have ht : (t.length : Int) < 4611686018427387904 := by simp at hlen; omega
    rcases size_range b with e | e | e | e | e
    · rw [if_pos e]; simp [dec, e]
    · rw [if_neg (by omega), f1 e, show (7 : Nat) = 3 + 4 from rfl]
      rw [show (3 + 4 : Nat) = 6 + 1 from rfl, runes_Decode.l0, if_neg (by omega)]
      have hb2 : b < 128 := size_one b e
      have e2 : Go.bits .and .u8 b 127 = b % 128 := bits_mask .u8 8 (by decide) wraps_u8 7 (by decide) b hb.1 (by omega)
      rw [e2, show b % 128 = b by omega, w64 b hb.1 (by omega)]
      simp [dec, e]
    all_goals
      obtain ⟨rfl, rfl⟩ := f2 (by omega)
      rw [if_neg (by omega)]
    · rw [f3 e, u8_and31 b hb.1 hb.2, w64 _ (by omega) (by omega), e, show (7 : Nat) = 3 + 4 from rfl, loop_f b t hB _ 2 _ _ ht (by simp) (by omega) (by omega) 3]
      simp [dec, e]
    · rw [f4 e, u8_and15 b hb.1 hb.2, w64 _ (by omega) (by omega), e, show (7 : Nat) = 3 + 4 from rfl, loop_f b t hB _ 3 _ _ ht (by simp) (by omega) (by omega) 3]
      simp [dec, e]
    · rw [f5 e, u8_and7 b hb.1 hb.2, w64 _ (by omega) (by omega), e, show (7 : Nat) = 3 + 4 from rfl, loop_f b t hB _ 4 _ _ ht (by simp) (by omega) (by omega) 3]
      simp [dec, e]
end Go.Proofs.Ytogfaahdbecdnaa.B
