/-
  Texts of this session, one behind the other: M2, M3, M4, M5, M6, M7, G0, G1, G2, H0, H1, H2, B7, B8, H3.
-/
import Derived.RangeFuncNested
import Derived.RangeFuncBound
import Derived.RangeFuncCalls
import Derived.RangeFuncLeaves
import Derived.RangeFuncBox
import Derived.Shelf.Abstract
import Derived.Shelf.RegionOpen
import Derived.OwnWalkIn
import Derived.TacticsInMore
import Derived.LoopNIn
import Derived.LoopIn
import Derived.Test.YtogfaahdbecdnaaFBasex4
import Derived.Deep.DeepFit
import Derived.Test.YtogfaahdbecdnaaFBasex5
import Derived.Test.YtogfaahdbecdnaaBulk
import Derived.ChangeShapes
import Derived.WalkMore
import Derived.WalkSpells
import Derived.Deep.DeepCutAuto
import Derived.Deep.CutRange
import Derived.Deep.RegionHeld3
import Derived.Test.YtogfaahdbecdnaaZH60
set_option linter.unusedSimpArgs false
set_option linter.unusedVariables false
/-
  Plain laws of characters and lines: a text and a text behind it.
-/
namespace Go.Proofs.Ytogfaahdbecdnaa.B
open Go.RowKit Go.Proofs.YtogfaahdbecdnaaW.PrintWords Go.Proofs.YtogfaahdbecdnaaW.PrintLast Go.Proofs.YtogfaahdbecdnaaW.PrintMore Go.Proofs.Ytogfaahdbecdnaa.FBase
set_option linter.unusedVariables false

theorem restOf_append {c n lo hi : Int} {t z : List Int} (he : (restOf c n lo hi t).2.2 = 0) : restOf c n lo hi (t ++ z) = restOf c n lo hi t := by
  unfold restOf at *
  cases t with
  | nil => simp at he
  | cons b1 t1 =>
    simp only [List.cons_append] at he ⊢
    by_cases l1 : b1 < lo
    · simp [l1]
    · by_cases g1 : hi < b1
      · simp [l1, g1]
      · rw [if_neg l1, if_neg g1] at he ⊢
        rw [if_neg l1, if_neg g1]
        by_cases n2 : n = 2
        · rw [if_pos n2, if_pos n2]
        · rw [if_neg n2] at he ⊢
          rw [if_neg n2]
          cases t1 with
          | nil => simp at he
          | cons b2 t2 =>
            simp only [List.cons_append] at he ⊢
            by_cases l2 : b2 < 128
            · simp [l2]
            · by_cases g2 : 191 < b2
              · simp [l2, g2]
              · rw [if_neg l2, if_neg g2] at he ⊢
                rw [if_neg l2, if_neg g2]
                by_cases n3 : n = 3
                · rw [if_pos n3, if_pos n3]
                · rw [if_neg n3] at he ⊢
                  rw [if_neg n3]
                  cases t2 with
                  | nil => simp at he
                  | cons b3 t3 => rfl
theorem dec_append {y z : List Int} (he : (dec y).2.2 = 0) : dec (y ++ z) = dec y := by
  unfold dec at *
  cases y with
  | nil => simp at he
  | cons b t =>
    simp only [List.cons_append] at he ⊢
    by_cases e1 : sizeOfFirst b = 1
    · simp [e1]
    · by_cases e0 : sizeOfFirst b = 0
      · simp [e0]
      · rw [if_neg e1, if_neg e0] at he ⊢
        rw [if_neg e1, if_neg e0]
        by_cases e2 : sizeOfFirst b = 2
        · rw [if_pos e2] at he ⊢
          rw [if_pos e2]
          exact restOf_append he
        · rw [if_neg e2] at he ⊢
          rw [if_neg e2]
          by_cases e3 : sizeOfFirst b = 3
          · rw [if_pos e3] at he ⊢
            rw [if_pos e3]
            exact restOf_append he
          · rw [if_neg e3] at he ⊢
            rw [if_neg e3]
            exact restOf_append he

/-- Characters, one behind the other. -/
inductive V : List Int → Prop
  | nil : V []
  | step (y : List Int) (he : (dec y).2.2 = 0) (h : V (y.drop (dec y).2.1.toNat)) : V y
theorem chkF_V {l : List Int} (hb : Bytes l) (n : Nat) : ∀ (i : Int), 0 ≤ i → i ≤ l.length → (l.length : Int) - i ≤ n → ((chkF n l i).2 = 0 ↔ V (l.drop i.toNat)) := by
  induction n with
  | zero =>
    intro i h0 h1 hn
    rw [show l.drop i.toNat = [] by rw [List.drop_eq_nil_iff]; omega]
    exact ⟨fun _ => .nil, fun _ => rfl⟩
  | succ n ih =>
    intro i h0 h1 hn
    rw [chkF]
    by_cases hi : i < (l.length : Int)
    · rw [if_pos hi]
      have hne : l.drop i.toNat ≠ [] := by rw [Ne, List.drop_eq_nil_iff]; omega
      by_cases he : (dec (l.drop i.toNat)).2.2 = 0
      · rw [if_pos he]
        have hd := dec_ok (hb.drop i.toNat) he
        have hlen : (l.drop i.toNat).length = l.length - i.toNat := List.length_drop
        rw [ih _ (by omega) (by omega) (by omega)]
        have e : (l.drop (i + (dec (l.drop i.toNat)).2.1).toNat) = (l.drop i.toNat).drop (dec (l.drop i.toNat)).2.1.toNat := by
          rw [List.drop_drop]
          congr 1
          omega
        rw [e]
        refine ⟨fun h => .step _ he h, fun h => ?_⟩
        generalize l.drop i.toNat = y at *
        cases h with
        | nil => exact absurd rfl hne
        | step _ _ h => exact h
      · rw [if_neg he]
        refine ⟨fun h => absurd h he, fun h => ?_⟩
        generalize l.drop i.toNat = y at *
        cases h with
        | nil => exact absurd rfl hne
        | step _ h _ => exact absurd h he
    · rw [if_neg hi, show l.drop i.toNat = [] by rw [List.drop_eq_nil_iff]; omega]
      exact ⟨fun _ => .nil, fun _ => rfl⟩
theorem chk_V {l : List Int} (hb : Bytes l) : (chk l).2 = 0 ↔ V l := by
  have := chkF_V hb l.length 0 (Int.le_refl _) (by omega) (by omega)
  rwa [Int.toNat_zero, List.drop_zero] at this
theorem V.append {a b : List Int} (h : V a) (ha : Bytes a) (hb : V b) : V (a ++ b) := by
  induction h with
  | nil => exact hb
  | step y he h ih =>
    refine .step _ (by rw [dec_append he]; exact he) ?_
    have hd := dec_ok ha he
    rw [dec_append he, List.drop_append_of_le_length (by omega)]
    exact ih (ha.drop _)
theorem Bytes.append {a b : List Int} (ha : Bytes a) (hb : Bytes b) : Bytes (a ++ b) := fun x hx => (List.mem_append.1 hx).elim (ha x) (hb x)

/-- How many lines there are: wherever they lie. -/
theorem lns_len (n : Nat) : ∀ (l : List Int) (fr i fr' i' : Int), l.length ≤ n → (lns l fr i).length = (lns l fr' i').length := by
  induction n with
  | zero =>
    intro l fr i fr' i' hl
    obtain rfl : l = [] := List.length_eq_zero_iff.1 (by omega)
    rw [lns, lns]
    rfl
  | succ n ih =>
    intro l fr i fr' i' hl
    cases l with
    | nil => rw [lns, lns]; rfl
    | cons b r =>
      simp only [List.length_cons] at hl
      rw [lns, lns]
      by_cases h10 : b = 10
      · rw [if_pos h10, if_pos h10, List.length_cons, List.length_cons, ih r _ _ (i' + 1) (i' + 1) (by omega)]
      · rw [if_neg h10, if_neg h10]
        by_cases h13 : b = 13
        · rw [if_pos h13, if_pos h13]
          by_cases h2 : r.head? = some 10
          · rw [if_pos h2, if_pos h2, List.length_cons, List.length_cons, ih r.tail _ _ (i' + 2) (i' + 2) (by simp; omega)]
          · rw [if_neg h2, if_neg h2, List.length_cons, List.length_cons, ih r _ _ (i' + 1) (i' + 1) (by omega)]
        · rw [if_neg h13, if_neg h13, ih r _ _ fr' (i' + 1) (by omega)]
def nl (l : List Int) : Nat := (lns l 0 0).length
theorem nl_is (l : List Int) (fr i : Int) : (lns l fr i).length = nl l := lns_len l.length l fr i 0 0 (Nat.le_refl _)
theorem nl_nil : nl [] = 1 := by simp [nl, lns]
theorem nl_10 (r : List Int) : nl (10 :: r) = nl r + 1 := by rw [nl, lns, if_pos rfl, List.length_cons, nl_is]
theorem nl_1310 (r : List Int) : nl (13 :: 10 :: r) = nl r + 1 := by rw [nl, lns, if_neg (by decide), if_pos rfl, if_pos (show (10 :: r : List Int).head? = some 10 from rfl), List.length_cons, nl_is]; rfl
theorem nl_13 (r : List Int) (h : r.head? ≠ some 10) : nl (13 :: r) = nl r + 1 := by rw [nl, lns, if_neg (by decide), if_pos rfl, if_neg h, List.length_cons, nl_is]
theorem nl_else (b : Int) (r : List Int) (h : b ≠ 10) (h1 : b ≠ 13) : nl (b :: r) = nl r := by rw [nl, lns, if_neg h, if_neg h1, nl_is]

/-- 13 at the one's end and 10 at the other's beginning. -/
def Meet (a b : List Int) : Prop := a.getLast? = some 13 ∧ b.head? = some 10
theorem nl_two (n : Nat) : ∀ (a b : List Int), a.length ≤ n → (Meet a b → nl (a ++ b) + 2 = nl a + nl b) ∧ (¬ Meet a b → nl (a ++ b) + 1 = nl a + nl b) := by
  induction n with
  | zero =>
    intro a b hl
    obtain rfl : a = [] := List.length_eq_zero_iff.1 (by omega)
    rw [nl_nil, List.nil_append]
    exact ⟨fun h => by simp [Meet] at h, fun _ => by omega⟩
  | succ n ih =>
    intro a b hl
    cases a with
    | nil =>
      rw [nl_nil, List.nil_append]
      exact ⟨fun h => by simp [Meet] at h, fun _ => by omega⟩
    | cons x r =>
      simp only [List.length_cons] at hl
      have hm : r ≠ [] → (Meet (x :: r) b ↔ Meet r b) := fun hr => by
        cases r with
        | nil => exact absurd rfl hr
        | cons y r' => simp only [Meet, List.getLast?_cons_cons]
      have hr := ih r b (by omega)
      rw [List.cons_append]
      by_cases h10 : x = 10
      · subst h10
        rw [nl_10, nl_10]
        by_cases hn : r = []
        · subst hn
          have h2 := hr.2 (by simp [Meet])
          exact ⟨fun h => by simp [Meet] at h, fun _ => by omega⟩
        · rw [hm hn]
          exact ⟨fun h => by have := hr.1 h; omega, fun h => by have := hr.2 h; omega⟩
      · by_cases h13 : x = 13
        · subst h13
          cases r with
          | nil =>
            rw [List.nil_append, show nl [13] = 2 by rw [nl_13 _ (by simp), nl_nil]]
            by_cases hb : b.head? = some 10
            · obtain ⟨b', rfl⟩ : ∃ b', b = 10 :: b' := by
                cases b with
                | nil => simp at hb
                | cons y b' => simp at hb; subst hb; exact ⟨b', rfl⟩
              rw [nl_1310, nl_10]
              exact ⟨fun _ => by omega, fun h => absurd ⟨rfl, rfl⟩ h⟩
            · rw [nl_13 _ hb]
              exact ⟨fun h => absurd h.2 hb, fun _ => by omega⟩
          | cons y r' =>
            rw [hm (by simp)]
            by_cases hy : y = 10
            · subst hy
              rw [List.cons_append, nl_1310, nl_1310]
              simp only [List.length_cons] at hl
              have h2 := ih r' b (by omega)
              by_cases hn : r' = []
              · subst hn
                have h3 := h2.2 (by simp [Meet])
                exact ⟨fun h => by simp [Meet] at h, fun _ => by omega⟩
              · have hm2 : Meet (10 :: r') b ↔ Meet r' b := by
                  cases r' with
                  | nil => exact absurd rfl hn
                  | cons z r2 => simp only [Meet, List.getLast?_cons_cons]
                rw [hm2]
                exact ⟨fun h => by have := h2.1 h; omega, fun h => by have := h2.2 h; omega⟩
            · rw [nl_13 _ (by simpa using hy), nl_13 _ (by simpa using hy)]
              exact ⟨fun h => by have := hr.1 h; omega, fun h => by have := hr.2 h; omega⟩
        · rw [nl_else _ _ h10 h13, nl_else _ _ h10 h13]
          by_cases hn : r = []
          · subst hn
            have h2 := hr.2 (by simp [Meet])
            exact ⟨fun h => by simp [Meet] at h; omega, fun _ => by omega⟩
          · rw [hm hn]
            exact hr
end Go.Proofs.Ytogfaahdbecdnaa.B

/-
  Plain laws of characters: the document's Decode and Check come to the program's.
-/
namespace Go.Proofs.Ytogfaahdbecdnaa.B
open Go.RowKit Go.Proofs.YtogfaahdbecdnaaW.PrintWords Go.Proofs.YtogfaahdbecdnaaW.PrintLast Go.Proofs.YtogfaahdbecdnaaW.PrintMore Go.Proofs.Ytogfaahdbecdnaa.FBase
set_option linter.unusedVariables false

/-- A character, and its bytes. -/
def isC (c : Int) : Prop := 0 ≤ c ∧ c ≤ 1114111 ∧ ¬ (55296 ≤ c ∧ c ≤ 57343)
instance (c : Int) : Decidable (isC c) := by unfold isC; infer_instance
def enc (c : Int) : List Int :=
  if c < 128 then [c] else if c < 2048 then [192 + c / 64, 128 + c % 64] else if c < 65536 then [224 + c / 4096, 128 + c / 64 % 64, 128 + c % 64]
  else [240 + c / 262144, 128 + c / 4096 % 64, 128 + c / 64 % 64, 128 + c % 64]
theorem Is_f (c : Int) : colophonref01_Is.f c = some (decide (isC c)) := by
  unfold colophonref01_Is.f isC
  by_cases h0 : c ≥ 0
  · rw [if_pos h0]
    by_cases h1 : c ≤ 1114111
    · rw [if_pos h1]
      by_cases h2 : c ≥ 55296
      · rw [if_pos h2]
        congr 1
        by_cases h3 : c ≤ 57343
        · simp [h3]; omega
        · simp [h3]; omega
      · rw [if_neg h2]
        congr 1
        simp; omega
    · rw [if_neg h1]
      congr 1
      simp; omega
  · rw [if_neg h0]
    congr 1
    simp; omega
theorem Encode_f (c : Int) (h0 : 0 ≤ c) (h1 : c < 1099511627776) : colophonref01_Encode.f c = if isC c then some (enc c, 0) else some ([], 10) := by
  unfold colophonref01_Encode.f
  rw [Is_f, Option.bind_some]
  by_cases h : isC c
  · rw [if_pos h, if_pos (decide_eq_true h)]
    have hh := h.2.1
    unfold enc
    have d1 : Int.tdiv c 64 = c / 64 := Int.tdiv_eq_ediv_of_nonneg h0
    have d2 : Int.tdiv c 4096 = c / 4096 := Int.tdiv_eq_ediv_of_nonneg h0
    have d3 : Int.tdiv c 262144 = c / 262144 := Int.tdiv_eq_ediv_of_nonneg h0
    have e0 : Int.tmod c 64 = c % 64 := Int.tmod_eq_emod_of_nonneg h0
    rw [d1, d2, d3, e0, w64 (c / 64) (by omega) (by omega), w64 (c / 4096) (by omega) (by omega), w64 (c / 262144) (by omega) (by omega)]
    have e1 : Int.tmod (c / 64) 64 = c / 64 % 64 := Int.tmod_eq_emod_of_nonneg (by omega)
    have e2 : Int.tmod (c / 4096) 64 = c / 4096 % 64 := Int.tmod_eq_emod_of_nonneg (by omega)
    rw [e1, e2, w64 (192 + c / 64) (by omega) (by omega), w64 (128 + c % 64) (by omega) (by omega), w64 (224 + c / 4096) (by omega) (by omega), w64 (128 + c / 64 % 64) (by omega) (by omega), w64 (240 + c / 262144) (by omega) (by omega), w64 (128 + c / 4096 % 64) (by omega) (by omega)]
    split
    · rw [show c % 256 = c by omega]
    · split
      · rw [show (192 + c / 64) % 256 = 192 + c / 64 by omega, show (128 + c % 64) % 256 = 128 + c % 64 by omega]
      · split
        · rw [show (224 + c / 4096) % 256 = 224 + c / 4096 by omega, show (128 + c / 64 % 64) % 256 = 128 + c / 64 % 64 by omega, show (128 + c % 64) % 256 = 128 + c % 64 by omega]
        · rw [show (240 + c / 262144) % 256 = 240 + c / 262144 by omega, show (128 + c / 4096 % 64) % 256 = 128 + c / 4096 % 64 by omega, show (128 + c / 64 % 64) % 256 = 128 + c / 64 % 64 by omega, show (128 + c % 64) % 256 = 128 + c % 64 by omega]
  · rw [if_neg h, if_neg (by simpa using h)]
theorem EqBytes_l (a b : List Int) (hl : a.length = b.length) (hs : a.length ≤ 1048576) (n : Nat) : ∀ (k : Nat) (i : Int), 0 ≤ i → i ≤ a.length → (a.length : Int) - i ≤ n → n < k → colophonref00_EqBytes.l0 k a b i = some (decide (a.drop i.toNat = b.drop i.toNat)) := by
  induction n with
  | zero =>
    intro k i h0 h1 hn hk
    obtain ⟨k, rfl⟩ : ∃ m, k = m + 1 := ⟨k - 1, by omega⟩
    rw [colophonref00_EqBytes.l0, if_neg (by omega), show a.drop i.toNat = [] by rw [List.drop_eq_nil_iff]; omega, show b.drop i.toNat = [] by rw [List.drop_eq_nil_iff]; omega]
    rfl
  | succ n ih =>
    intro k i h0 h1 hn hk
    obtain ⟨k, rfl⟩ : ∃ m, k = m + 1 := ⟨k - 1, by omega⟩
    rw [colophonref00_EqBytes.l0]
    by_cases hi : i < (a.length : Int)
    · have ha : i.toNat < a.length := by omega
      have hb : i.toNat < b.length := by omega
      rw [if_pos hi, if_pos h0, if_pos (by omega)]
      rw [List.drop_eq_getElem_cons ha, List.drop_eq_getElem_cons hb]
      have e1 : rd a i = a[i.toNat] := by simp [rd, List.getD, ha]
      have e2 : rd b i = b[i.toNat] := by simp [rd, List.getD, hb]
      rw [e1, e2]
      by_cases he : a[i.toNat] = b[i.toNat]
      · rw [if_pos he, w64 _ (by omega) (by omega), ih k (i + 1) (by omega) (by omega) (by omega) (by omega), show (i + 1).toNat = i.toNat + 1 by omega]
        exact congrArg some (decide_eq_decide.2 ⟨fun h => by rw [he, h], fun h => (List.cons.inj h).2⟩)
      · rw [if_neg he]
        exact congrArg some (decide_eq_false (fun h => he (List.cons.inj h).1)).symm
    · rw [if_neg hi, show a.drop i.toNat = [] by rw [List.drop_eq_nil_iff]; omega, show b.drop i.toNat = [] by rw [List.drop_eq_nil_iff]; omega]
      rfl
theorem EqBytes_f (a b : List Int) (hs : a.length ≤ 1048576) {k : Nat} (hk : a.length < k) : colophonref00_EqBytes.f k a b = some (decide (a = b)) := by
  unfold colophonref00_EqBytes.f
  by_cases hl : a.length = b.length
  · rw [if_pos (by omega), EqBytes_l a b hl hs a.length k 0 (Int.le_refl _) (by omega) (by omega) hk]
    simp
  · rw [if_neg (by omega)]
    congr 1
    rw [eq_comm, decide_eq_false_iff_not]
    rintro rfl
    exact hl rfl

/-- The number that bytes would have. -/
def jn : Nat → List Int → Int
  | 1, b :: _ => b
  | 2, b :: b1 :: _ => (b % 32) * 64 + b1 % 64
  | 3, b :: b1 :: b2 :: _ => ((b % 16) * 64 + b1 % 64) * 64 + b2 % 64
  | 4, b :: b1 :: b2 :: b3 :: _ => (((b % 8) * 64 + b1 % 64) * 64 + b2 % 64) * 64 + b3 % 64
  | _, _ => 0
theorem tm (x m : Int) (h : 0 ≤ x) : Int.tmod x m = x % m := Int.tmod_eq_emod_of_nonneg h
theorem joined_1 (b : Int) (t : List Int) (h : Bytes (b :: t)) {k : Nat} (hk : 5 ≤ k) : colophonref01_joined.f k (b :: t) 1 = some b := by
  have hb := h b (by simp)
  refine LeO_le (fun k => colophonref01_joined.mono (b :: t) 1 k) hk ?_
  simp only [colophonref01_joined.f, colophonref01_joined.j0, colophonref01_joined.j1, colophonref01_joined.j2, colophonref01_joined.l0, rd0, w64 b (by omega) (by omega)]
  rw [if_pos (by simp), if_neg (by decide), if_neg (by decide), if_neg (by decide), if_neg (by decide)]
theorem joined_2 (b b1 : Int) (t : List Int) (h : Bytes (b :: b1 :: t)) {k : Nat} (hk : 6 ≤ k) : colophonref01_joined.f k (b :: b1 :: t) 2 = some ((b % 32) * 64 + b1 % 64) := by
  have hb := h b (by simp)
  have hb1 := h b1 (by simp)
  refine LeO_le (fun k => colophonref01_joined.mono (b :: b1 :: t) 2 k) hk ?_
  simp only [colophonref01_joined.f, colophonref01_joined.j0, colophonref01_joined.j1, colophonref01_joined.j2, colophonref01_joined.l0, rd0, rd1, ww1, w64 b (by omega) (by omega), w64 b1 (by omega) (by omega), len1]
  rw [if_pos (by omega), if_pos trivial, if_neg (by decide), if_neg (by decide), if_pos (by decide), if_pos (by decide), if_pos (by omega), if_neg (by decide), tm b 32 (by omega), tm b1 64 (by omega), w64 (b % 32 * 64) (by omega) (by omega), w64 _ (by omega) (by omega)]
theorem joined_3 (b b1 b2 : Int) (t : List Int) (h : Bytes (b :: b1 :: b2 :: t)) {k : Nat} (hk : 7 ≤ k) : colophonref01_joined.f k (b :: b1 :: b2 :: t) 3 = some (((b % 16) * 64 + b1 % 64) * 64 + b2 % 64) := by
  have hb := h b (by simp)
  have hb1 := h b1 (by simp)
  have hb2 := h b2 (by simp)
  refine LeO_le (fun k => colophonref01_joined.mono (b :: b1 :: b2 :: t) 3 k) hk ?_
  simp only [colophonref01_joined.f, colophonref01_joined.j0, colophonref01_joined.j1, colophonref01_joined.j2, colophonref01_joined.l0, rd0, rd1, rd2, ww1, ww2, w64 b (by omega) (by omega), w64 b1 (by omega) (by omega), w64 b2 (by omega) (by omega), len1]
  rw [if_pos (by omega), if_neg (by decide), if_pos trivial, if_neg (by decide), if_pos (by decide), if_pos (by decide), if_pos (by omega), if_pos (by decide), if_pos (by decide), if_pos (by omega), if_neg (by decide), tm b 16 (by omega), tm b1 64 (by omega), tm b2 64 (by omega), w64 (b % 16 * 64) (by omega) (by omega), w64 (b % 16 * 64 + b1 % 64) (by omega) (by omega), w64 ((b % 16 * 64 + b1 % 64) * 64) (by omega) (by omega), w64 _ (by omega) (by omega)]
theorem joined_4 (b b1 b2 b3 : Int) (t : List Int) (h : Bytes (b :: b1 :: b2 :: b3 :: t)) {k : Nat} (hk : 8 ≤ k) : colophonref01_joined.f k (b :: b1 :: b2 :: b3 :: t) 4 = some ((((b % 8) * 64 + b1 % 64) * 64 + b2 % 64) * 64 + b3 % 64) := by
  have hb := h b (by simp)
  have hb1 := h b1 (by simp)
  have hb2 := h b2 (by simp)
  have hb3 := h b3 (by simp)
  refine LeO_le (fun k => colophonref01_joined.mono (b :: b1 :: b2 :: b3 :: t) 4 k) hk ?_
  simp only [colophonref01_joined.f, colophonref01_joined.j0, colophonref01_joined.j1, colophonref01_joined.j2, colophonref01_joined.l0, rd0, rd1, rd2, rd3, ww1, ww2, ww3, w64 b (by omega) (by omega), w64 b1 (by omega) (by omega), w64 b2 (by omega) (by omega), w64 b3 (by omega) (by omega), len1]
  rw [if_pos (by omega), if_neg (by decide), if_neg (by decide), if_pos trivial, if_pos (by decide), if_pos (by decide), if_pos (by omega), if_pos (by decide), if_pos (by decide), if_pos (by omega), if_pos (by decide), if_pos (by decide), if_pos (by omega), if_neg (by decide), tm b 8 (by omega), tm b1 64 (by omega), tm b2 64 (by omega), tm b3 64 (by omega), w64 (b % 8 * 64) (by omega) (by omega), w64 (b % 8 * 64 + b1 % 64) (by omega) (by omega), w64 ((b % 8 * 64 + b1 % 64) * 64) (by omega) (by omega), w64 ((b % 8 * 64 + b1 % 64) * 64 + b2 % 64) (by omega) (by omega), w64 (((b % 8 * 64 + b1 % 64) * 64 + b2 % 64) * 64) (by omega) (by omega), w64 _ (by omega) (by omega)]
theorem joined_f (y : List Int) (h : Bytes y) (n : Nat) (h1 : 1 ≤ n) (h4 : n ≤ 4) (hl : n ≤ y.length) {k : Nat} (hk : 8 ≤ k) : colophonref01_joined.f k y n = some (jn n y) := by
  match y, n, h1, h4, hl with
  | b :: t, 1, _, _, _ => exact joined_1 b t h (by omega)
  | b :: b1 :: t, 2, _, _, _ => exact joined_2 b b1 t h (by omega)
  | b :: b1 :: b2 :: t, 3, _, _, _ => exact joined_3 b b1 b2 t h (by omega)
  | b :: b1 :: b2 :: b3 :: t, 4, _, _, _ => exact joined_4 b b1 b2 b3 t h (by omega)
  | _, n + 5, _, h4, _ => exact absurd h4 (by omega)
  | [], _ + 1, _, _, hl => exact absurd hl (by simp)
  | [_], _ + 2, _, _, hl => exact absurd hl (by simp)
  | [_, _], _ + 3, _, _, hl => exact absurd hl (by simp)
  | [_, _, _], _ + 4, _, _, hl => exact absurd hl (by simp)
theorem jn_nn (y : List Int) (h : Bytes y) (n : Nat) : 0 ≤ jn n y ∧ jn n y < 2097152 := by
  unfold jn
  split
  · have := h _ List.mem_cons_self; omega
  · omega
  · omega
  · omega
  · omega
end Go.Proofs.Ytogfaahdbecdnaa.B

/-
  Plain laws of characters: the document's Decode and Check come to the program's.
-/
namespace Go.Proofs.Ytogfaahdbecdnaa.B
open Go.RowKit Go.Proofs.YtogfaahdbecdnaaW.PrintWords Go.Proofs.YtogfaahdbecdnaaW.PrintLast Go.Proofs.YtogfaahdbecdnaaW.PrintMore Go.Proofs.Ytogfaahdbecdnaa.FBase
set_option linter.unusedVariables false

theorem enc_len (c : Int) : 1 ≤ (enc c).length ∧ (enc c).length ≤ 4 := by
  unfold enc
  split
  · simp
  · split
    · simp
    · split <;> simp
theorem enc_1 {c : Int} (h : c < 128) : enc c = [c] := by unfold enc; rw [if_pos h]
theorem enc_2 {c : Int} (h : 128 ≤ c) (h1 : c < 2048) : enc c = [192 + c / 64, 128 + c % 64] := by unfold enc; rw [if_neg (by omega), if_pos h1]
theorem enc_3 {c : Int} (h : 2048 ≤ c) (h1 : c < 65536) : enc c = [224 + c / 4096, 128 + c / 64 % 64, 128 + c % 64] := by unfold enc; rw [if_neg (by omega), if_neg (by omega), if_pos h1]
theorem enc_4 {c : Int} (h : 65536 ≤ c) : enc c = [240 + c / 262144, 128 + c / 4096 % 64, 128 + c / 64 % 64, 128 + c % 64] := by unfold enc; rw [if_neg (by omega), if_neg (by omega), if_neg (by omega)]
theorem enc_len2 {c : Int} (h : (enc c).length = 2) : 128 ≤ c ∧ c < 2048 := by
  unfold enc at h
  split at h
  · simp at h
  · split at h
    · omega
    · split at h <;> simp at h
theorem enc_len3 {c : Int} (h : (enc c).length = 3) : 2048 ≤ c ∧ c < 65536 := by
  unfold enc at h
  split at h
  · simp at h
  · split at h
    · simp at h
    · split at h
      · omega
      · simp at h
theorem enc_len4 {c : Int} (h : (enc c).length = 4) : 65536 ≤ c := by
  unfold enc at h
  split at h
  · simp at h
  · split at h
    · simp at h
    · split at h
      · simp at h
      · omega

/-- One candidate of begins. -/
def T (y : List Int) (n : Nat) (lo hi c : Int) : Prop := isC c ∧ lo ≤ c ∧ c ≤ hi ∧ (enc c).length = n ∧ (enc c).take y.length = y
instance (y : List Int) (n : Nat) (lo hi c : Int) : Decidable (T y n lo hi c) := by unfold T; infer_instance
theorem l2_step (k : Nat) (hk : 5 ≤ k) (y : List Int) (n : Nat) (hy : y.length < n) (hn : n ≤ 4) (lo hi x8 c : Int) (h0 : 0 ≤ x8) (h4 : x8 < 4) (hc : rd [mx lo (rd [0, 0, 128, 2048, 65536] (n : Int)), 57344, hi, lo] x8 = c) (c0 : 0 ≤ c) (c1 : c < 1099511627776) :
    colophonref01_begins.l2 (k + 1) y n lo hi x8 = if T y n lo hi c then some true else colophonref01_begins.l2 k y n lo hi (x8 + 1) := by
  rw [colophonref01_begins.l2, if_pos h4]
  simp only [Option.bind_some]
  rw [if_pos (by omega), if_pos (by simp; omega), if_pos h0, if_pos (by simp; omega), hc, Encode_f c c0 c1, w64 (x8 + 1) (by omega) (by omega)]
  by_cases hC : isC c
  · rw [if_pos hC]
    simp only [Option.bind_some]
    rw [if_pos trivial]
    by_cases h1 : lo ≤ c
    · rw [if_pos h1]
      by_cases h2 : c ≤ hi
      · rw [if_pos h2]
        by_cases h3 : (enc c).length = n
        · have hl := enc_len c
          rw [if_pos (by omega), if_pos (by omega), if_pos (by omega), Int.toNat_natCast, EqBytes_f _ _ (by rw [List.length_take]; omega) (by rw [List.length_take]; omega), Option.bind_some]
          by_cases h5 : (enc c).take y.length = y
          · rw [if_pos (decide_eq_true h5), if_pos (show T y n lo hi c from ⟨hC, h1, h2, h3, h5⟩)]
          · rw [if_neg (by simpa using h5), if_neg (fun h : T y n lo hi c => h5 h.2.2.2.2)]
        · rw [if_neg (by omega), if_neg (fun h : T y n lo hi c => h3 h.2.2.2.1)]
      · rw [if_neg h2, if_neg (fun h : T y n lo hi c => h2 h.2.2.1)]
    · rw [if_neg h1, if_neg (fun h : T y n lo hi c => h1 h.2.1)]
  · rw [if_neg hC]
    simp only [Option.bind_some]
    rw [if_neg (fun h : T y n lo hi c => hC h.1)]
    rfl
theorem l2_all (k : Nat) (hk : 5 ≤ k) (y : List Int) (n : Nat) (hy : y.length < n) (hn : n ≤ 4) (lo hi : Int) (E : Prop) [Decidable E] (h1 : ∀ c, T y n lo hi c → E) (h2 : E → T y n lo hi (mx lo (rd [0, 0, 128, 2048, 65536] (n : Int))))
    (l0 : 0 ≤ lo) (l1 : lo ≤ hi) (l2 : hi < 2097152) (m0 : 0 ≤ mx lo (rd [0, 0, 128, 2048, 65536] (n : Int))) (m1 : mx lo (rd [0, 0, 128, 2048, 65536] (n : Int)) < 2097152) :
    colophonref01_begins.l2 (k + 5) y n lo hi 0 = if E then some true else colophonref01_begins.l0 k y (n + 1) := by
  rw [l2_step (k + 4) (by omega) y n hy hn lo hi 0 (mx lo (rd [0, 0, 128, 2048, 65536] (n : Int))) (by decide) (by decide) rfl m0 (by omega)]
  by_cases hE : E
  · rw [if_pos (h2 hE), if_pos hE]
  · rw [if_neg (fun h => hE (h1 _ h)), if_neg hE, show (0 : Int) + 1 = 1 from rfl, l2_step (k + 3) (by omega) y n hy hn lo hi 1 57344 (by decide) (by decide) rfl (by decide) (by decide), if_neg (fun h => hE (h1 _ h)),
      show (1 : Int) + 1 = 2 from rfl, l2_step (k + 2) (by omega) y n hy hn lo hi 2 hi (by decide) (by decide) rfl (by omega) (by omega), if_neg (fun h => hE (h1 _ h)),
      show (2 : Int) + 1 = 3 from rfl, l2_step (k + 1) (by omega) y n hy hn lo hi 3 lo (by decide) (by decide) rfl (by omega) (by omega), if_neg (fun h => hE (h1 _ h)),
      show (3 : Int) + 1 = 4 from rfl, colophonref01_begins.l2, if_neg (by decide), w64 _ (by omega) (by omega)]
theorem l1_end (k : Nat) (hk : 8 ≤ k) (y lo hi : List Int) (n : Nat) (h1 : 1 ≤ n) (hn : n ≤ 4) (hlo : lo.length = n) (hhi : hi.length = n) (blo : Bytes lo) (bhi : Bytes hi) :
    colophonref01_begins.l1 (k + 1) y n lo hi = colophonref01_begins.l2 k y n (jn n lo) (jn n hi) 0 := by
  rw [colophonref01_begins.l1, if_neg (by omega), joined_f lo blo n h1 hn (by omega) hk, joined_f hi bhi n h1 hn (by omega) hk]
  rfl
theorem l1_step (k : Nat) (y lo hi : List Int) (n : Nat) (hn : n ≤ 4) (hlo : lo.length < n) (hhi : hi.length < n) :
    colophonref01_begins.l1 (k + 1) y n lo hi = colophonref01_begins.l1 k y n (lo ++ [128]) (hi ++ [191]) := by
  rw [colophonref01_begins.l1, if_pos (by omega), if_pos (by omega), if_pos (by omega)]
theorem l0_step (k : Nat) (y : List Int) (n : Nat) (hn : n ≤ 4) (hy : y.length ≤ 4) : colophonref01_begins.l0 (k + 1) y n = colophonref01_begins.l1 k y n y y := by
  rw [colophonref01_begins.l0, if_pos (by omega)]
  simp only [Option.bind_some, List.nil_append, List.length_nil]
  rw [if_pos (by omega), if_pos (by omega)]
theorem l0_end (k : Nat) (y : List Int) : colophonref01_begins.l0 (k + 1) y 5 = some false := by
  rw [colophonref01_begins.l0, if_neg (by decide)]
theorem Bytes.add {y : List Int} (h : Bytes y) (c : Int) (h0 : 0 ≤ c) (h1 : c < 256) : Bytes (y ++ [c]) := fun x hx => by
  rcases List.mem_append.1 hx with hx | hx
  · exact h x hx
  · rw [List.mem_singleton] at hx; subst hx; exact ⟨h0, h1⟩
theorem round1 (k : Nat) (hk : 5 ≤ k) (y : List Int) (hy : Bytes y) (n : Nat) (hn : n ≤ 4) (hl : y.length + 1 = n) (E : Prop) [Decidable E] (h1 : ∀ c, T y n (jn n (y ++ [128])) (jn n (y ++ [191])) c → E)
    (h2 : E → T y n (jn n (y ++ [128])) (jn n (y ++ [191])) (mx (jn n (y ++ [128])) (rd [0, 0, 128, 2048, 65536] (n : Int)))) (hle : jn n (y ++ [128]) ≤ jn n (y ++ [191])) (m0 : 0 ≤ mx (jn n (y ++ [128])) (rd [0, 0, 128, 2048, 65536] (n : Int))) (m1 : mx (jn n (y ++ [128])) (rd [0, 0, 128, 2048, 65536] (n : Int)) < 2097152) :
    colophonref01_begins.l0 (k + 8) y n = if E then some true else colophonref01_begins.l0 k y (n + 1) := by
  have b1 := hy.add 128 (by decide) (by decide)
  have b2 := hy.add 191 (by decide) (by decide)
  rw [l0_step (k + 7) y n hn (by omega), l1_step (k + 6) y y y n hn (by omega) (by omega), l1_end (k + 5) (by omega) y _ _ n (by omega) hn (by simp; omega) (by simp; omega) b1 b2]
  exact l2_all k hk y n (by omega) hn _ _ E h1 h2 (jn_nn _ b1 n).1 hle (jn_nn _ b2 n).2 m0 m1
theorem round2 (k : Nat) (hk : 5 ≤ k) (y : List Int) (hy : Bytes y) (n : Nat) (hn : n ≤ 4) (hl : y.length + 2 = n) (E : Prop) [Decidable E] (h1 : ∀ c, T y n (jn n (y ++ [128] ++ [128])) (jn n (y ++ [191] ++ [191])) c → E)
    (h2 : E → T y n (jn n (y ++ [128] ++ [128])) (jn n (y ++ [191] ++ [191])) (mx (jn n (y ++ [128] ++ [128])) (rd [0, 0, 128, 2048, 65536] (n : Int)))) (hle : jn n (y ++ [128] ++ [128]) ≤ jn n (y ++ [191] ++ [191])) (m0 : 0 ≤ mx (jn n (y ++ [128] ++ [128])) (rd [0, 0, 128, 2048, 65536] (n : Int))) (m1 : mx (jn n (y ++ [128] ++ [128])) (rd [0, 0, 128, 2048, 65536] (n : Int)) < 2097152) :
    colophonref01_begins.l0 (k + 9) y n = if E then some true else colophonref01_begins.l0 k y (n + 1) := by
  have b1 := (hy.add 128 (by decide) (by decide)).add 128 (by decide) (by decide)
  have b2 := (hy.add 191 (by decide) (by decide)).add 191 (by decide) (by decide)
  rw [l0_step (k + 8) y n hn (by omega), l1_step (k + 7) y y y n hn (by omega) (by omega), l1_step (k + 6) y _ _ n hn (by simp; omega) (by simp; omega), l1_end (k + 5) (by omega) y _ _ n (by omega) hn (by simp; omega) (by simp; omega) b1 b2]
  exact l2_all k hk y n (by omega) hn _ _ E h1 h2 (jn_nn _ b1 n).1 hle (jn_nn _ b2 n).2 m0 m1
theorem round3 (k : Nat) (hk : 5 ≤ k) (y : List Int) (hy : Bytes y) (n : Nat) (hn : n ≤ 4) (hl : y.length + 3 = n) (E : Prop) [Decidable E] (h1 : ∀ c, T y n (jn n (y ++ [128] ++ [128] ++ [128])) (jn n (y ++ [191] ++ [191] ++ [191])) c → E)
    (h2 : E → T y n (jn n (y ++ [128] ++ [128] ++ [128])) (jn n (y ++ [191] ++ [191] ++ [191])) (mx (jn n (y ++ [128] ++ [128] ++ [128])) (rd [0, 0, 128, 2048, 65536] (n : Int)))) (hle : jn n (y ++ [128] ++ [128] ++ [128]) ≤ jn n (y ++ [191] ++ [191] ++ [191])) (m0 : 0 ≤ mx (jn n (y ++ [128] ++ [128] ++ [128])) (rd [0, 0, 128, 2048, 65536] (n : Int))) (m1 : mx (jn n (y ++ [128] ++ [128] ++ [128])) (rd [0, 0, 128, 2048, 65536] (n : Int)) < 2097152) :
    colophonref01_begins.l0 (k + 10) y n = if E then some true else colophonref01_begins.l0 k y (n + 1) := by
  have b1 := ((hy.add 128 (by decide) (by decide)).add 128 (by decide) (by decide)).add 128 (by decide) (by decide)
  have b2 := ((hy.add 191 (by decide) (by decide)).add 191 (by decide) (by decide)).add 191 (by decide) (by decide)
  rw [l0_step (k + 9) y n hn (by omega), l1_step (k + 8) y y y n hn (by omega) (by omega), l1_step (k + 7) y _ _ n hn (by simp; omega) (by simp; omega), l1_step (k + 6) y _ _ n hn (by simp; omega) (by simp; omega), l1_end (k + 5) (by omega) y _ _ n (by omega) hn (by simp; omega) (by simp; omega) b1 b2]
  exact l2_all k hk y n (by omega) hn _ _ E h1 h2 (jn_nn _ b1 n).1 hle (jn_nn _ b2 n).2 m0 m1
end Go.Proofs.Ytogfaahdbecdnaa.B

/-
  Plain laws of characters: the document's Decode and Check come to the program's.
-/
namespace Go.Proofs.Ytogfaahdbecdnaa.B
open Go.RowKit Go.Proofs.YtogfaahdbecdnaaW.PrintWords Go.Proofs.YtogfaahdbecdnaaW.PrintLast Go.Proofs.YtogfaahdbecdnaaW.PrintMore Go.Proofs.Ytogfaahdbecdnaa.FBase
set_option linter.unusedVariables false

theorem mx_le (a b : Int) (h : a ≤ b) : mx a b = b := by unfold mx; split <;> omega
theorem mx_ge (a b : Int) (h : b ≤ a) : mx a b = a := by unfold mx; split <;> omega
theorem tab2 : rd [0, 0, 128, 2048, 65536] ((2 : Nat) : Int) = 128 := rfl
theorem tab3 : rd [0, 0, 128, 2048, 65536] ((3 : Nat) : Int) = 2048 := rfl
theorem tab4 : rd [0, 0, 128, 2048, 65536] ((4 : Nat) : Int) = 65536 := rfl
theorem mx_range (a b : Int) (h0 : 0 ≤ a) (h1 : a < 2097152) (h2 : 0 ≤ b) (h3 : b < 2097152) : 0 ≤ mx a b ∧ mx a b < 2097152 := by unfold mx; split <;> omega

/-- A proper beginning of a character's bytes. -/
def Low (b b1 : Int) : Prop := lowOf b ≤ b1 ∧ b1 ≤ highOf b
instance (b b1 : Int) : Decidable (Low b b1) := by unfold Low; infer_instance
def E34 (b b1 b2 : Int) : Prop := 240 ≤ b ∧ b ≤ 244 ∧ Low b b1 ∧ 128 ≤ b2 ∧ b2 ≤ 191
instance (b b1 b2 : Int) : Decidable (E34 b b1 b2) := by unfold E34; infer_instance
def E23 (b b1 : Int) : Prop := 224 ≤ b ∧ b < 240 ∧ Low b b1
instance (b b1 : Int) : Decidable (E23 b b1) := by unfold E23; infer_instance
def E24 (b b1 : Int) : Prop := 240 ≤ b ∧ b ≤ 244 ∧ Low b b1
instance (b b1 : Int) : Decidable (E24 b b1) := by unfold E24; infer_instance

theorem begins_34 (k : Nat) (hk : 5 ≤ k) (b b1 b2 : Int) (h : Bytes [b, b1, b2]) : colophonref01_begins.l0 (k + 8) [b, b1, b2] 4 = if E34 b b1 b2 then some true else colophonref01_begins.l0 k [b, b1, b2] 5 := by
  have hb := h b (by simp)
  have hb1 := h b1 (by simp)
  have hb2 := h b2 (by simp)
  have m := mx_range (jn 4 ([b, b1, b2] ++ [128])) 65536 (jn_nn _ (h.add 128 (by decide) (by decide)) 4).1 (jn_nn _ (h.add 128 (by decide) (by decide)) 4).2 (by decide) (by decide)
  refine round1 k hk [b, b1, b2] h 4 (by decide) rfl (E34 b b1 b2) (fun c hT => ?_) (fun hE => ?_) (by simp [jn]; omega) m.1 m.2
  · obtain ⟨⟨c0, c1, c2⟩, hlo, hhi, hl, ht⟩ := hT
    rw [enc_4 (enc_len4 hl)] at ht
    simp [jn] at hlo hhi ht
    have := enc_len4 hl
    unfold E34 Low lowOf highOf
    refine ⟨by omega, by omega, ⟨?_, ?_⟩, by omega, by omega⟩
    · split
      · omega
      · split <;> omega
    · split
      · omega
      · split <;> omega
  · obtain ⟨e1, e2, ⟨e3, e4⟩, e5, e6⟩ := hE
    unfold lowOf at e3
    unfold highOf at e4
    have hge : 65536 ≤ jn 4 ([b, b1, b2] ++ [128]) := by
      simp [jn]
      rw [if_neg (by omega)] at e3
      split at e3 <;> omega
    rw [tab4, mx_ge _ _ hge]
    have hle : jn 4 ([b, b1, b2] ++ [128]) ≤ 1114111 := by
      simp [jn]
      rw [if_neg (by omega)] at e4
      split at e4 <;> omega
    have hle2 : jn 4 ([b, b1, b2] ++ [128]) ≤ jn 4 ([b, b1, b2] ++ [191]) := by simp [jn]; omega
    refine ⟨⟨by omega, hle, by omega⟩, Int.le_refl _, hle2, by rw [enc_4 hge]; rfl, ?_⟩
    rw [enc_4 hge]
    have b1r : 128 ≤ b1 ∧ b1 < 192 := by
      rw [if_neg (by omega)] at e3
      rw [if_neg (by omega)] at e4
      constructor
      · split at e3 <;> omega
      · split at e4 <;> omega
    simp [jn]
    refine ⟨by omega, by omega, by omega⟩
theorem begins_23 (k : Nat) (hk : 5 ≤ k) (b b1 : Int) (h : Bytes [b, b1]) : colophonref01_begins.l0 (k + 8) [b, b1] 3 = if E23 b b1 then some true else colophonref01_begins.l0 k [b, b1] 4 := by
  have hb := h b (by simp)
  have hb1 := h b1 (by simp)
  have m := mx_range (jn 3 ([b, b1] ++ [128])) 2048 (jn_nn _ (h.add 128 (by decide) (by decide)) 3).1 (jn_nn _ (h.add 128 (by decide) (by decide)) 3).2 (by decide) (by decide)
  refine round1 k hk [b, b1] h 3 (by decide) rfl (E23 b b1) (fun c hT => ?_) (fun hE => ?_) (by simp [jn]; omega) m.1 m.2
  · obtain ⟨⟨c0, c1, c2⟩, hlo, hhi, hl, ht⟩ := hT
    have h3 := enc_len3 hl
    rw [enc_3 h3.1 h3.2] at ht
    simp [jn] at hlo hhi ht
    unfold E23 Low lowOf highOf
    refine ⟨by omega, by omega, ?_, ?_⟩
    · split
      · omega
      · split <;> omega
    · split
      · omega
      · split <;> omega
  · obtain ⟨e1, e2, e3, e4⟩ := hE
    unfold lowOf at e3
    unfold highOf at e4
    have hge : 2048 ≤ jn 3 ([b, b1] ++ [128]) := by
      simp [jn]
      split at e3
      · omega
      · rw [if_neg (by omega)] at e3; omega
    have b1r : 128 ≤ b1 ∧ b1 < 192 := by
      constructor
      · split at e3
        · omega
        · split at e3 <;> omega
      · split at e4
        · omega
        · split at e4 <;> omega
    rw [tab3, mx_ge _ _ hge]
    have hle : jn 3 ([b, b1] ++ [128]) < 65536 := by simp [jn]; omega
    have hsur : ¬ (55296 ≤ jn 3 ([b, b1] ++ [128]) ∧ jn 3 ([b, b1] ++ [128]) ≤ 57343) := by
      simp [jn]
      split at e4 <;> omega
    have hle2 : jn 3 ([b, b1] ++ [128]) ≤ jn 3 ([b, b1] ++ [191]) := by simp [jn]; omega
    refine ⟨⟨by omega, by omega, hsur⟩, Int.le_refl _, hle2, by rw [enc_3 hge hle]; rfl, ?_⟩
    rw [enc_3 hge hle]
    simp [jn]
    refine ⟨by omega, by omega⟩
theorem begins_24 (k : Nat) (hk : 5 ≤ k) (b b1 : Int) (h : Bytes [b, b1]) : colophonref01_begins.l0 (k + 9) [b, b1] 4 = if E24 b b1 then some true else colophonref01_begins.l0 k [b, b1] 5 := by
  have hb := h b (by simp)
  have hb1 := h b1 (by simp)
  have bb := (h.add 128 (by decide) (by decide)).add 128 (by decide) (by decide)
  have m := mx_range (jn 4 ([b, b1] ++ [128] ++ [128])) 65536 (jn_nn _ bb 4).1 (jn_nn _ bb 4).2 (by decide) (by decide)
  refine round2 k hk [b, b1] h 4 (by decide) rfl (E24 b b1) (fun c hT => ?_) (fun hE => ?_) (by simp [jn]; omega) m.1 m.2
  · obtain ⟨⟨c0, c1, c2⟩, hlo, hhi, hl, ht⟩ := hT
    have h3 := enc_len4 hl
    rw [enc_4 h3] at ht
    simp [jn] at hlo hhi ht
    unfold E24 Low lowOf highOf
    refine ⟨by omega, by omega, ?_, ?_⟩
    · split
      · omega
      · split <;> omega
    · split
      · omega
      · split <;> omega
  · obtain ⟨e1, e2, e3, e4⟩ := hE
    unfold lowOf at e3
    unfold highOf at e4
    rw [if_neg (by omega)] at e3 e4
    have b1r : 128 ≤ b1 ∧ b1 < 192 := by
      constructor
      · split at e3 <;> omega
      · split at e4 <;> omega
    have hge : 65536 ≤ jn 4 ([b, b1] ++ [128] ++ [128]) := by
      simp [jn]
      split at e3 <;> omega
    rw [tab4, mx_ge _ _ hge]
    have hle : jn 4 ([b, b1] ++ [128] ++ [128]) ≤ 1114111 := by
      simp [jn]
      split at e4 <;> omega
    have hle2 : jn 4 ([b, b1] ++ [128] ++ [128]) ≤ jn 4 ([b, b1] ++ [191] ++ [191]) := by simp [jn]; omega
    refine ⟨⟨by omega, hle, by omega⟩, Int.le_refl _, hle2, by rw [enc_4 hge]; rfl, ?_⟩
    rw [enc_4 hge]
    simp [jn]
    refine ⟨by omega, by omega⟩
theorem begins_one : ∀ b : Fin 256, colophonref01_begins.f 40 [((b.val : Nat) : Int)] = some (decide (194 ≤ b.val ∧ b.val ≤ 244)) := by decide +kernel
theorem begins_1 (b : Int) (h0 : 0 ≤ b) (h1 : b < 256) : colophonref01_begins.f 40 [b] = some (decide (194 ≤ b ∧ b ≤ 244)) := by
  have := begins_one ⟨b.toNat, by omega⟩
  simp only [Int.toNat_of_nonneg h0] at this
  rw [this]
  congr 1
  exact decide_eq_decide.2 (by omega)
theorem begins_2 (b b1 : Int) (h : Bytes [b, b1]) : colophonref01_begins.f 40 [b, b1] = some (decide (224 ≤ b ∧ b ≤ 244 ∧ Low b b1)) := by
  unfold colophonref01_begins.f
  rw [show wrap64 (([b, b1].length : Nat) + 1 : Int) = 3 from w64 3 (by decide) (by decide), begins_23 32 (by decide) b b1 h]
  by_cases h1 : E23 b b1
  · rw [if_pos h1]
    exact congrArg some (decide_eq_true ⟨h1.1, by have := h1.2.1; omega, h1.2.2⟩).symm
  · rw [if_neg h1, begins_24 23 (by decide) b b1 h]
    by_cases h2 : E24 b b1
    · rw [if_pos h2]
      exact congrArg some (decide_eq_true ⟨by have := h2.1; omega, h2.2.1, h2.2.2⟩).symm
    · rw [if_neg h2, l0_end]
      refine congrArg some (decide_eq_false (fun h3 => ?_)).symm
      rcases Int.lt_or_le b 240 with h4 | h4
      · exact h1 ⟨h3.1, h4, h3.2.2⟩
      · exact h2 ⟨h4, h3.2.1, h3.2.2⟩
theorem begins_3 (b b1 b2 : Int) (h : Bytes [b, b1, b2]) : colophonref01_begins.f 40 [b, b1, b2] = some (decide (E34 b b1 b2)) := by
  unfold colophonref01_begins.f
  rw [show wrap64 (([b, b1, b2].length : Nat) + 1 : Int) = 4 from w64 4 (by decide) (by decide), begins_34 32 (by decide) b b1 b2 h]
  by_cases h1 : E34 b b1 b2
  · rw [if_pos h1]
    exact congrArg some (decide_eq_true h1).symm
  · rw [if_neg h1, l0_end]
    exact congrArg some (decide_eq_false h1).symm
end Go.Proofs.Ytogfaahdbecdnaa.B

/-
  Plain laws of characters: the document's Decode and Check come to the program's.
-/
namespace Go.Proofs.Ytogfaahdbecdnaa.B
open Go.RowKit Go.Proofs.YtogfaahdbecdnaaW.PrintWords Go.Proofs.YtogfaahdbecdnaaW.PrintLast Go.Proofs.YtogfaahdbecdnaaW.PrintMore Go.Proofs.Ytogfaahdbecdnaa.FBase
set_option linter.unusedVariables false

theorem D_step (k : Nat) (hk : 8 ≤ k) (y : List Int) (h : Bytes y) (n : Nat) (h1 : 1 ≤ n) (h4 : n ≤ 4) (hl : n ≤ y.length) :
    colophonref01_Decode.l0 (k + 2) y n = if isC (jn n y) ∧ enc (jn n y) = y.take n then some (jn n y, (n : Int), 0) else colophonref01_Decode.l0 k y (n + 1) := by
  have hj := jn_nn y h n
  have he := enc_len (jn n y)
  rw [colophonref01_Decode.l0, if_pos (by omega), colophonref01_Decode.j2, if_pos (decide_eq_true (by omega)), joined_f y h n h1 h4 hl hk, Option.bind_some, Encode_f _ hj.1 (by omega), w64 _ (by omega) (by omega)]
  by_cases hC : isC (jn n y)
  · rw [if_pos hC]
    simp only [Option.bind_some]
    rw [if_pos trivial, if_pos (by omega), if_pos (by omega), Int.toNat_natCast, EqBytes_f _ _ (by omega) (by omega), Option.bind_some]
    by_cases hE : enc (jn n y) = y.take n
    · rw [if_pos (decide_eq_true hE), if_pos ⟨hC, hE⟩]
    · rw [if_neg (by simpa using hE), if_neg (fun h => hE h.2)]
  · rw [if_neg hC, if_neg (fun h => hC h.1)]
    rfl
theorem D_end (k : Nat) (y : List Int) (n : Nat) (h : 4 < n ∨ y.length < n) :
    colophonref01_Decode.l0 (k + 2) y n = if y.length < 4 then ((colophonref01_begins.f k y).bind fun t => if t = true then some (0, 0, 3) else some (0, 0, 10)) else some (0, 0, 10) := by
  rw [colophonref01_Decode.l0]
  have e : (if (n : Int) ≤ 4 then colophonref01_Decode.j2 (k + 1) y n (decide ((n : Int) ≤ (y.length : Int))) else colophonref01_Decode.j2 (k + 1) y n false) = colophonref01_Decode.j2 (k + 1) y n false := by
    split
    · rw [decide_eq_false (by omega)]
    · rfl
  rw [e, colophonref01_Decode.j2, if_neg (by decide)]
  by_cases hl : y.length < 4
  · rw [if_pos (by omega), if_pos hl]
  · rw [if_neg (by omega), if_neg hl]

theorem m1 (b : Int) (h0 : 0 ≤ b) (h1 : b < 256) : (isC b ∧ enc b = [b]) ↔ b < 128 := by
  constructor
  · rintro ⟨-, h⟩
    refine Int.not_le.1 (fun h2 => ?_)
    rw [enc_2 h2 (by omega)] at h
    simp at h
  · intro h
    exact ⟨⟨h0, by omega, by omega⟩, enc_1 h⟩
theorem m2 (b b1 : Int) (h0 : 0 ≤ b) (h1 : b < 256) (g0 : 0 ≤ b1) (g1 : b1 < 256) : (isC ((b % 32) * 64 + b1 % 64) ∧ enc ((b % 32) * 64 + b1 % 64) = [b, b1]) ↔ (194 ≤ b ∧ b < 224) ∧ 128 ≤ b1 ∧ b1 ≤ 191 := by
  constructor
  · rintro ⟨-, h⟩
    have hl := enc_len2 (show (enc (b % 32 * 64 + b1 % 64)).length = 2 by rw [h]; rfl)
    rw [enc_2 hl.1 hl.2] at h
    simp at h
    refine ⟨⟨by omega, by omega⟩, by omega, by omega⟩
  · rintro ⟨⟨e1, e2⟩, e3, e4⟩
    refine ⟨⟨by omega, by omega, by omega⟩, ?_⟩
    rw [enc_2 (by omega) (by omega)]
    simp
    omega
theorem low_range {b b1 : Int} (h : Low b b1) : 128 ≤ b1 ∧ b1 ≤ 191 := by
  obtain ⟨e3, e4⟩ := h
  unfold lowOf at e3
  unfold highOf at e4
  constructor
  · split at e3
    · omega
    · split at e3 <;> omega
  · split at e4
    · omega
    · split at e4 <;> omega
theorem m3 (b b1 b2 : Int) (h0 : 0 ≤ b) (h1 : b < 256) (g0 : 0 ≤ b1) (g1 : b1 < 256) (i0 : 0 ≤ b2) (i1 : b2 < 256) :
    (isC (((b % 16) * 64 + b1 % 64) * 64 + b2 % 64) ∧ enc (((b % 16) * 64 + b1 % 64) * 64 + b2 % 64) = [b, b1, b2]) ↔ E23 b b1 ∧ 128 ≤ b2 ∧ b2 ≤ 191 := by
  constructor
  · rintro ⟨⟨c0, c1, c2⟩, h⟩
    have hl := enc_len3 (show (enc ((b % 16 * 64 + b1 % 64) * 64 + b2 % 64)).length = 3 by rw [h]; rfl)
    rw [enc_3 hl.1 hl.2] at h
    simp at h
    unfold E23 Low lowOf highOf
    refine ⟨⟨by omega, by omega, ?_, ?_⟩, by omega, by omega⟩
    · split
      · omega
      · split <;> omega
    · split
      · omega
      · split <;> omega
  · rintro ⟨⟨e1, e2, hL⟩, e5, e6⟩
    have hr := low_range hL
    obtain ⟨e3, e4⟩ := hL
    unfold lowOf at e3
    unfold highOf at e4
    have hge : 2048 ≤ (b % 16 * 64 + b1 % 64) * 64 + b2 % 64 := by
      split at e3
      · omega
      · omega
    refine ⟨⟨by omega, by omega, ?_⟩, ?_⟩
    · split at e4 <;> omega
    · rw [enc_3 hge (by omega)]
      simp
      omega
theorem m4 (b b1 b2 b3 : Int) (h0 : 0 ≤ b) (h1 : b < 256) (g0 : 0 ≤ b1) (g1 : b1 < 256) (i0 : 0 ≤ b2) (i1 : b2 < 256) (j0 : 0 ≤ b3) (j1 : b3 < 256) :
    (isC ((((b % 8) * 64 + b1 % 64) * 64 + b2 % 64) * 64 + b3 % 64) ∧ enc ((((b % 8) * 64 + b1 % 64) * 64 + b2 % 64) * 64 + b3 % 64) = [b, b1, b2, b3]) ↔ E34 b b1 b2 ∧ 128 ≤ b3 ∧ b3 ≤ 191 := by
  constructor
  · rintro ⟨⟨c0, c1, c2⟩, h⟩
    have hl := enc_len4 (show (enc (((b % 8 * 64 + b1 % 64) * 64 + b2 % 64) * 64 + b3 % 64)).length = 4 by rw [h]; rfl)
    rw [enc_4 hl] at h
    simp at h
    unfold E34 Low lowOf highOf
    refine ⟨⟨by omega, by omega, ⟨?_, ?_⟩, by omega, by omega⟩, by omega, by omega⟩
    · split
      · omega
      · split <;> omega
    · split
      · omega
      · split <;> omega
  · rintro ⟨⟨e1, e2, hL, e7, e8⟩, e5, e6⟩
    have hr := low_range hL
    obtain ⟨e3, e4⟩ := hL
    unfold lowOf at e3
    unfold highOf at e4
    rw [if_neg (by omega)] at e3 e4
    have hge : 65536 ≤ ((b % 8 * 64 + b1 % 64) * 64 + b2 % 64) * 64 + b3 % 64 := by
      split at e3 <;> omega
    refine ⟨⟨by omega, ?_, by omega⟩, ?_⟩
    · split at e4 <;> omega
    · rw [enc_4 hge]
      simp
      omega

theorem size_1 {b : Int} (h : b < 128) : sizeOfFirst b = 1 := by unfold sizeOfFirst; rw [if_pos h]
theorem size_0 {b : Int} (h : 128 ≤ b) (h1 : b < 194 ∨ 244 < b) : sizeOfFirst b = 0 := by
  unfold sizeOfFirst
  rw [if_neg (by omega)]
  split
  · rfl
  · rw [if_pos (by omega)]
theorem size_2 {b : Int} (h : 194 ≤ b) (h1 : b < 224) : sizeOfFirst b = 2 := by unfold sizeOfFirst; rw [if_neg (by omega), if_neg (by omega), if_neg (by omega), if_pos h1]
theorem size_3 {b : Int} (h : 224 ≤ b) (h1 : b < 240) : sizeOfFirst b = 3 := by unfold sizeOfFirst; rw [if_neg (by omega), if_neg (by omega), if_neg (by omega), if_neg (by omega), if_pos h1]
theorem size_4 {b : Int} (h : 240 ≤ b) (h1 : b ≤ 244) : sizeOfFirst b = 4 := by unfold sizeOfFirst; rw [if_neg (by omega), if_neg (by omega), if_neg (by omega), if_neg (by omega), if_neg (by omega)]
theorem dec_1 {b : Int} (t : List Int) (h : b < 128) : dec (b :: t) = (b, 1, 0) := by rw [dec, size_1 h, if_pos rfl]
theorem dec_0 {b : Int} (t : List Int) (h : 128 ≤ b) (h1 : b < 194 ∨ 244 < b) : dec (b :: t) = (0, 0, 10) := by rw [dec, size_0 h h1, if_neg (by decide), if_pos rfl]
theorem dec_2 {b : Int} (t : List Int) (h : 194 ≤ b) (h1 : b < 224) : dec (b :: t) = restOf (b % 32) 2 128 191 t := by
  rw [dec, size_2 h h1, if_neg (by decide), if_neg (by decide), if_pos rfl]
  unfold lowOf highOf
  rw [if_neg (by omega), if_neg (by omega), if_neg (by omega), if_neg (by omega)]
theorem dec_3 {b : Int} (t : List Int) (h : 224 ≤ b) (h1 : b < 240) : dec (b :: t) = restOf (b % 16) 3 (lowOf b) (highOf b) t := by
  rw [dec, size_3 h h1, if_neg (by decide), if_neg (by decide), if_neg (by decide), if_pos rfl]
theorem dec_4 {b : Int} (t : List Int) (h : 240 ≤ b) (h1 : b ≤ 244) : dec (b :: t) = restOf (b % 8) 4 (lowOf b) (highOf b) t := by
  rw [dec, size_4 h h1, if_neg (by decide), if_neg (by decide), if_neg (by decide), if_neg (by decide)]

/-- What dec is, of bytes that are so many. -/
theorem dec_of1 (b : Int) (h0 : 0 ≤ b) : dec [b] = if b < 128 then (b, 1, 0) else if 194 ≤ b ∧ b ≤ 244 then (0, 0, 3) else (0, 0, 10) := by
  by_cases c1 : b < 128
  · rw [if_pos c1, dec_1 _ c1]
  · rw [if_neg c1]
    by_cases c2 : 194 ≤ b ∧ b ≤ 244
    · rw [if_pos c2]
      rcases Int.lt_or_le b 224 with h | h
      · rw [dec_2 _ c2.1 h]; rfl
      · rcases Int.lt_or_le b 240 with h2 | h2
        · rw [dec_3 _ h h2]; rfl
        · rw [dec_4 _ h2 c2.2]; rfl
    · rw [if_neg c2, dec_0 _ (by omega) (by omega)]
theorem rest_no {c n lo hi b1 : Int} {t : List Int} (h : ¬ (lo ≤ b1 ∧ b1 ≤ hi)) : restOf c n lo hi (b1 :: t) = (0, 0, 10) := by
  rw [restOf.eq_def]
  dsimp only
  by_cases h1 : b1 < lo
  · rw [if_pos h1]
  · rw [if_neg h1, if_pos (by omega)]
theorem rest_2 {c lo hi b1 : Int} {t : List Int} (h : lo ≤ b1 ∧ b1 ≤ hi) : restOf c 2 lo hi (b1 :: t) = (c * 64 + b1 % 64, 2, 0) := by
  rw [restOf.eq_def]
  dsimp only
  rw [if_neg (by omega), if_neg (by omega), if_pos rfl]
theorem rest_n {c n lo hi b1 : Int} {t : List Int} (h : lo ≤ b1 ∧ b1 ≤ hi) (hn : n ≠ 2) (h3 : t = []) : restOf c n lo hi (b1 :: t) = (0, 0, 3) := by
  subst h3
  rw [restOf.eq_def]
  dsimp only
  rw [if_neg (by omega), if_neg (by omega), if_neg hn]
theorem rest_n2 {c n lo hi b1 b2 : Int} {t : List Int} (h : lo ≤ b1 ∧ b1 ≤ hi) (hn : n ≠ 2) (h3 : ¬ (128 ≤ b2 ∧ b2 ≤ 191)) : restOf c n lo hi (b1 :: b2 :: t) = (0, 0, 10) := by
  rw [restOf.eq_def]
  dsimp only
  rw [if_neg (by omega), if_neg (by omega), if_neg hn]
  by_cases h1 : b2 < 128
  · (try dsimp only); rw [if_pos h1]
  · (try dsimp only); rw [if_neg h1, if_pos (by omega)]
theorem rest_3 {c lo hi b1 b2 : Int} {t : List Int} (h : lo ≤ b1 ∧ b1 ≤ hi) (h3 : 128 ≤ b2 ∧ b2 ≤ 191) : restOf c 3 lo hi (b1 :: b2 :: t) = ((c * 64 + b1 % 64) * 64 + b2 % 64, 3, 0) := by
  rw [restOf.eq_def]
  dsimp only
  rw [if_neg (by omega), if_neg (by omega), if_neg (by decide)]
  try dsimp only
  rw [if_neg (by omega), if_neg (by omega), if_pos rfl]
theorem rest_4e {c lo hi b1 b2 : Int} (h : lo ≤ b1 ∧ b1 ≤ hi) (h3 : 128 ≤ b2 ∧ b2 ≤ 191) : restOf c 4 lo hi [b1, b2] = (0, 0, 3) := by
  rw [restOf.eq_def]
  dsimp only
  rw [if_neg (by omega), if_neg (by omega), if_neg (by decide)]
  try dsimp only
  rw [if_neg (by omega), if_neg (by omega), if_neg (by decide)]
theorem rest_4 {c lo hi b1 b2 b3 : Int} {t : List Int} (h : lo ≤ b1 ∧ b1 ≤ hi) (h3 : 128 ≤ b2 ∧ b2 ≤ 191) : restOf c 4 lo hi (b1 :: b2 :: b3 :: t) = if 128 ≤ b3 ∧ b3 ≤ 191 then (((c * 64 + b1 % 64) * 64 + b2 % 64) * 64 + b3 % 64, 4, 0) else (0, 0, 10) := by
  rw [restOf.eq_def]
  dsimp only
  rw [if_neg (by omega), if_neg (by omega), if_neg (by decide)]
  try dsimp only
  rw [if_neg (by omega), if_neg (by omega), if_neg (by decide)]
  by_cases h5 : 128 ≤ b3 ∧ b3 ≤ 191
  · rw [if_pos h5, if_neg (by omega), if_neg (by omega)]
  · rw [if_neg h5]
    by_cases h1 : b3 < 128
    · rw [if_pos h1]
    · rw [if_neg h1, if_pos (by omega)]
end Go.Proofs.Ytogfaahdbecdnaa.B

/-
  Plain laws of characters: the document's Decode and Check come to the program's.
-/
namespace Go.Proofs.Ytogfaahdbecdnaa.B
open Go.RowKit Go.Proofs.YtogfaahdbecdnaaW.PrintWords Go.Proofs.YtogfaahdbecdnaaW.PrintLast Go.Proofs.YtogfaahdbecdnaaW.PrintMore Go.Proofs.Ytogfaahdbecdnaa.FBase
set_option linter.unusedVariables false

theorem dec_of2 (b b1 : Int) (t : List Int) (h0 : 128 ≤ b) : ((194 ≤ b ∧ b < 224) ∧ 128 ≤ b1 ∧ b1 ≤ 191 → dec (b :: b1 :: t) = (b % 32 * 64 + b1 % 64, 2, 0)) ∧ (¬ ((194 ≤ b ∧ b < 224) ∧ 128 ≤ b1 ∧ b1 ≤ 191) → ¬ (224 ≤ b ∧ b ≤ 244 ∧ Low b b1) → dec (b :: b1 :: t) = (0, 0, 10)) := by
  refine ⟨fun h => by rw [dec_2 _ h.1.1 h.1.2, rest_2 h.2], fun h h2 => ?_⟩
  by_cases c0 : b < 194 ∨ 244 < b
  · rw [dec_0 _ h0 c0]
  · by_cases c2 : b < 224
    · rw [dec_2 _ (by omega) c2, rest_no (fun hh => h ⟨⟨by omega, c2⟩, hh⟩)]
    · by_cases c3 : b < 240
      · rw [dec_3 _ (by omega) c3, rest_no (fun hh => h2 ⟨by omega, by omega, hh⟩)]
      · rw [dec_4 _ (by omega) (by omega), rest_no (fun hh => h2 ⟨by omega, by omega, hh⟩)]
theorem dec_of2e (b b1 : Int) (h : 224 ≤ b ∧ b ≤ 244 ∧ Low b b1) : dec [b, b1] = (0, 0, 3) := by
  by_cases c3 : b < 240
  · rw [dec_3 _ h.1 c3, rest_n h.2.2 (by decide) rfl]
  · rw [dec_4 _ (by omega) h.2.1, rest_n h.2.2 (by decide) rfl]
theorem dec_of3 (b b1 b2 : Int) (t : List Int) (hE : E23 b b1) : dec (b :: b1 :: b2 :: t) = if 128 ≤ b2 ∧ b2 ≤ 191 then ((b % 16 * 64 + b1 % 64) * 64 + b2 % 64, 3, 0) else (0, 0, 10) := by
  rw [dec_3 _ hE.1 hE.2.1]
  by_cases h : 128 ≤ b2 ∧ b2 ≤ 191
  · rw [if_pos h, rest_3 hE.2.2 h]
  · rw [if_neg h, rest_n2 hE.2.2 (by decide) h]
theorem dec_of4 (b b1 b2 : Int) (t : List Int) (hE : E24 b b1) (h : ¬ (128 ≤ b2 ∧ b2 ≤ 191)) : dec (b :: b1 :: b2 :: t) = (0, 0, 10) := by
  rw [dec_4 _ hE.1 hE.2.1, rest_n2 hE.2.2 (by decide) h]
theorem split_E (b b1 : Int) (h : 224 ≤ b ∧ b ≤ 244 ∧ Low b b1) : E23 b b1 ∨ E24 b b1 := by
  rcases Int.lt_or_le b 240 with h4 | h4
  · exact .inl ⟨h.1, h4, h.2.2⟩
  · exact .inr ⟨h4, h.2.1, h.2.2⟩

/-- The document's Decode, of bytes that there are. -/
theorem RDecode_y (y : List Int) (h : Bytes y) (hne : y ≠ []) : colophonref01_Decode.l0 60 y 1 = some (dec y) := by
  match y, h, hne with
  | [], _, hne => exact absurd rfl hne
  | [b], h, _ =>
    have hb := h b (by simp)
    have s1 := D_step 58 (by decide) [b] h 1 (by decide) (by decide) (by simp)
    simp only [jn, List.take, m1 b hb.1 hb.2] at s1
    rw [show ((1 : Nat) : Int) = 1 from rfl] at s1
    rw [s1, dec_of1 b hb.1]
    by_cases c1 : b < 128
    · rw [if_pos c1, if_pos c1]
    · rw [if_neg c1, if_neg c1, show (1 : Int) + 1 = ((2 : Nat) : Int) from rfl, D_end 56 [b] 2 (.inr (by simp)), if_pos (by simp), LeO_le (fun k => colophonref01_begins.mono [b] k) (by decide) (begins_1 b hb.1 hb.2), Option.bind_some]
      by_cases c2 : 194 ≤ b ∧ b ≤ 244
      · rw [if_pos (decide_eq_true c2), if_pos c2]
      · rw [if_neg (by simpa using c2), if_neg c2]
  | [b, b1], h, _ =>
    have hb := h b (by simp)
    have hb1 := h b1 (by simp)
    have s1 := D_step 58 (by decide) [b, b1] h 1 (by decide) (by decide) (by simp)
    have s2 := D_step 56 (by decide) [b, b1] h 2 (by decide) (by decide) (by simp)
    simp only [jn, List.take, m1 b hb.1 hb.2] at s1
    simp only [jn, List.take, m2 b b1 hb.1 hb.2 hb1.1 hb1.2] at s2
    rw [show ((1 : Nat) : Int) = 1 from rfl] at s1
    rw [show ((2 : Nat) : Int) = 2 from rfl] at s2
    rw [s1]
    by_cases c1 : b < 128
    · rw [if_pos c1, dec_1 _ c1]
    · rw [if_neg c1, show (1 : Int) + 1 = 2 from rfl, s2]
      have d2 := dec_of2 b b1 [] (by omega)
      by_cases c2 : (194 ≤ b ∧ b < 224) ∧ 128 ≤ b1 ∧ b1 ≤ 191
      · rw [if_pos c2, d2.1 c2]
      · rw [if_neg c2, show (2 : Int) + 1 = ((3 : Nat) : Int) from rfl, D_end 54 [b, b1] 3 (.inr (by simp)), if_pos (by simp), LeO_le (fun k => colophonref01_begins.mono [b, b1] k) (by decide) (begins_2 b b1 h), Option.bind_some]
        by_cases c3 : 224 ≤ b ∧ b ≤ 244 ∧ Low b b1
        · rw [if_pos (decide_eq_true c3), dec_of2e b b1 c3]
        · rw [if_neg (by simpa using c3), d2.2 c2 c3]
  | [b, b1, b2], h, _ =>
    have hb := h b (by simp)
    have hb1 := h b1 (by simp)
    have hb2 := h b2 (by simp)
    have s1 := D_step 58 (by decide) [b, b1, b2] h 1 (by decide) (by decide) (by simp)
    have s2 := D_step 56 (by decide) [b, b1, b2] h 2 (by decide) (by decide) (by simp)
    have s3 := D_step 54 (by decide) [b, b1, b2] h 3 (by decide) (by decide) (by simp)
    simp only [jn, List.take, m1 b hb.1 hb.2] at s1
    simp only [jn, List.take, m2 b b1 hb.1 hb.2 hb1.1 hb1.2] at s2
    simp only [jn, List.take, m3 b b1 b2 hb.1 hb.2 hb1.1 hb1.2 hb2.1 hb2.2] at s3
    rw [show ((1 : Nat) : Int) = 1 from rfl] at s1
    rw [show ((2 : Nat) : Int) = 2 from rfl] at s2
    rw [show ((3 : Nat) : Int) = 3 from rfl] at s3
    rw [s1]
    by_cases c1 : b < 128
    · rw [if_pos c1, dec_1 _ c1]
    · rw [if_neg c1, show (1 : Int) + 1 = 2 from rfl, s2]
      have d2 := dec_of2 b b1 [b2] (by omega)
      by_cases c2 : (194 ≤ b ∧ b < 224) ∧ 128 ≤ b1 ∧ b1 ≤ 191
      · rw [if_pos c2, d2.1 c2]
      · rw [if_neg c2, show (2 : Int) + 1 = 3 from rfl, s3]
        by_cases c3 : E23 b b1 ∧ 128 ≤ b2 ∧ b2 ≤ 191
        · rw [if_pos c3, dec_of3 b b1 b2 [] c3.1, if_pos c3.2]
        · rw [if_neg c3, show (3 : Int) + 1 = ((4 : Nat) : Int) from rfl, D_end 52 [b, b1, b2] 4 (.inr (by simp)), if_pos (by simp), LeO_le (fun k => colophonref01_begins.mono [b, b1, b2] k) (by decide) (begins_3 b b1 b2 h), Option.bind_some]
          by_cases c4 : E34 b b1 b2
          · rw [if_pos (decide_eq_true c4), dec_4 _ c4.1 c4.2.1, rest_4e c4.2.2.1 c4.2.2.2]
          · rw [if_neg (by simpa using c4)]
            by_cases c5 : 224 ≤ b ∧ b ≤ 244 ∧ Low b b1
            · rcases split_E b b1 c5 with e | e
              · rw [dec_of3 b b1 b2 [] e, if_neg (fun hh => c3 ⟨e, hh⟩)]
              · rw [dec_of4 b b1 b2 [] e (fun hh => c4 ⟨e.1, e.2.1, e.2.2, hh⟩)]
            · rw [d2.2 c2 c5]
  | b :: b1 :: b2 :: b3 :: t, h, _ =>
    have hb := h b (by simp)
    have hb1 := h b1 (by simp)
    have hb2 := h b2 (by simp)
    have hb3 := h b3 (by simp)
    have s1 := D_step 58 (by decide) (b :: b1 :: b2 :: b3 :: t) h 1 (by decide) (by decide) (by simp)
    have s2 := D_step 56 (by decide) (b :: b1 :: b2 :: b3 :: t) h 2 (by decide) (by decide) (by simp)
    have s3 := D_step 54 (by decide) (b :: b1 :: b2 :: b3 :: t) h 3 (by decide) (by decide) (by simp)
    have s4 := D_step 52 (by decide) (b :: b1 :: b2 :: b3 :: t) h 4 (by decide) (by decide) (by simp)
    simp only [jn, List.take, m1 b hb.1 hb.2] at s1
    simp only [jn, List.take, m2 b b1 hb.1 hb.2 hb1.1 hb1.2] at s2
    simp only [jn, List.take, m3 b b1 b2 hb.1 hb.2 hb1.1 hb1.2 hb2.1 hb2.2] at s3
    simp only [jn, List.take, m4 b b1 b2 b3 hb.1 hb.2 hb1.1 hb1.2 hb2.1 hb2.2 hb3.1 hb3.2] at s4
    rw [show ((1 : Nat) : Int) = 1 from rfl] at s1
    rw [show ((2 : Nat) : Int) = 2 from rfl] at s2
    rw [show ((3 : Nat) : Int) = 3 from rfl] at s3
    rw [show ((4 : Nat) : Int) = 4 from rfl] at s4
    rw [s1]
    by_cases c1 : b < 128
    · rw [if_pos c1, dec_1 _ c1]
    · rw [if_neg c1, show (1 : Int) + 1 = 2 from rfl, s2]
      have d2 := dec_of2 b b1 (b2 :: b3 :: t) (by omega)
      by_cases c2 : (194 ≤ b ∧ b < 224) ∧ 128 ≤ b1 ∧ b1 ≤ 191
      · rw [if_pos c2, d2.1 c2]
      · rw [if_neg c2, show (2 : Int) + 1 = 3 from rfl, s3]
        by_cases c3 : E23 b b1 ∧ 128 ≤ b2 ∧ b2 ≤ 191
        · rw [if_pos c3, dec_of3 b b1 b2 _ c3.1, if_pos c3.2]
        · rw [if_neg c3, show (3 : Int) + 1 = 4 from rfl, s4]
          by_cases c4 : E34 b b1 b2 ∧ 128 ≤ b3 ∧ b3 ≤ 191
          · rw [if_pos c4, dec_4 _ c4.1.1 c4.1.2.1, rest_4 c4.1.2.2.1 c4.1.2.2.2, if_pos c4.2]
          · rw [if_neg c4, show (4 : Int) + 1 = ((5 : Nat) : Int) from rfl, D_end 50 _ 5 (.inl (by decide)), if_neg (by simp)]
            by_cases c5 : 224 ≤ b ∧ b ≤ 244 ∧ Low b b1
            · rcases split_E b b1 c5 with e | e
              · rw [dec_of3 b b1 b2 _ e, if_neg (fun hh => c3 ⟨e, hh⟩)]
              · by_cases c6 : 128 ≤ b2 ∧ b2 ≤ 191
                · rw [dec_4 _ e.1 e.2.1, rest_4 e.2.2 c6, if_neg (fun hh => c4 ⟨⟨e.1, e.2.1, e.2.2, c6⟩, hh⟩)]
                · rw [dec_of4 b b1 b2 _ e c6]
            · rw [d2.2 c2 c5]
theorem RDecode_f {l : List Int} {i : Int} (h : Bytes l) (h0 : 0 ≤ i) (h1 : i < l.length) {k : Nat} (hk : 61 ≤ k) : colophonref01_Decode.f k l i = some (dec (l.drop i.toNat)) := by
  refine LeO_le (fun k => colophonref01_Decode.mono l i k) hk ?_
  unfold colophonref01_Decode.f
  rw [if_neg (by omega), decide_eq_false (by omega), colophonref01_Decode.j0, if_neg (by decide), if_pos h0, if_pos (by omega)]
  exact RDecode_y _ (h.drop _) (by rw [Ne, List.drop_eq_nil_iff]; omega)
theorem RCheck_l (l : List Int) (h : Bytes l) (hl : l.length ≤ 1048576) (n : Nat) : ∀ (k : Nat) (i : Int), 0 ≤ i → i ≤ l.length → (l.length : Int) - i ≤ n → n + 61 < k → colophonref01_Check.l0 k l i = some (chkF n l i) := by
  induction n with
  | zero =>
    intro k i h0 h1 hn hk
    obtain ⟨k, rfl⟩ : ∃ m, k = m + 1 := ⟨k - 1, by omega⟩
    rw [colophonref01_Check.l0, if_neg (by omega), chkF, show i = l.length by omega]
  | succ n ih =>
    intro k i h0 h1 hn hk
    obtain ⟨k, rfl⟩ : ∃ m, k = m + 1 := ⟨k - 1, by omega⟩
    rw [colophonref01_Check.l0, chkF]
    by_cases hi : i < (l.length : Int)
    · rw [if_pos hi, if_pos hi, RDecode_f h h0 hi (by omega)]
      simp only [Option.bind_some]
      by_cases he : (dec (l.drop i.toNat)).2.2 = 0
      · rw [if_pos he, if_pos he]
        have hd := dec_ok (h.drop i.toNat) he
        have hlen : (l.drop i.toNat).length = l.length - i.toNat := List.length_drop
        rw [w64 _ (by omega) (by omega)]
        exact ih k _ (by omega) (by omega) (by omega) (by omega)
      · rw [if_neg he, if_neg he]
    · rw [if_neg hi, if_neg hi]
/-- The document's Check. -/
theorem RCheck_f (l : List Int) (h : Bytes l) (hl : l.length ≤ 1048576) {k : Nat} (hk : l.length + 61 < k) : colophonref01_Check.f k l = some (chk l) := by
  unfold colophonref01_Check.f chk
  exact RCheck_l l h hl l.length k 0 (Int.le_refl _) (by omega) (by omega) hk
end Go.Proofs.Ytogfaahdbecdnaa.B

/-
  Plain laws of texts: their characters, one behind the other; how many units they have; where so many of them end; where a character begins.
-/
namespace Go.Proofs.Ytogfaahdbecdnaa.B
open Go.RowKit Go.Proofs.YtogfaahdbecdnaaW.PrintWords Go.Proofs.YtogfaahdbecdnaaW.PrintLast Go.Proofs.YtogfaahdbecdnaaW.PrintMore Go.Proofs.Ytogfaahdbecdnaa.FBase
set_option linter.unusedVariables false
set_option linter.unusedSimpArgs false

/-- How many units a character has. -/
def usz (c : Int) : Int := if c ≥ 65536 then 2 else 1
/-- The characters of a text: how many bytes, how many units each has. -/
inductive Cs : List Int → List (Int × Int) → Prop
  | nil : Cs [] []
  | step (y : List Int) (r : List (Int × Int)) (he : (dec y).2.2 = 0) (h : Cs (y.drop (dec y).2.1.toNat) r) : Cs y (((dec y).2.1, usz (dec y).1) :: r)
theorem V.cs {y : List Int} (h : V y) : ∃ r, Cs y r := by
  induction h with
  | nil => exact ⟨[], .nil⟩
  | step y he h ih =>
    obtain ⟨r, hr⟩ := ih
    exact ⟨_, .step y r he hr⟩
theorem Cs.v {y : List Int} {r : List (Int × Int)} (h : Cs y r) : V y := by
  induction h with
  | nil => exact .nil
  | step y r he h ih => exact .step y he ih

def sz : List (Int × Int) → Int
  | [] => 0
  | x :: r => x.1 + sz r
def un : List (Int × Int) → Int
  | [] => 0
  | x :: r => x.2 + un r
/-- Where k units end. -/
def off : List (Int × Int) → Int → Int
  | [], _ => 0
  | x :: r, k => if k < x.2 then 0 else x.1 + off r (k - x.2)
/-- The last place between characters that is not behind a byte. -/
def flo : List (Int × Int) → Int → Int
  | [], _ => 0
  | x :: r, at_ => if at_ < x.1 then 0 else x.1 + flo r (at_ - x.1)
/-- How many units there are till then. -/
def ufl : List (Int × Int) → Int → Int
  | [], _ => 0
  | x :: r, at_ => if at_ < x.1 then 0 else x.2 + ufl r (at_ - x.1)
/-- What is true of characters. -/
def Good (r : List (Int × Int)) : Prop := ∀ x ∈ r, 1 ≤ x.1 ∧ x.1 ≤ 4 ∧ 1 ≤ x.2 ∧ x.2 ≤ 2
theorem Good.head {x : Int × Int} {r : List (Int × Int)} (h : Good (x :: r)) : 1 ≤ x.1 ∧ x.1 ≤ 4 ∧ 1 ≤ x.2 ∧ x.2 ≤ 2 := h x List.mem_cons_self
theorem Good.tail {x : Int × Int} {r : List (Int × Int)} (h : Good (x :: r)) : Good r := fun y hy => h y (List.mem_cons_of_mem _ hy)
theorem sz_nonneg : ∀ {r : List (Int × Int)}, Good r → 0 ≤ sz r
  | [], _ => by simp [sz]
  | x :: r, h => by have := h.head; have := sz_nonneg h.tail; simp only [sz]; omega
theorem un_nonneg : ∀ {r : List (Int × Int)}, Good r → 0 ≤ un r
  | [], _ => by simp [un]
  | x :: r, h => by have := h.head; have := un_nonneg h.tail; simp only [un]; omega
theorem off_range : ∀ {r : List (Int × Int)} (k : Int), Good r → 0 ≤ off r k ∧ off r k ≤ sz r
  | [], _, _ => by simp [off, sz]
  | x :: r, k, h => by
    have h1 := h.head
    have h2 := off_range (k - x.2) h.tail
    have h3 := sz_nonneg h.tail
    simp only [off, sz]
    split <;> omega
theorem flo_range : ∀ {r : List (Int × Int)} (k : Int), Good r → 0 ≤ k → 0 ≤ flo r k ∧ flo r k ≤ sz r ∧ flo r k ≤ k
  | [], k, _, h0 => by simp [flo, sz]; omega
  | x :: r, k, h, h0 => by
    have h1 := h.head
    have h3 := sz_nonneg h.tail
    simp only [flo, sz]
    split
    · omega
    · have h2 := flo_range (k - x.1) h.tail (by omega)
      omega
theorem ufl_range : ∀ {r : List (Int × Int)} (k : Int), Good r → 0 ≤ ufl r k ∧ ufl r k ≤ un r
  | [], k, _ => by simp [ufl, un]
  | x :: r, k, h => by
    have h1 := h.head
    have h2 := ufl_range (k - x.1) h.tail
    have h3 := un_nonneg h.tail
    simp only [ufl, un]
    split <;> omega
/-- A byte's place is there and back the place between characters ahead of it. -/
theorem off_ufl : ∀ {r : List (Int × Int)} (k : Int), Good r → 0 ≤ k → off r (ufl r k) = flo r k
  | [], k, _, _ => by simp [off, flo]
  | x :: r, k, h, h0 => by
    have h1 := h.head
    have h3 := un_nonneg h.tail
    by_cases hk : k < x.1
    · simp only [ufl, flo, if_pos hk, off]
      rw [if_pos (by omega)]
    · have h2 := off_ufl (k - x.1) h.tail (by omega)
      have h4 := ufl_range (k - x.1) h.tail
      simp only [ufl, flo, if_neg hk, off]
      rw [if_neg (by omega), show x.2 + ufl r (k - x.1) - x.2 = ufl r (k - x.1) by omega, h2]
theorem flo_off : ∀ {r : List (Int × Int)} (k : Int), Good r → 0 ≤ k → flo r (off r k) = off r k
  | [], k, _, _ => by simp [off, flo]
  | x :: r, k, h, h0 => by
    have h1 := h.head
    by_cases hk : k < x.2
    · simp only [off, if_pos hk, flo]
      rw [if_pos (by omega)]
    · have h2 := flo_off (k - x.2) h.tail (by omega)
      have h4 := off_range (k - x.2) h.tail
      simp only [off, if_neg hk, flo]
      rw [if_neg (by omega), show x.1 + off r (k - x.2) - x.1 = off r (k - x.2) by omega, h2]
theorem ufl_off : ∀ {r : List (Int × Int)} (k : Int), Good r → 0 ≤ k → ufl r (off r k) ≤ k ∧ (k < un r → ufl r (off r k) = k ∨ ufl r (off r k) = k - 1) ∧ (un r ≤ k → ufl r (off r k) = un r ∧ off r k = sz r)
  | [], k, _, h0 => by simp [off, ufl, un, sz]; omega
  | x :: r, k, h, h0 => by
    have h1 := h.head
    have h5 := un_nonneg h.tail
    by_cases hk : k < x.2
    · simp only [off, if_pos hk, ufl, un, sz]
      rw [if_pos (by omega)]
      omega
    · have h2 := ufl_off (k - x.2) h.tail (by omega)
      have h4 := off_range (k - x.2) h.tail
      simp only [off, if_neg hk, ufl, un, sz]
      rw [if_neg (by omega), show x.1 + off r (k - x.2) - x.1 = off r (k - x.2) by omega]
      refine ⟨by omega, fun h => ?_, fun h => ?_⟩
      · have := h2.2.1 (by omega); omega
      · have := h2.2.2 (by omega); omega
theorem off_mono : ∀ {r : List (Int × Int)} (k k' : Int), Good r → k ≤ k' → off r k ≤ off r k'
  | [], k, _, _, _ => by simp [off]
  | x :: r, k, k', h, hk => by
    have h1 := h.head
    have h2 := off_mono (k - x.2) (k' - x.2) h.tail (by omega)
    have h4 := off_range (k' - x.2) h.tail
    simp only [off]
    split <;> split <;> omega
theorem ufl_mono : ∀ {r : List (Int × Int)} (k k' : Int), Good r → k ≤ k' → ufl r k ≤ ufl r k'
  | [], k, _, _, _ => by simp [ufl]
  | x :: r, k, k', h, hk => by
    have h1 := h.head
    have h2 := ufl_mono (k - x.1) (k' - x.1) h.tail (by omega)
    have h4 := ufl_range (k' - x.1) h.tail
    simp only [ufl]
    split <;> split <;> omega
theorem flo_mono : ∀ {r : List (Int × Int)} (k k' : Int), Good r → 0 ≤ k → k ≤ k' → flo r k ≤ flo r k'
  | [], k, _, _, _, _ => by simp [flo]
  | x :: r, k, k', h, h0, hk => by
    have h1 := h.head
    simp only [flo]
    by_cases a : k' < x.1
    · rw [if_pos a, if_pos (by omega)]; exact Int.le_refl _
    · have h4 := flo_range (k' - x.1) h.tail (by omega)
      rw [if_neg a]
      by_cases b : k < x.1
      · rw [if_pos b]; omega
      · rw [if_neg b]
        have h2 := flo_mono (k - x.1) (k' - x.1) h.tail (by omega) (by omega)
        omega
theorem ufl_sz : ∀ {r : List (Int × Int)} (k : Int), Good r → sz r ≤ k → ufl r k = un r ∧ flo r k = sz r
  | [], k, _, _ => by simp [ufl, un, flo, sz]
  | x :: r, k, h, hk => by
    have h1 := h.head
    have h3 := sz_nonneg h.tail
    simp only [sz] at hk
    have h2 := ufl_sz (k - x.1) h.tail (by omega)
    simp only [ufl, un, flo, sz]
    rw [if_neg (by omega), if_neg (by omega)]
    omega

/-- The head of a text: the bytes of its first character. -/
theorem dec_head {y : List Int} (hb : Bytes y) (he : (dec y).2.2 = 0) : ∃ h z, y = h ++ z ∧ (h.length : Int) = (dec y).2.1 ∧ (dec h).2.2 = 0 ∧ (∀ k : Nat, k < h.length → (dec (h.take k)).2.2 ≠ 0) ∧ ((∃ b, h = [b] ∧ b < 128) ∨ (2 ≤ h.length ∧ ∀ x ∈ h, 128 ≤ x)) := by
  cases y with
  | nil => simp [dec] at he
  | cons b t =>
    have hb0 := hb b List.mem_cons_self
    by_cases h1 : b < 128
    · refine ⟨[b], t, rfl, by rw [dec_1 t h1]; rfl, by rw [dec_1 [] h1], fun k hk => ?_, .inl ⟨b, rfl, h1⟩⟩
      obtain rfl : k = 0 := by simp at hk; omega
      simp [dec]
    · by_cases h2 : b < 194 ∨ 244 < b
      · rw [dec_0 t (by omega) h2] at he
        simp at he
      · by_cases c2 : b < 224
        · have e := fun z => dec_2 (b := b) z (by omega) c2
          rw [e] at he ⊢
          cases t with
          | nil => simp [restOf] at he
          | cons b1 t1 =>
            by_cases g1 : 128 ≤ b1 ∧ b1 ≤ 191
            · rw [rest_2 g1] at he ⊢
              refine ⟨[b, b1], t1, rfl, rfl, by rw [e, rest_2 g1], fun k hk => ?_, .inr ⟨by simp, fun x hx => by simp at hx; omega⟩⟩
              obtain rfl | rfl : k = 0 ∨ k = 1 := by simp at hk; omega
              · simp [dec]
              · simp only [List.take_succ_cons, List.take_zero]
                rw [e]; simp [restOf]
            · rw [rest_no g1] at he
              simp at he
        · by_cases c3 : b < 240
          · have e := fun z => dec_3 (b := b) z (by omega) c3
            have hlo : 128 ≤ lowOf b := by unfold lowOf; repeat' split <;> try omega
            rw [e] at he ⊢
            cases t with
            | nil => simp [restOf] at he
            | cons b1 t1 =>
              by_cases g1 : lowOf b ≤ b1 ∧ b1 ≤ highOf b
              · cases t1 with
                | nil => rw [rest_n g1 (by decide) rfl] at he; simp at he
                | cons b2 t2 =>
                  by_cases g2 : 128 ≤ b2 ∧ b2 ≤ 191
                  · rw [rest_3 g1 g2] at he ⊢
                    refine ⟨[b, b1, b2], t2, rfl, rfl, by rw [e, rest_3 g1 g2], fun k hk => ?_, .inr ⟨by simp, fun x hx => by simp at hx; omega⟩⟩
                    obtain rfl | rfl | rfl : k = 0 ∨ k = 1 ∨ k = 2 := by simp at hk; omega
                    · simp [dec]
                    · simp only [List.take_succ_cons, List.take_zero]
                      rw [e]; simp [restOf]
                    · simp only [List.take_succ_cons, List.take_zero]
                      rw [e, rest_n g1 (by decide) rfl]; simp
                  · rw [rest_n2 g1 (by decide) g2] at he; simp at he
              · rw [rest_no g1] at he; simp at he
          · have e := fun z => dec_4 (b := b) z (by omega) (by omega)
            have hlo : 128 ≤ lowOf b := by unfold lowOf; repeat' split <;> try omega
            rw [e] at he ⊢
            cases t with
            | nil => simp [restOf] at he
            | cons b1 t1 =>
              by_cases g1 : lowOf b ≤ b1 ∧ b1 ≤ highOf b
              · cases t1 with
                | nil => rw [rest_n g1 (by decide) rfl] at he; simp at he
                | cons b2 t2 =>
                  by_cases g2 : 128 ≤ b2 ∧ b2 ≤ 191
                  · cases t2 with
                    | nil => rw [rest_4e g1 g2] at he; simp at he
                    | cons b3 t3 =>
                      by_cases g3 : 128 ≤ b3 ∧ b3 ≤ 191
                      · rw [rest_4 g1 g2, if_pos g3] at he ⊢
                        refine ⟨[b, b1, b2, b3], t3, rfl, rfl, by rw [e, rest_4 g1 g2, if_pos g3], fun k hk => ?_, .inr ⟨by simp, fun x hx => by simp at hx; omega⟩⟩
                        obtain rfl | rfl | rfl | rfl : k = 0 ∨ k = 1 ∨ k = 2 ∨ k = 3 := by simp at hk; omega
                        · simp [dec]
                        · simp only [List.take_succ_cons, List.take_zero]
                          rw [e]; simp [restOf]
                        · simp only [List.take_succ_cons, List.take_zero]
                          rw [e, rest_n g1 (by decide) rfl]; simp
                        · simp only [List.take_succ_cons, List.take_zero]
                          rw [e, rest_4e g1 g2]; simp
                      · rw [rest_4 g1 g2, if_neg g3] at he; simp at he
                  · rw [rest_n2 g1 (by decide) g2] at he; simp at he
              · rw [rest_no g1] at he; simp at he
end Go.Proofs.Ytogfaahdbecdnaa.B

/-
  Plain laws of texts: Check of a piece; Of; a piece of a text between characters; lines are texts.
-/
namespace Go.Proofs.Ytogfaahdbecdnaa.B
open Go.RowKit Go.Proofs.YtogfaahdbecdnaaW.PrintWords Go.Proofs.YtogfaahdbecdnaaW.PrintLast Go.Proofs.YtogfaahdbecdnaaW.PrintMore Go.Proofs.Ytogfaahdbecdnaa.FBase
set_option linter.unusedVariables false
set_option linter.unusedSimpArgs false

theorem Cs.good {y : List Int} {r : List (Int × Int)} (h : Cs y r) (hb : Bytes y) : Good r ∧ sz r = y.length := by
  induction h with
  | nil => exact ⟨fun x hx => (nomatch hx), rfl⟩
  | step y r he h ih =>
    have h1 := dec_ok hb he
    obtain ⟨g, e⟩ := ih (hb.drop _)
    refine ⟨fun x hx => ?_, ?_⟩
    · rcases List.mem_cons.1 hx with rfl | hx
      · refine ⟨h1.1, h1.2.2.1, ?_, ?_⟩ <;> (simp only [usz]; split <;> omega)
      · exact g x hx
    · rw [sz, e, List.length_drop]
      omega
theorem Cs.uniq {y : List Int} {r r' : List (Int × Int)} (h : Cs y r) (h' : Cs y r') : r = r' := by
  induction h generalizing r' with
  | nil =>
    cases h' with
    | nil => rfl
    | step _ _ he _ => simp [dec] at he
  | step y r he h ih =>
    cases h' with
    | nil => simp [dec] at he
    | step _ r2 he2 h2 => rw [ih h2]
theorem cs_nil {r : List (Int × Int)} (h : Cs [] r) : r = [] := h.uniq .nil
/-- A text, its first character laid open. -/
theorem Cs.open {y : List Int} {r : List (Int × Int)} (h : Cs y r) (hb : Bytes y) (hne : y ≠ []) : ∃ hd z x q, y = hd ++ z ∧ r = x :: q ∧ (hd.length : Int) = x.1 ∧ (dec hd).2.2 = 0 ∧ (dec hd).2.1 = x.1 ∧ usz (dec hd).1 = x.2 ∧ Cs z q ∧ (∀ k : Nat, k < hd.length → (dec (hd.take k)).2.2 ≠ 0) ∧ ((∃ b, hd = [b] ∧ b < 128) ∨ (2 ≤ hd.length ∧ ∀ x ∈ hd, 128 ≤ x)) := by
  cases h with
  | nil => exact absurd rfl hne
  | step _ q he h =>
    obtain ⟨hd, z, rfl, hl, h0, hk, hs⟩ := dec_head hb he
    have e := dec_append (z := z) h0
    rw [e] at hl h ⊢
    refine ⟨hd, z, _, q, rfl, rfl, hl, h0, rfl, rfl, ?_, hk, hs⟩
    rw [← hl, Int.toNat_natCast, List.drop_left'] at h
    · exact h
    · rfl
theorem dec_hd {hd z : List Int} (h0 : (dec hd).2.2 = 0) : dec (hd ++ z) = dec hd := dec_append h0

/-- Check of the first m bytes of a text, from a place between characters on. -/
theorem chkF_take {l : List Int} (hb : Bytes l) (m : Nat) (hm : m ≤ l.length) (n : Nat) : ∀ (i : Nat) (r : List (Int × Int)), i ≤ m → m - i ≤ n → Cs (l.drop i) r → (chkF n (l.take m) (i : Int)).1 = i + flo r ((m : Int) - i) := by
  induction n with
  | zero =>
    intro i r hi hn h
    obtain rfl : i = m := by omega
    obtain ⟨g, _⟩ := h.good (hb.drop _)
    have := flo_range (r := r) 0 g (Int.le_refl _)
    simp only [chkF]
    rw [show ((i : Int) - i) = 0 by omega]
    omega
  | succ n ih =>
    intro i r hi hn h
    rw [chkF]
    by_cases hlt : i < m
    · have hlen : (l.take m).length = m := by rw [List.length_take]; omega
      rw [if_pos (by rw [hlen]; omega), Int.toNat_natCast, List.drop_take]
      have hne : l.drop i ≠ [] := fun e => by rw [List.drop_eq_nil_iff] at e; omega
      obtain ⟨hd, z, x, q, e, rfl, hl, h0, h1, h2, hz, hk, hs⟩ := h.open (hb.drop _) hne
      rw [e]
      have hx1 : 1 ≤ x.1 := (h.good (hb.drop _)).1.head.1
      by_cases hc : hd.length ≤ m - i
      · have e3 : (hd ++ z).take (m - i) = hd ++ z.take (m - i - hd.length) := by rw [List.take_append, List.take_of_length_le hc]
        rw [e3, dec_hd h0, if_pos h0, h1]
        have hz2 : Cs (l.drop (i + hd.length)) q := by rw [← List.drop_drop, e, List.drop_left' rfl]; exact hz
        have h4 := ih (i + hd.length) q (by omega) (by omega) hz2
        rw [show ((i : Int) + x.1) = ((i + hd.length : Nat) : Int) by omega, h4]
        simp only [flo]
        rw [if_neg (by omega)]
        rw [show ((m : Int) - ((i + hd.length : Nat) : Int)) = (m : Int) - i - x.1 by omega]
        omega
      · have e3 : (hd ++ z).take (m - i) = hd.take (m - i) := by rw [List.take_append_of_le_length (by omega)]
        rw [e3, if_neg (hk _ (by omega))]
        simp only [flo]
        rw [if_pos (by omega)]
        omega
    · obtain rfl : i = m := by omega
      rw [if_neg (by rw [List.length_take]; omega)]
      obtain ⟨g, _⟩ := h.good (hb.drop _)
      have := flo_range (r := r) 0 g (Int.le_refl _)
      rw [show ((i : Int) - i) = 0 by omega]
      show (i : Int) = _
      omega
theorem chk_take {y : List Int} {r : List (Int × Int)} (hb : Bytes y) (h : Cs y r) (m : Nat) (hm : m ≤ y.length) : (chk (y.take m)).1 = flo r m := by
  have h1 := chkF_take hb m hm (y.take m).length 0 r (Nat.zero_le _) (by rw [List.length_take]; omega) (by simpa using h)
  unfold chk
  rw [show ((0 : Nat) : Int) = 0 from rfl] at h1
  rw [h1]
  simp
theorem chk_all {y : List Int} {r : List (Int × Int)} (hb : Bytes y) (h : Cs y r) : chk y = ((y.length : Int), 0) := by
  have h1 := (chk_V hb).2 h.v
  have h2 := chk_take hb h y.length (Nat.le_refl _)
  rw [List.take_length] at h2
  obtain ⟨g, e⟩ := h.good hb
  have h3 := (ufl_sz (r := r) y.length g (by omega)).2
  exact Prod.ext (by rw [h2, h3, e]) h1
/-- A piece of a text till a place between characters. -/
theorem cs_take {y : List Int} {r : List (Int × Int)} (h : Cs y r) (hb : Bytes y) : ∀ k : Int, ∃ q, Cs (y.take (flo r k).toNat) q ∧ un q = ufl r k := by
  induction h with
  | nil => exact fun k => ⟨[], by simpa using Cs.nil, rfl⟩
  | step y r he h ih =>
    intro k
    obtain ⟨hd, z, e, hl, h0, hk, hs⟩ := dec_head hb he
    by_cases hlt : k < (dec y).2.1
    · exact ⟨[], by simp only [flo, if_pos hlt]; simpa using Cs.nil, by simp only [ufl, if_pos hlt, un]⟩
    · obtain ⟨q, hq, hu⟩ := ih (hb.drop _) (k - (dec y).2.1)
      have g := ((Cs.step y r he h).good hb).1
      have hf := flo_range (r := r) (k - (dec y).2.1) g.tail (by omega)
      have hd1 : dec (hd ++ z) = dec hd := dec_append h0
      refine ⟨((dec y).2.1, usz (dec y).1) :: q, ?_, ?_⟩
      · simp only [flo, if_neg hlt]
        have e2 : y.take ((dec y).2.1 + flo r (k - (dec y).2.1)).toNat = hd ++ (y.drop (dec y).2.1.toNat).take (flo r (k - (dec y).2.1)).toNat := by
          rw [← hl, Int.toNat_natCast, show ((hd.length : Int) + flo r (k - hd.length)).toNat = hd.length + (flo r (k - hd.length)).toNat by rw [hl]; omega]
          subst e
          rw [List.take_append, List.take_of_length_le (by omega), List.drop_left' rfl]
          congr 2
          omega
        rw [e2]
        have e4 : dec (hd ++ (y.drop (dec y).2.1.toNat).take (flo r (k - (dec y).2.1)).toNat) = dec y := by rw [dec_append h0, e, hd1]
        have h5 := Cs.step (hd ++ (y.drop (dec y).2.1.toNat).take (flo r (k - (dec y).2.1)).toNat) q (by rw [e4]; exact he) (by
          rw [e4]
          rw [List.drop_left' (by omega)]
          exact hq)
        rw [e4] at h5
        exact h5
      · simp only [ufl, if_neg hlt, un, hu]
theorem V.take {a : List Int} (hb : Bytes a) {hd z : List Int} (h0 : (dec hd).2.2 = 0) (hl : (hd.length : Int) = (dec hd).2.1) : V hd := by
  refine .step hd h0 ?_
  rw [← hl, Int.toNat_natCast, List.drop_length]
  exact .nil

theorem lns_skip (l : List Int) (fr : Int) (m : Nat) : ∀ (i : Nat), i + m ≤ l.length → (∀ j : Nat, i ≤ j → j < i + m → rd l j ≠ 10 ∧ rd l j ≠ 13) → lns (l.drop i) fr i = lns (l.drop (i + m)) fr ((i + m : Nat) : Int) := by
  induction m with
  | zero => intro i _ _; rfl
  | succ m ih =>
    intro i hi hne
    have h1 := hne i (Nat.le_refl _) (by omega)
    have h2 := lns_drop l fr (i : Int) (by omega) (by omega)
    rw [Int.toNat_natCast] at h2
    rw [h2, if_neg h1.1, if_neg h1.2, show ((i : Int) + 1).toNat = i + 1 by omega, show ((i : Int) + 1) = ((i + 1 : Nat) : Int) by omega, ih (i + 1) (by omega) (fun j a b => hne j (by omega) (by omega))]
    rw [show i + 1 + m = i + (m + 1) by omega]
theorem seg_app (l : List Int) (fr i m : Nat) (h : fr ≤ i) : (l.take (i + m)).drop fr = (l.take i).drop fr ++ (l.drop i).take m := by
  rw [List.take_add, List.drop_append]
  congr 1
  by_cases hi : i ≤ l.length
  · rw [show fr - (l.take i).length = 0 by rw [List.length_take]; omega, List.drop_zero]
  · rw [show l.drop i = [] by rw [List.drop_eq_nil_iff]; omega]; simp
/-- Each line, without what ends it, is a text. -/
theorem lns_V (l : List Int) (hb : Bytes l) (n : Nat) : ∀ (fr i : Nat), fr ≤ i → i ≤ l.length → l.length - i ≤ n → V ((l.take i).drop fr) → V (l.drop i) → ∀ x ∈ lns (l.drop i) fr i, V ((l.take x.f1.toNat).drop x.f0.toNat) := by
  induction n with
  | zero =>
    intro fr i hf hi hn h1 h2 x hx
    rw [show l.drop i = [] by rw [List.drop_eq_nil_iff]; omega] at hx
    simp only [lns, List.mem_singleton] at hx
    subst hx
    simpa using h1
  | succ n ih =>
    intro fr i hf hi hn h1 h2 x hx
    by_cases hlt : i < l.length
    · have hne : l.drop i ≠ [] := fun e => by rw [List.drop_eq_nil_iff] at e; omega
      obtain ⟨r, hr⟩ := h2.cs
      obtain ⟨hd, z, y, q, e, rfl, hl, h0, h3, h4, hz, hk, hs⟩ := hr.open (hb.drop _) hne
      have hz2 : l.drop (i + hd.length) = z := by rw [← List.drop_drop, e, List.drop_left' rfl]
      have hlen : i + hd.length ≤ l.length := by
        have := congrArg List.length e
        rw [List.length_drop, List.length_append] at this
        omega
      have hrd : ∀ j : Nat, j < hd.length → rd l ((i + j : Nat) : Int) = hd.getD j 0 := fun j hj => by
        have h9 : l.getD (i + j) 0 = (l.drop i).getD j 0 := by simp [List.getD, List.getElem?_drop]
        simp only [rd, Int.toNat_natCast]
        rw [h9, e]
        simp [List.getD, List.getElem?_append_left hj]
      rcases hs with ⟨b, rfl, hb1⟩ | ⟨hge, hall⟩
      · have hb0 : rd l (i : Int) = b := by have := hrd 0 (by simp); simpa using this
        have h5 := lns_drop l fr (i : Int) (by omega) (by omega)
        rw [Int.toNat_natCast, hb0, show ((i : Int) + 1).toNat = i + 1 by omega, show ((i : Int) + 2).toNat = i + 2 by omega, show ((i : Int) + 1) = ((i + 1 : Nat) : Int) by omega, show ((i : Int) + 2) = ((i + 2 : Nat) : Int) by omega] at h5
        rw [h5] at hx
        have hz3 : l.drop (i + 1) = z := hz2
        have vz : V (l.drop (i + 1)) := by rw [hz3]; exact hz.v
        have nilV : ∀ j : Nat, V ((l.take j).drop j) := fun j => by rw [List.drop_take_self]; exact .nil
        by_cases b10 : b = 10
        · rw [if_pos b10] at hx
          rcases List.mem_cons.1 hx with rfl | hx
          · simpa using h1
          · exact ih (i + 1) (i + 1) (Nat.le_refl _) (by omega) (by omega) (nilV _) vz x hx
        · rw [if_neg b10] at hx
          by_cases b13 : b = 13
          · rw [if_pos b13] at hx
            by_cases h6 : (((i + 1 : Nat) : Int) < l.length ∧ rd l ((i + 1 : Nat) : Int) = 10)
            · rw [if_pos h6] at hx
              rcases List.mem_cons.1 hx with rfl | hx
              · simpa using h1
              · refine ih (i + 2) (i + 2) (Nat.le_refl _) (by omega) (by omega) (nilV _) ?_ x hx
                have hne2 : l.drop (i + 1) ≠ [] := fun e => by rw [List.drop_eq_nil_iff] at e; omega
                have hlt2 : i + 1 < l.length := by omega
                have e7 : l.drop (i + 1) = 10 :: l.drop (i + 2) := by
                  rw [List.drop_eq_getElem_cons hlt2]
                  congr 1
                  have := h6.2
                  simp [rd, List.getD, hlt2] at this
                  exact this
                rw [e7] at vz
                obtain ⟨r2, hr2⟩ := vz.cs
                cases hr2 with
                | step _ _ he9 h9 =>
                  rw [dec_1 _ (by decide)] at h9
                  exact h9.v
            · rw [if_neg h6] at hx
              rcases List.mem_cons.1 hx with rfl | hx
              · simpa using h1
              · exact ih (i + 1) (i + 1) (Nat.le_refl _) (by omega) (by omega) (nilV _) vz x hx
          · rw [if_neg b13] at hx
            refine ih fr (i + 1) (by omega) (by omega) (by omega) ?_ vz x hx
            rw [seg_app l fr i 1 hf, e]
            exact h1.append (fun y hy => hb y (List.mem_of_mem_take (List.mem_of_mem_drop hy))) (by simpa using V.take hb (z := []) h0 (by rw [h3]; exact hl))
      · have h5 := lns_skip l fr hd.length i hlen (fun j a b => by
          have h7 := hrd (j - i) (by omega)
          rw [show i + (j - i) = j by omega] at h7
          have h8 : hd.getD (j - i) 0 ∈ hd := by
            have hj : j - i < hd.length := by omega
            simp [List.getD, hj]
          have := hall _ h8
          rw [h7]
          omega)
        rw [h5] at hx
        refine ih fr (i + hd.length) (by omega) hlen (by omega) ?_ (by rw [hz2]; exact hz.v) x hx
        rw [seg_app l fr i hd.length hf, e, List.take_left' rfl]
        exact h1.append (fun y hy => hb y (List.mem_of_mem_take (List.mem_of_mem_drop hy))) (V.take hb (z := []) h0 (by rw [h3]; exact hl))
    · rw [show l.drop i = [] by rw [List.drop_eq_nil_iff]; omega] at hx
      simp only [lns, List.mem_singleton] at hx
      subst hx
      simpa using h1
theorem line_V {l : List Int} (hb : Bytes l) (hv : V l) (t : Nat) (ht : t < (lns l 0 0).length) : V ((l.take (rdLn (lns l 0 0) t).f1.toNat).drop (rdLn (lns l 0 0) t).f0.toNat) := by
  refine lns_V l hb l.length 0 0 (Nat.le_refl _) (Nat.zero_le _) (by omega) (by simpa using V.nil) (by simpa using hv) _ ?_
  simp only [List.drop_zero]
  have : rdLn (lns l 0 0) t = (lns l 0 0)[t] := by simp [rdLn, List.getD, ht]
  rw [this]
  exact List.getElem_mem _
end Go.Proofs.Ytogfaahdbecdnaa.B

/-
  Plain laws of texts: what the program's and the document's functions on units come to.
-/
namespace Go.Proofs.Ytogfaahdbecdnaa.B
open Go.RowKit Go.Proofs.YtogfaahdbecdnaaW.PrintWords Go.Proofs.YtogfaahdbecdnaaW.PrintLast Go.Proofs.YtogfaahdbecdnaaW.PrintMore Go.Proofs.Ytogfaahdbecdnaa.FBase
set_option linter.unusedVariables false
set_option linter.unusedSimpArgs false

theorem Cs.split {y : List Int} {r : List (Int × Int)} (h : Cs y r) (hne : y ≠ []) : ∃ q, r = ((dec y).2.1, usz (dec y).1) :: q ∧ (dec y).2.2 = 0 ∧ Cs (y.drop (dec y).2.1.toNat) q := by
  cases h with
  | nil => exact absurd rfl hne
  | step _ q he h => exact ⟨q, rfl, he, h⟩
theorem size_f (c : Int) : units_size.f c = some (usz c) := by unfold units_size.f usz; split <;> rfl
theorem usz_range (c : Int) : 1 ≤ usz c ∧ usz c ≤ 2 := by unfold usz; split <;> omega
theorem Of_l (l : List Int) (hb : Bytes l) (hs : l.length ≤ 1048576) (n : Nat) : ∀ (k : Nat) (i : Nat) (many : Int) (r : List (Int × Int)), i ≤ l.length → l.length - i ≤ n → n + 9 < k → Cs (l.drop i) r → 0 ≤ many → many ≤ 2 * i → units_Of.l0 k l many i = some (many + un r, 0) := by
  induction n with
  | zero =>
    intro k i many r hi hn hk h h0 h1
    obtain ⟨k, rfl⟩ : ∃ m, k = m + 1 := ⟨k - 1, by omega⟩
    obtain rfl : i = l.length := by omega
    rw [List.drop_length] at h
    obtain rfl := cs_nil h
    rw [units_Of.l0, if_neg (by omega)]
    simp [un]
  | succ n ih =>
    intro k i many r hi hn hk h h0 h1
    obtain ⟨k, rfl⟩ : ∃ m, k = m + 1 := ⟨k - 1, by omega⟩
    by_cases hlt : i < l.length
    · have hne : l.drop i ≠ [] := fun e => by rw [List.drop_eq_nil_iff] at e; omega
      rw [units_Of.l0, if_pos (by omega), Decode_ge hb hs (by omega) (by omega) (by omega), Int.toNat_natCast, Option.bind_some]
      obtain ⟨q, rfl, he, h⟩ := h.split hne
      have hd := dec_ok (hb.drop i) he
      rw [List.length_drop] at hd
      have hu := usz_range (dec (l.drop i)).1
      rw [if_pos he, size_f, Option.bind_some, w64 _ (by omega) (by omega), w64 _ (by omega) (by omega)]
      have e : ((i : Int) + (dec (l.drop i)).2.1) = ((i + (dec (l.drop i)).2.1.toNat : Nat) : Int) := by omega
      rw [List.drop_drop] at h
      rw [e, ih k (i + (dec (l.drop i)).2.1.toNat) _ q (by omega) (by omega) (by omega) h (by omega) (by omega)]
      simp only [un]
      rw [Int.add_assoc]
    · obtain rfl : i = l.length := by omega
      rw [List.drop_length] at h
      obtain rfl := cs_nil h
      rw [units_Of.l0, if_neg (by omega)]
      simp [un]
theorem Of_f {y : List Int} {r : List (Int × Int)} (hb : Bytes y) (hs : y.length ≤ 1048576) (h : Cs y r) {k : Nat} (hk : y.length + 9 < k) : units_Of.f k y = some (un r, 0) := by
  have := Of_l y hb hs y.length k 0 0 r (Nat.zero_le _) (by omega) hk (by simpa using h) (Int.le_refl _) (by omega)
  unfold units_Of.f
  rw [Int.zero_add] at this
  exact this

theorem ref_units (c : Int) : ∃ t : List Int, colophonref02_units.f c = some t ∧ (t.length : Int) = usz c := by
  unfold colophonref02_units.f usz
  by_cases h : c < 65536
  · rw [if_pos h, if_neg (by omega)]
    exact ⟨_, rfl, rfl⟩
  · rw [if_neg h, if_pos (by omega)]
    exact ⟨_, rfl, rfl⟩
theorem ROf16_l (l : List Int) (hb : Bytes l) (hs : l.length ≤ 1048576) (n : Nat) : ∀ (k : Nat) (i : Nat) (acc : List Int) (r : List (Int × Int)), i ≤ l.length → l.length - i ≤ n → n + 62 < k → Cs (l.drop i) r → acc.length ≤ 2 * i → ∃ out, colophonref02_Of16.l0 k l acc i = some (out, 0) ∧ (out.length : Int) = acc.length + un r := by
  induction n with
  | zero =>
    intro k i acc r hi hn hk h h1
    obtain ⟨k, rfl⟩ : ∃ m, k = m + 1 := ⟨k - 1, by omega⟩
    obtain rfl : i = l.length := by omega
    rw [List.drop_length] at h
    obtain rfl := cs_nil h
    rw [colophonref02_Of16.l0, if_neg (by omega)]
    exact ⟨acc, rfl, by simp [un]⟩
  | succ n ih =>
    intro k i acc r hi hn hk h h1
    obtain ⟨k, rfl⟩ : ∃ m, k = m + 1 := ⟨k - 1, by omega⟩
    by_cases hlt : i < l.length
    · have hne : l.drop i ≠ [] := fun e => by rw [List.drop_eq_nil_iff] at e; omega
      rw [colophonref02_Of16.l0, if_pos (by omega), RDecode_f hb (by omega) (by omega) (by omega), Int.toNat_natCast, Option.bind_some]
      obtain ⟨q, rfl, he, h⟩ := h.split hne
      have hd := dec_ok (hb.drop i) he
      rw [List.length_drop] at hd
      obtain ⟨t, ht, htl⟩ := ref_units (dec (l.drop i)).1
      have hu := usz_range (dec (l.drop i)).1
      rw [if_pos he, ht, Option.bind_some, if_pos (by omega), w64 _ (by omega) (by omega)]
      have e : ((i : Int) + (dec (l.drop i)).2.1) = ((i + (dec (l.drop i)).2.1.toNat : Nat) : Int) := by omega
      rw [List.drop_drop] at h
      obtain ⟨out, ho, hl⟩ := ih k (i + (dec (l.drop i)).2.1.toNat) (acc ++ t) q (by omega) (by omega) (by omega) h (by rw [List.length_append]; omega)
      refine ⟨out, by rw [e, ho], ?_⟩
      rw [hl, List.length_append]
      simp only [un]
      omega
    · obtain rfl : i = l.length := by omega
      rw [List.drop_length] at h
      obtain rfl := cs_nil h
      rw [colophonref02_Of16.l0, if_neg (by omega)]
      exact ⟨acc, rfl, by simp [un]⟩
theorem ROf_f {y : List Int} {r : List (Int × Int)} (hb : Bytes y) (hs : y.length ≤ 1048576) (h : Cs y r) {k : Nat} (hk : y.length + 62 < k) : colophonref02_Of.f k y = some (un r, 0) := by
  obtain ⟨out, ho, hl⟩ := ROf16_l y hb hs y.length k 0 [] r (Nat.zero_le _) (by omega) hk (by simpa using h) (by simp)
  unfold colophonref02_Of.f colophonref02_Of16.f
  rw [show ((0 : Nat) : Int) = 0 from rfl] at ho
  rw [ho, Option.bind_some, hl]
  simp
theorem ROffset_late (l : List Int) (a : Int) (hb : Bytes l) (hs : l.length ≤ 1048576) (n : Nat) : ∀ (k : Nat) (i : Nat) (place seen : Int) (r : List (Int × Int)), i ≤ l.length → l.length - i ≤ n → n + 62 < k → Cs (l.drop i) r → 0 ≤ seen → seen ≤ 2 * i → a < seen → colophonref02_Offset.l0 k l a place seen i = some (place, 0) := by
  induction n with
  | zero =>
    intro k i place seen r hi hn hk h h0 h1 h2
    obtain ⟨k, rfl⟩ : ∃ m, k = m + 1 := ⟨k - 1, by omega⟩
    rw [colophonref02_Offset.l0, if_neg (by omega)]
  | succ n ih =>
    intro k i place seen r hi hn hk h h0 h1 h2
    obtain ⟨k, rfl⟩ : ∃ m, k = m + 1 := ⟨k - 1, by omega⟩
    by_cases hlt : i < l.length
    · have hne : l.drop i ≠ [] := fun e => by rw [List.drop_eq_nil_iff] at e; omega
      rw [colophonref02_Offset.l0, if_pos (by omega), RDecode_f hb (by omega) (by omega) (by omega), Int.toNat_natCast, Option.bind_some]
      obtain ⟨q, rfl, he, h⟩ := h.split hne
      have hd := dec_ok (hb.drop i) he
      rw [List.length_drop] at hd
      obtain ⟨t, ht, htl⟩ := ref_units (dec (l.drop i)).1
      have hu := usz_range (dec (l.drop i)).1
      rw [ht, Option.bind_some, w64 (seen + t.length) (by omega) (by omega), if_neg (by omega), w64 _ (by omega) (by omega)]
      have e : ((i : Int) + (dec (l.drop i)).2.1) = ((i + (dec (l.drop i)).2.1.toNat : Nat) : Int) := by omega
      rw [List.drop_drop] at h
      rw [e, ih k (i + (dec (l.drop i)).2.1.toNat) place _ q (by omega) (by omega) (by omega) h (by omega) (by omega) (by omega)]
    · rw [colophonref02_Offset.l0, if_neg (by omega)]
theorem ROffset_l (l : List Int) (a : Int) (hb : Bytes l) (hs : l.length ≤ 1048576) (n : Nat) : ∀ (k : Nat) (i : Nat) (seen : Int) (r : List (Int × Int)), i ≤ l.length → l.length - i ≤ n → n + 62 < k → Cs (l.drop i) r → 0 ≤ seen → seen ≤ 2 * i → seen ≤ a → colophonref02_Offset.l0 k l a i seen i = some (i + off r (a - seen), 0) := by
  induction n with
  | zero =>
    intro k i seen r hi hn hk h h0 h1 h2
    obtain ⟨k, rfl⟩ : ∃ m, k = m + 1 := ⟨k - 1, by omega⟩
    obtain rfl : i = l.length := by omega
    rw [List.drop_length] at h
    obtain rfl := cs_nil h
    rw [colophonref02_Offset.l0, if_neg (by omega)]
    simp [off]
  | succ n ih =>
    intro k i seen r hi hn hk h h0 h1 h2
    obtain ⟨k, rfl⟩ : ∃ m, k = m + 1 := ⟨k - 1, by omega⟩
    by_cases hlt : i < l.length
    · have hne : l.drop i ≠ [] := fun e => by rw [List.drop_eq_nil_iff] at e; omega
      rw [colophonref02_Offset.l0, if_pos (by omega), RDecode_f hb (by omega) (by omega) (by omega), Int.toNat_natCast, Option.bind_some]
      obtain ⟨q, rfl, he, h⟩ := h.split hne
      have hd := dec_ok (hb.drop i) he
      rw [List.length_drop] at hd
      obtain ⟨t, ht, htl⟩ := ref_units (dec (l.drop i)).1
      have hu := usz_range (dec (l.drop i)).1
      have e : ((i : Int) + (dec (l.drop i)).2.1) = ((i + (dec (l.drop i)).2.1.toNat : Nat) : Int) := by omega
      rw [List.drop_drop] at h
      rw [ht, Option.bind_some, w64 (seen + t.length) (by omega) (by omega), w64 (i + (dec (l.drop i)).2.1) (by omega) (by omega), e]
      by_cases hc : seen + t.length ≤ a
      · rw [if_pos hc, ih k (i + (dec (l.drop i)).2.1.toNat) _ q (by omega) (by omega) (by omega) h (by omega) (by omega) (by omega)]
        simp only [off]
        rw [if_neg (by omega), show a - (seen + (t.length : Int)) = a - seen - usz (dec (l.drop i)).1 by omega]
        congr 2
        omega
      · rw [if_neg hc, ROffset_late l a hb hs n k (i + (dec (l.drop i)).2.1.toNat) _ _ q (by omega) (by omega) (by omega) h (by omega) (by omega) (by omega)]
        simp only [off]
        rw [if_pos (by omega)]
        simp
    · obtain rfl : i = l.length := by omega
      rw [List.drop_length] at h
      obtain rfl := cs_nil h
      rw [colophonref02_Offset.l0, if_neg (by omega)]
      simp [off]
theorem ROffset_f {y : List Int} {r : List (Int × Int)} (a : Int) (h0 : 0 ≤ a) (hb : Bytes y) (hs : y.length ≤ 1048576) (h : Cs y r) {k : Nat} (hk : y.length + 62 < k) : colophonref02_Offset.f k y a = some (off r a, 0) := by
  unfold colophonref02_Offset.f
  rw [RCheck_f y hb hs (by omega), Option.bind_some, chk_all hb h, if_pos rfl, if_neg (by omega)]
  have := ROffset_l y a hb hs y.length k 0 0 r (Nat.zero_le _) (by omega) hk (by simpa using h) (Int.le_refl _) (by omega) (by omega)
  rw [Int.sub_zero] at this
  simpa using this
end Go.Proofs.Ytogfaahdbecdnaa.B

/-
  units.Offset, walked; the words of maps of a text.
-/
namespace Go.Proofs.Ytogfaahdbecdnaa.B
open Go.RowKit Go.Shelf Go.Proofs Go.Proofs.YtogfaahdbecdnaaW.PrintWords Go.Proofs.YtogfaahdbecdnaaW.PrintLast Go.Proofs.YtogfaahdbecdnaaW.PrintMore Go.Proofs.Ytogfaahdbecdnaa.FBase
set_option linter.unusedVariables false
set_option linter.unusedSimpArgs false

set_option maxRecDepth 100000 in
set_option maxHeartbeats 1000000 in
/-- units.Offset of a text. -/
theorem UOffset_ok (A : Option Addr) (c : Nat) (s : List Int) (r : List (Int × Int)) (u : Int) (w : World) (hr : Kd.C (Kd.int .u8) w A s.length s) (hc : s.length ≤ c) (hb : Bytes s) (hs : s.length ≤ 1048576) (h : Cs s r) (h0 : 0 ≤ u) (h1 : u ≤ 9223372036854775807) :
    Calls Try.prog 47 #[.slice A s.length c, .int .i64 u] w fun e w' => e = .returned (.tuple #[.int .i64 (off r u), .int .i64 0]) ∧ Below w.heap.size w w' := by
  have HR := Aside0.mk hr
  have HC := Aside0.mk hc
  have HB := Aside0.mk hb
  have HK := Aside0.mk (show runes_Check.f (s.length + 9) s = some ((s.length : Int), 0) by rw [Check_f s hb hs (Nat.lt_succ_self _), chk_all hb h])
  have HCS := Aside0.mk h
  clear hr hc h hb
  go_enter Try.func47, Try.ntmps47
  go_wp2
  go_step3
  go_wp2_with (go_at_call 55; refine (runes_Check.calls (s.length + 9) _ _ s _ 0 _ (Kd.C_below HR.out (by repeat (first | exact Below.refl _ _ | apply below_alloc | apply pw_below_drewN | apply below_drew1))) HC.out HK.out).mono ?_; rintro e w' ⟨rfl, nc, rfl⟩)
  go_step3
  go_wp2
  go_loopw [1, 8] (fun s1 s8 W => ∃ (n : Nat) (v i : Int), W = w.drewN n ∧ s1 = .int .i64 v ∧ s8 = .int .i64 i ∧ 0 ≤ v ∧ v ≤ 9223372036854775807 ∧ 0 ≤ i ∧ i ≤ s.length ∧ Aside0 (∃ q, Cs (s.drop i.toNat) q ∧ i + off q v = off r u)) (fun _ s8 _ => s.length - (intOf s8).toNat)
  case atStart => exact ⟨nc, u, 0, rfl, rfl, rfl, h0, h1, by omega, by omega, ⟨r, by simpa using HCS.out, by omega⟩⟩
  case round =>
    obtain ⟨n, v, i, rfl, rfl, rfl, hv0, hv1, hi0, hi1, HQ⟩ := hrel
    obtain ⟨q, hq, hoff⟩ := HQ.out
    by_cases hlt : i < s.length
    · have hne : s.drop i.toNat ≠ [] := fun e => by rw [List.drop_eq_nil_iff] at e; omega
      obtain ⟨q2, rfl, he, hq2⟩ := hq.split hne
      have hd := dec_ok (HB.out.drop i.toNat) he
      rw [List.length_drop] at hd
      have hdf := Decode_f s i HB.out hs hi0 hlt
      have hu := usz_range (dec (s.drop i.toNat)).1
      have hsz := size_f (dec (s.drop i.toNat)).1
      rw [show dec (s.drop i.toNat) = ((dec (s.drop i.toNat)).1, (dec (s.drop i.toNat)).2.1, (dec (s.drop i.toNat)).2.2) from rfl, he] at hdf
      simp only [off] at hoff
      rw [List.drop_drop] at hq2
      have hq3 : Cs (s.drop (i + (dec (s.drop i.toNat)).2.1).toNat) q2 := by rw [show (i + (dec (s.drop i.toNat)).2.1).toNat = i.toNat + (dec (s.drop i.toNat)).2.1.toNat by omega]; exact hq2
      clear HQ hq hne hq2 he
      generalize (dec (s.drop i.toNat)).2.1 = nn at *
      generalize (dec (s.drop i.toNat)).1 = cc at *
      have HD := Aside0.mk hdf
      have HU := Aside0.mk hsz
      have HQ3 := Aside0.mk hq3
      have HO := Aside0.mk hoff
      clear hdf hsz hq3 hoff
      generalize usz cc = uu at *
      by_cases hgt : v < uu
      · go_wp2_with (first | (go_at_call 55; refine (runes_Check.calls (s.length + 9) _ _ s _ 0 _ (Kd.C_below HR.out (by repeat (first | exact Below.refl _ _ | apply below_alloc | apply pw_below_drewN | apply below_drew1))) HC.out HK.out).mono ?_; rintro e w' ⟨rfl, nc, rfl⟩) | (go_at_call 44; refine (runes_Decode.calls 8 _ _ s i _ _ _ _ (Kd.C_below HR.out (by repeat (first | exact Below.refl _ _ | apply below_alloc | apply pw_below_drewN | apply below_drew1))) HC.out HD.out).mono ?_; rintro e w' ⟨rfl, nd, rfl⟩) | (go_at_call 68; refine (units_size.calls cc _ _ HU.out).mono ?_; rintro e w' ⟨rfl, ns, rfl⟩))
        first | rw [Exit.noGoto_ret] | skip
        go_ret2
        have := HO.out
        rw [if_pos hgt] at this
        exact ⟨by rw [← this]; simp, (by repeat (first | exact Below.refl _ _ | apply below_alloc | apply pw_below_drewN | apply below_drew1))⟩
      · go_wp2_with (first | (go_at_call 55; refine (runes_Check.calls (s.length + 9) _ _ s _ 0 _ (Kd.C_below HR.out (by repeat (first | exact Below.refl _ _ | apply below_alloc | apply pw_below_drewN | apply below_drew1))) HC.out HK.out).mono ?_; rintro e w' ⟨rfl, nc, rfl⟩) | (go_at_call 44; refine (runes_Decode.calls 8 _ _ s i _ _ _ _ (Kd.C_below HR.out (by repeat (first | exact Below.refl _ _ | apply below_alloc | apply pw_below_drewN | apply below_drew1))) HC.out HD.out).mono ?_; rintro e w' ⟨rfl, nd, rfl⟩) | (go_at_call 68; refine (units_size.calls cc _ _ HU.out).mono ?_; rintro e w' ⟨rfl, ns, rfl⟩))
        go_roundw
        case measure => simp [intOf]; omega
        case rel =>
          have := HO.out
          rw [if_neg (by omega)] at this
          exact ⟨_, v - uu, i + nn, by first | rfl | simp only [World.drewN_drewN], rfl, rfl, by omega, by omega, by omega, by omega, ⟨q2, HQ3.out, by omega⟩⟩
    · obtain rfl : i = s.length := by omega
      rw [Int.toNat_natCast, List.drop_length] at hq
      obtain rfl := cs_nil hq
      have HO := Aside0.mk hoff
      clear hoff hq HQ
      go_wp2
      first | rw [Exit.noGoto_ret] | skip
      go_ret2
      exact ⟨by rw [← HO.out]; simp [off], (by repeat (first | exact Below.refl _ _ | apply below_alloc | apply pw_below_drewN | apply below_drew1))⟩

/-- A text's characters. -/
noncomputable def chars (y : List Int) : List (Int × Int) := open Classical in if h : ∃ r, Cs y r then h.choose else []
theorem V.chars {y : List Int} (h : V y) : Cs y (chars y) := by
  have h1 := h.cs
  unfold B.chars
  rw [dif_pos h1]
  exact h1.choose_spec
theorem chars_is {y : List Int} {r : List (Int × Int)} (h : Cs y r) : chars y = r := (h.v.chars).uniq h
/-- A line's bytes, without what ends it. -/
def seg (l : List Int) (x : Ln) : List Int := (l.take x.f1.toNat).drop x.f0.toNat
/-- A map of a text, at block m. -/
def IsMap (W : World) (m : Nat) (l : List Int) : Prop :=
  ∃ a A c, W.heap[m]? = some (.cells #[.pointer (some ⟨a, 0, none⟩), .slice A l.length c] 88 (0, 0)) ∧ IsIdx W a (lns l 0 0) ∧ l.length ≤ c ∧ Kd.C (Kd.int .u8) W A l.length l
theorem IsMap.below {W W1 : World} {m : Nat} {l : List Int} (h : IsMap W m l) (hb : Below W.heap.size W W1) : IsMap W1 m l := by
  obtain ⟨a, A, c, h1, h2, h3, h4⟩ := h
  exact ⟨a, A, c, (hb.block m (blk_lt h1)).trans h1, h2.below hb, h3, Kd.C_below h4 hb⟩
theorem keeps_map (m : Nat) (l : List Int) : Keeps (fun W => IsMap W m l) := fun _ _ h hb => h.below hb
theorem none_map (w : World) (m : Nat) (l : List Int) (h : IsMap w m l) : Calls Try.prog 63 #[.pointer (some ⟨m, 0, none⟩)] w fun e w' => e = .returned (.bool false) ∧ w = w' := by
  obtain ⟨a, A, c, h1, _, _, _⟩ := h
  have h2 : w.cell? ⟨m, 0, none⟩ = some (.pointer (some ⟨a, 0, none⟩)) := (blk_cell h1 0).trans rfl
  clear h1
  go_enter Try.func63, Try.ntmps63
  go_wp2
  go_ret
  exact ⟨rfl, rfl⟩
/-- A map that is none. -/
def NoMap (W : World) (p : Option Addr) : Prop := p = none ∨ ∃ m, p = some ⟨m, 0, none⟩ ∧ IsBlk W m (.cells #[.pointer none, .slice none 0 0] 88)
theorem NoMap.below {W W1 : World} {p : Option Addr} (h : NoMap W p) (hb : Below W.heap.size W W1) : NoMap W1 p := by
  rcases h with h | ⟨m, h, hI⟩
  · exact .inl h
  · exact .inr ⟨m, h, hI.below hb⟩
theorem keeps_noMap (p : Option Addr) : Keeps (fun W => NoMap W p) := fun _ _ h hb => h.below hb
theorem none_noMap (w : World) (p : Option Addr) (h : NoMap w p) : Calls Try.prog 63 #[.pointer p] w fun e w' => e = .returned (.bool true) ∧ w = w' := by
  rcases h with rfl | ⟨m, rfl, hI⟩
  · go_enter Try.func63, Try.ntmps63
    go_wp2
    go_ret
    exact ⟨rfl, rfl⟩
  · have h2 : w.cell? ⟨m, 0, none⟩ = some (.pointer none) := (hI.cell 0).trans rfl
    clear hI
    go_enter Try.func63, Try.ntmps63
    go_wp2
    go_ret
    exact ⟨rfl, rfl⟩
end Go.Proofs.Ytogfaahdbecdnaa.B

/-
  place.New, walked.
-/
namespace Go.Proofs.Ytogfaahdbecdnaa.B
open Go.RowKit Go.Shelf Go.Proofs Go.Proofs.YtogfaahdbecdnaaW.PrintWords Go.Proofs.YtogfaahdbecdnaaW.PrintLast Go.Proofs.YtogfaahdbecdnaaW.PrintMore Go.Proofs.Ytogfaahdbecdnaa.FBase
set_option linter.unusedVariables false
set_option linter.unusedSimpArgs false

set_option maxRecDepth 100000 in
set_option maxHeartbeats 1000000 in
/-- slices.Clone of bytes. -/
theorem Clone_ok (A : Option Addr) (c : Nat) (l : List Int) (w : World) (hr : Kd.C (Kd.int .u8) w A l.length l) (hc : l.length ≤ c) (hn : A = none → c = 0) (hs : l.length ≤ 1048576) :
    Calls Try.prog 62 #[.slice A l.length c] w fun e w' => ∃ v : Value, e = .returned v ∧ Kd.R (Kd.int .u8) 5 w' w.heap.size (fun _ => True) v l ∧ Below w.heap.size w w' := by
  have HR := Aside0.mk hr
  have HC := Aside0.mk hc
  clear hr
  cases A with
  | none =>
    obtain rfl := hn rfl
    obtain rfl : l = [] := by cases l with | nil => rfl | cons _ _ => simp at hc
    have e0 := fun (w : World) (a : Option Addr) (n c n2 c2 : Nat) => Lib.run_eql_slice_nil (P := Try.prog) w 22 5 a n c n2 c2 Try.underlying22
    go_enter Try.func62, Try.ntmps62
    go_wp2
    go_ret
    exact ⟨_, rfl, Kd.R_nil _ _ _ _ _, Below.refl _ _⟩
  | some ad =>
    clear hc
    have e0 := fun (w : World) (a : Option Addr) (n c n2 c2 : Nat) => Lib.run_eql_slice_nil (P := Try.prog) w 22 5 a n c n2 c2 Try.underlying22
    go_enter Try.func62, Try.ntmps62
    go_wp2_with (first | ((with_reducible refine gate_dst (N := 5) rfl ?_); refine Kd.R_lit (Kd.int .u8) _ 5 ?hg (N := 5) ?hd (xs := ([] : List Int)) (inner := []) (ok := fun _ => True) (okp := fun _ => True) ?hr ?hp (fun _ hk => hk) trivial (Below.refl _ _) (Nat.le_refl _) (by simp) ?_; (case hd => rfl); (case hg => rfl); (case hr => first | (go_simp; done) | (go_simp; rfl)); (case hp => exact (Reps.none _ _)); intro v1 w5 ho hb hg_ hnew_; clear hg_ hnew_; have HO := Aside0.mk ho; have HB := Aside0.mk hb; clear hb ho) | ((with_reducible refine gate_builtin (b := .append) (xs := #[.tmp 5, .tmp 6]) rfl ?_); at_builtin; refine Kd.R_append_rows (Kd.int .u8) (w0 := w) w.heap.size rfl (.tmp 5) (.tmp 6) 22 5 (.int .u8 0) 1 rfl Try.underlying22 info5 rfl (by decide) (by omega) v1 [] l _ _ _ (fun _ => True) (fun _ => False) rfl rfl ?aO ?aR (fun _ _ h => h) (fun _ h => h.elim) ?aF ?aB ?aS ?aL ?_; (case aR => exact Kd.C_below HR.out (by repeat (first | exact HB.out | apply below_alloc | apply pw_below_drewN | apply below_drew1))); (case aB => exact (by repeat (first | exact HB.out | apply below_alloc | apply pw_below_drewN | apply below_drew1))); (case aF => exact (fun _ _ => trivial)); (case aO => exact HO.out); (case aS => exact below_size (by repeat (first | exact HB.out | apply below_alloc | apply pw_below_drewN | apply below_drew1))); (case aL => simp; omega); intro v2 w7 ho hb hg hat; have HB2 := Aside0.mk hb; have HO2 := Aside0.mk ho; clear ho hb hg hat))
    go_ret
    exact ⟨_, rfl, HO2.out, HB2.out⟩

set_option maxHeartbeats 1000000 in
theorem MNew_err (k : Nat) (A : Option Addr) (c : Nat) (l : List Int) (r1 r2 : Int) (w : World) (hr : Kd.C (Kd.int .u8) w A l.length l) (hc : l.length ≤ c) (h : runes_Check.f k l = some (r1, r2)) (hz : r2 ≠ 0) :
    Calls Try.prog 34 #[.slice A l.length c] w fun e w' => e = .returned (.tuple #[.pointer none, .int .i64 r2]) ∧ Below w.heap.size w w' := by
  have HR := Aside0.mk hr
  have HC := Aside0.mk hc
  have H := Aside0.mk h
  have hz2 : (r2 != 0) = true := bne_iff_ne.mpr hz
  clear hr hc h
  go_enter Try.func34, Try.ntmps34
  go_wp2_with (go_at_call 21; refine (New_err k A c l r1 r2 _ HR.out HC.out H.out hz).mono ?_; rintro e w1 ⟨rfl, hb⟩; have HB := Aside0.mk hb; clear hb)
  go_ret2
  exact ⟨rfl, (by repeat (first | exact HB.out | apply below_alloc | apply pw_below_drewN | apply below_drew1))⟩
set_option maxHeartbeats 1000000 in
theorem MNew_ok (k : Nat) (A : Option Addr) (c : Nat) (l : List Int) (r1 : Int) (w : World) (hr : Kd.C (Kd.int .u8) w A l.length l) (hc : l.length ≤ c) (hn : A = none → c = 0) (h : runes_Check.f k l = some (r1, 0)) (hs : l.length ≤ 1048576) :
    Calls Try.prog 34 #[.slice A l.length c] w fun e w' => ∃ m, e = .returned (.tuple #[.pointer (some ⟨m, 0, none⟩), .int .i64 0]) ∧ IsMap w' m l ∧ Below w.heap.size w w' := by
  have HS := Aside0.mk ((Sta.start w).only hr (keeps_C _ _ _ _))
  have HC := Aside0.mk hc
  have H := Aside0.mk h
  clear hr hc h
  go_enter Try.func34, Try.ntmps34
  go_wp2_with (first | (go_at_call 21; refine (New_all k A c l r1 _ (HS.out.step (by repeat (first | exact Below.refl _ _ | apply below_alloc | apply pw_below_drewN | apply below_drew1))).now HC.out H.out hs).mono ?_; rintro e w1 ⟨a, rfl, hle, hI, hb⟩; have hI := hI.now; clear hle; have m_ := Aside0.mk ((HS.out.call (by repeat (first | exact Below.refl _ _ | apply below_alloc | apply pw_below_drewN | apply below_drew1)) hb).add hI (keeps_idx _ _)); clear HS hb hI; have HS := m_; clear m_) | (go_at_call 62; refine (Clone_ok A c l _ (HS.out.step (by repeat (first | exact Below.refl _ _ | apply below_alloc | apply pw_below_drewN | apply below_drew1))).now.2 HC.out hn hs).mono ?_; rintro e w2 ⟨v, rfl, hR, hb⟩; obtain ⟨A2, c2, rfl⟩ := Kd.R_slice hR; obtain ⟨-, hcap, hC⟩ := Kd.R_reads' hR; have HCP := Aside0.mk hcap; clear hcap; have HRR := Aside0.mk hR; clear hR; have m_ := Aside0.mk ((HS.out.call (by repeat (first | exact Below.refl _ _ | apply below_alloc | apply pw_below_drewN | apply below_drew1)) hb).add hC (keeps_C _ _ _ _)); clear HS hb hC; have HS := m_; clear m_))
  go_ret2
  have hS := HS.out.step (below_alloc (Below.refl _ w2) (.cells #[.pointer (some ⟨a, 0, none⟩), .slice A2 l.length c2] 88))
  exact ⟨_, rfl, ⟨a, A2, c2, blk_new w2 _, hS.now.2.1, HCP.out, hS.now.1⟩, hS.bel⟩
end Go.Proofs.Ytogfaahdbecdnaa.B

/-
  place: Offset, Pos, walked.
-/
namespace Go.Proofs.Ytogfaahdbecdnaa.B
open Go.RowKit Go.Shelf Go.Proofs Go.Proofs.YtogfaahdbecdnaaW.PrintWords Go.Proofs.YtogfaahdbecdnaaW.PrintLast Go.Proofs.YtogfaahdbecdnaaW.PrintMore Go.Proofs.Ytogfaahdbecdnaa.FBase
set_option linter.unusedVariables false
set_option linter.unusedSimpArgs false

/-- A piece of a slice of bytes: the cut as it runs, and what it reads as. -/
theorem cut_seg (W : World) (A : Option Addr) (c : Nat) (l : List Int) (x0 x1 : Int) (hC : Kd.C (Kd.int .u8) W A l.length l) (hc : l.length ≤ c) (h0 : 0 ≤ x0) (h1 : x0 ≤ x1) (h2 : x1 ≤ l.length) :
    ∃ B d, (∀ W1 : World, (Instr.slice 22 (.slice A l.length c) (some (.int .i64 x0)) (some (.int .i64 x1)) none).run Try.prog W1 = .ok (.slice B ((l.take x1.toNat).drop x0.toNat).length d) W1) ∧
      Kd.C (Kd.int .u8) W B ((l.take x1.toNat).drop x0.toNat).length ((l.take x1.toNat).drop x0.toNat) ∧ ((l.take x1.toNat).drop x0.toNat).length ≤ d := by
  obtain ⟨i0, hi0, _, hsz, _⟩ := info_parts info5
  have hcut := cut_mid (P := Try.prog) 22 5 .i64 .i64 Try.underlying22 hi0 1 hsz A l.length c x0 x1 h0 h1 h2 hc
  have hmid := Kd.C_mid hC (lo := x0.toNat) (hi := x1.toNat) (by omega) (by omega) hc
  have hml : ((l.take x1.toNat).drop x0.toNat).length = x1.toNat - x0.toNat := by rw [List.length_drop, List.length_take]; omega
  refine ⟨_, c - x0.toNat, fun W1 => ?_, hmid, ?_⟩
  · rw [hml]; exact hcut W1
  · rw [hml]; omega
/-- The same from the beginning on. -/
theorem cut_pre (W : World) (A : Option Addr) (c : Nat) (l : List Int) (x1 : Int) (hC : Kd.C (Kd.int .u8) W A l.length l) (hc : l.length ≤ c) (h0 : 0 ≤ x1) (h2 : x1 ≤ l.length) :
    (∀ W1 : World, (Instr.slice 22 (.slice A l.length c) none (some (.int .i64 x1)) none).run Try.prog W1 = .ok (.slice A (l.take x1.toNat).length c) W1) ∧
      Kd.C (Kd.int .u8) W A (l.take x1.toNat).length (l.take x1.toNat) ∧ (l.take x1.toNat).length ≤ c := by
  obtain ⟨i0, hi0, _, hsz, _⟩ := info_parts info5
  have hcut := cut_to (P := Try.prog) 22 5 .i64 Try.underlying22 hi0 A l.length c x1 h0 h2 hc
  have hmid := Kd.C_take hC (m := x1.toNat) (by omega)
  have hml : (l.take x1.toNat).length = x1.toNat := by rw [List.length_take]; omega
  refine ⟨fun W1 => ?_, hmid, ?_⟩
  · rw [hml]; exact hcut W1
  · rw [hml]; omega

/-- A map, laid open: the block of its lines, its text's address. -/
def MapAt (W : World) (m a : Nat) (A : Option Addr) (c : Nat) (l : List Int) : Prop :=
  IsIdx W a (lns l 0 0) ∧ Kd.C (Kd.int .u8) W A l.length l ∧ IsBlk W m (.cells #[.pointer (some ⟨a, 0, none⟩), .slice A l.length c] 88)
theorem IsMap.open {W : World} {m : Nat} {l : List Int} (h : IsMap W m l) : ∃ a A c, l.length ≤ c ∧ MapAt W m a A c l := by
  obtain ⟨a, A, c, h1, h2, h3, h4⟩ := h
  exact ⟨a, A, c, h3, h2, h4, h1⟩
theorem MapAt.map {W : World} {m a c : Nat} {A : Option Addr} {l : List Int} (h : MapAt W m a A c l) (hc : l.length ≤ c) : IsMap W m l := ⟨a, A, c, h.2.2, h.1, hc, h.2.1⟩
theorem keeps_mapAt (m a : Nat) (A : Option Addr) (c : Nat) (l : List Int) : Keeps (fun W => MapAt W m a A c l) := keeps_and (keeps_idx _ _) (keeps_and (keeps_C _ _ _ _) (keeps_blk _ _))

set_option maxRecDepth 100000 in
set_option maxHeartbeats 1000000 in
/-- (*place.Map).Offset of what is no place. -/
theorem MOffset_neg (m : Nat) (l : List Int) (line char : Int) (w : World) (hM : IsMap w m l) (h : line < 0 ∨ char < 0) :
    Calls Try.prog 37 #[.pointer (some ⟨m, 0, none⟩), .agg #[.int .i64 line, .int .i64 char]] w fun e w' => e = .returned (.tuple #[.int .i64 0, .int .i64 9]) ∧ Below w.heap.size w w' := by
  obtain ⟨a, A, c, hc, hA⟩ := hM.open
  have HC := Aside0.mk hc
  have hb1 := below_alloc (Below.refl _ w) (.cells #[.int .i64 line, .int .i64 char] 58)
  have HS : Aside0 (Sta w (w.alloc (.cells #[.int .i64 line, .int .i64 char] 58)) (fun W => IsBlk W w.heap.size (.cells #[.int .i64 line, .int .i64 char] 58) ∧ MapAt W m a A c l)) := ⟨⟨hb1, ⟨blk_new w _, keeps_mapAt m a A c l _ _ hA hb1⟩, keeps_and (keeps_blk _ _) (keeps_mapAt _ _ _ _ _)⟩⟩
  have cb : (w.alloc (.cells #[.int .i64 line, .int .i64 char] 58)).cell? ⟨w.heap.size, 0, none⟩ = some (.int .i64 line) := HS.out.now.1.cell 0
  have cc : (w.alloc (.cells #[.int .i64 line, .int .i64 char] 58)).cell? ⟨w.heap.size, 1, none⟩ = some (.int .i64 char) := HS.out.now.1.cell 1
  clear hM hA hb1 hc
  by_cases hl : line < 0
  all_goals
    have hch : ¬ line < 0 → decide (char < 0) = true := fun h => decide_eq_true (by omega)
    go_enter Try.func37, Try.ntmps37
    go_wp2_with (go_at_call 63; refine (none_map _ m l (MapAt.map (HS.out.step (by repeat (first | exact Below.refl _ _ | apply below_alloc | apply pw_below_drewN | apply below_drew1))).now.2 HC.out)).mono ?_; rintro e w' ⟨rfl, rfl⟩)
    go_ret2
    exact ⟨rfl, HS.out.bel⟩

set_option maxRecDepth 100000 in
set_option maxHeartbeats 1000000 in
/-- (*place.Map).Offset of a map that is none. -/
theorem MOffset_no (p : Option Addr) (line char : Int) (w : World) (hN : NoMap w p) :
    Calls Try.prog 37 #[.pointer p, .agg #[.int .i64 line, .int .i64 char]] w fun e w' => e = .returned (.tuple #[.int .i64 0, .int .i64 1]) ∧ Below w.heap.size w w' := by
  have HN := Aside0.mk hN
  clear hN
  go_enter Try.func37, Try.ntmps37
  go_wp2_with (go_at_call 63; refine (none_noMap _ p (HN.out.below (by repeat (first | exact Below.refl _ _ | apply below_alloc | apply pw_below_drewN | apply below_drew1)))).mono ?_; rintro e w' ⟨rfl, rfl⟩)
  go_ret2
  exact ⟨rfl, below_alloc (Below.refl _ _) _⟩

set_option maxRecDepth 100000 in
set_option maxHeartbeats 1000000 in
/-- (*place.Map).Offset of a place behind the last line. -/
theorem MOffset_far (m : Nat) (l : List Int) (line char : Int) (w : World) (hM : IsMap w m l) (hs : l.length ≤ 1048576) (h0 : 0 ≤ line) (h1 : 0 ≤ char) (h : (lns l 0 0).length ≤ line) :
    Calls Try.prog 37 #[.pointer (some ⟨m, 0, none⟩), .agg #[.int .i64 line, .int .i64 char]] w fun e w' => e = .returned (.tuple #[.int .i64 l.length, .int .i64 0]) ∧ Below w.heap.size w w' := by
  obtain ⟨a, A, c, hc, hA⟩ := hM.open
  have HC := Aside0.mk hc
  have hb1 := below_alloc (Below.refl _ w) (.cells #[.int .i64 line, .int .i64 char] 58)
  have HS : Aside0 (Sta w (w.alloc (.cells #[.int .i64 line, .int .i64 char] 58)) (fun W => IsBlk W w.heap.size (.cells #[.int .i64 line, .int .i64 char] 58) ∧ MapAt W m a A c l)) := ⟨⟨hb1, ⟨blk_new w _, keeps_mapAt m a A c l _ _ hA hb1⟩, keeps_and (keeps_blk _ _) (keeps_mapAt _ _ _ _ _)⟩⟩
  have cb : (w.alloc (.cells #[.int .i64 line, .int .i64 char] 58)).cell? ⟨w.heap.size, 0, none⟩ = some (.int .i64 line) := HS.out.now.1.cell 0
  have cc : (w.alloc (.cells #[.int .i64 line, .int .i64 char] 58)).cell? ⟨w.heap.size, 1, none⟩ = some (.int .i64 char) := HS.out.now.1.cell 1
  have cm : (w.alloc (.cells #[.int .i64 line, .int .i64 char] 58)).cell? ⟨m, 0, none⟩ = some (.pointer (some ⟨a, 0, none⟩)) := HS.out.now.2.2.2.cell 0
  clear hM hA hb1 hc
  have hch := lns_chain0 l
  have hln : (lns l 0 0).length ≤ 2097152 := by have := hch.length_le; omega
  have hpos := hch.pos
  obtain ⟨L, hL⟩ : ∃ L, L = lns l 0 0 := ⟨_, rfl⟩
  have HLE := Aside0.mk hL
  rw [← hL] at hln hpos h
  clear hL hch
  have d0 : decide (line < 0) = false := decide_eq_false (by omega)
  have d1 : decide (char < 0) = false := decide_eq_false (by omega)
  have d2 : decide ((L.length : Int) ≤ line) = true := decide_eq_true h
  go_enter Try.func37, Try.ntmps37
  go_upto_region 5 with (go_at_call 63; refine (none_map _ m l (MapAt.map (HS.out.step (by repeat (first | exact Below.refl _ _ | apply below_alloc | apply pw_below_drewN | apply below_drew1))).now.2 HC.out)).mono ?_; rintro e w' ⟨rfl, rfl⟩)
  go_region_held3 (fun wx => wx.cell? ⟨w.heap.size, 0, none⟩ = some (.int .i64 line) ∧ wx.cell? ⟨m, 0, none⟩ = some (.pointer (some ⟨a, 0, none⟩))) (go_keep) (first | (go_at_call 26; refine (Count_ok a L _ (HLE.out ▸ (HS.out.step (by repeat (first | exact Below.refl _ _ | apply below_alloc | apply pw_below_drewN | apply below_drew1))).now.2.1) hpos hln).mono ?_; rintro e w5 ⟨rfl, hb⟩; have m_ := Aside0.mk (HS.out.call (by repeat (first | exact Below.refl _ _ | apply below_alloc | apply pw_below_drewN | apply below_drew1)) hb); clear HS hb ; have HS := m_; clear m_; have cb : w5.cell? ⟨w.heap.size, 0, none⟩ = some (.int .i64 line) := HS.out.now.1.cell 0; have cm : w5.cell? ⟨m, 0, none⟩ = some (.pointer (some ⟨a, 0, none⟩)) := HS.out.now.2.2.2.cell 0))
  have c1 : w5.cell? ⟨m, 1, none⟩ = some (.slice A l.length c) := HS.out.now.2.2.2.cell 1
  go_wp2
  go_ret2
  exact ⟨rfl, HS.out.bel⟩
end Go.Proofs.Ytogfaahdbecdnaa.B

/-
  lines: a range over All whose body keeps an invariant: one law.
-/
namespace Go.Proofs.Ytogfaahdbecdnaa.B
open Go.RowKit Go.Shelf Go.Proofs Go.Proofs.YtogfaahdbecdnaaW.PrintWords Go.Proofs.YtogfaahdbecdnaaW.PrintLast Go.Proofs.YtogfaahdbecdnaaW.PrintMore Go.Proofs.Ytogfaahdbecdnaa.FBase
set_option linter.unusedVariables false
attribute [local go_sem] Oper.semAt_some

set_option maxRecDepth 100000 in
set_option maxHeartbeats 2000000 in
/-- All's closure, told by the lines' numbers. -/
theorem All2 (n : Nat) (hn : 1 ≤ n) (l Bs n₀ a : Nat) (L : List Ln) (hpos : 0 < L.length) (hs : L.length ≤ 2097152) (J Jx : List Nat → World → Prop)
    (W : World) (hJ : AbidesFrom W.heap.size J) (hJx : AbidesFrom W.heap.size Jx)
    (hY : ∀ pre x W1, J pre W1 → pre.length < L.length → YieldAt Fence.wide (n - 1) Try.prog l (encLn (nthLn L x)) W1 fun e W' =>
      (e = .returned (.bool true) ∧ J (pre ++ [x]) W' ∧ Below n₀ W1 W') ∨ (e = .returned (.bool false) ∧ Jx (pre ++ [x]) W'))
    (w0 : World) (hw0 : w0.heap.size = n₀) (hbW : Below n₀ w0 W) (hI : IsIdx w0 a L) (hBs : W.cell? ⟨Bs, 0, none⟩ = some (.pointer (some ⟨a, 0, none⟩))) (h0 : J [] W) :
    CallsIn Fence.wide n Try.prog 59 #[.func (.yield l) #[] #[], .pointer (some ⟨Bs, 0, none⟩)] W fun e W' => (∃ v, e = .returned v) ∧
      ((∃ ys, ys = List.range L.length ∧ J ys W') ∨ (∃ pre, (∃ k, k ≤ L.length ∧ pre = List.range k) ∧ Jx pre W')) := by
  subst hw0
  have HI := Aside0.mk hI
  have hbW' : Below w0.heap.size w0 W := hbW
  obtain ⟨A, c, h3, hl, hC⟩ := hI.cell
  have h3W := (hbW.cell (World.block_lt_of_cell? w0 _ h3)).trans h3
  have HC := Aside0.mk hC
  have HB := Aside0.mk hbW
  have HJ := Aside0.mk hJ
  have HY := Aside0.mk hY
  clear hI hC hJ hJx hbW hbW' hY h3
  refine callsIn_of_wp Try.func59 rfl trivial ?_ rfl
  simp only [Try.ntmps59, List.size_toArray, List.length_cons, List.length_nil, Nat.reduceAdd, Nat.reduceSub, Array.replicate_succ, Array.replicate_zero, List.push_toArray, List.append_toArray, List.nil_append, List.cons_append]
  gi_wp2_with (refine ⟨trivial, ?_⟩; gi_at_call 58; refine (callsIn_wide.2 (none_idx _ a L (IsIdx.below HI.out HB.out) hpos)).mono ?_; rintro e w' ⟨rfl, rfl⟩)
  gi_loopw [12] (fun i wr => ∃ k : Nat, k ≤ L.length ∧ i = .int .i64 k ∧ Aside0 (J (List.range k) wr) ∧ Aside0 (Below w0.heap.size W wr) ∧ Aside0 (W.heap.size ≤ wr.heap.size))
    (fun i _ => L.length - (intOf i).toNat)
  case atStart => exact ⟨0, Nat.zero_le _, rfl, ⟨h0⟩, ⟨Below.refl _ _⟩, ⟨Nat.le_refl _⟩⟩
  case round =>
    obtain ⟨k, hk, rfl, HJs, HBr, HSz⟩ := hrel
    by_cases hlt : k < L.length
    · obtain ⟨ad, e, h4, h5, h6⟩ := atLn HC.out (k : Int) (by omega) (by omega)
      cases e
      rw [Int.toNat_natCast] at h4 h5 h6
      have hB2 := HB.out.trans HBr.out
      have g4 := (hB2.cell (World.block_lt_of_cell? w0 _ h4)).trans h4
      have g5 := (hB2.cell (World.block_lt_of_cell? w0 _ h5)).trans h5
      have g6 := (hB2.cell (World.block_lt_of_cell? w0 _ h6)).trans h6
      clear h4 h5 h6 hB2
      have hJa : J (List.range k) (wr.alloc (.cells #[.int .i64 (rdLn L k).f0, .int .i64 (rdLn L k).f1, .int .i64 (rdLn L k).f2] 90)) :=
        HJ.out _ _ _ none HJs.out (World.grownBy_alloc _ _ none) (fun r e => by cases e)
      obtain ⟨fn, tmps, assign, body, hy, hR⟩ := HY.out _ k _ hJa (by rw [List.length_range]; exact hlt)
      dsimp only [encLn, nthLn] at hy
      gi_wp2
      refine hR.mono ?_
      rintro e W3 (⟨rfl, hJ3, hk3⟩ | ⟨rfl, hJx3⟩)
      · gi_wp2
        go_roundw
        case rel => exact ⟨k + 1, by omega, by simp, ⟨by rw [List.range_succ]; exact hJ3⟩, ⟨(HBr.out.alloc (by have := HB.out.size; have := HSz.out; omega) _).trans hk3⟩, ⟨by have := hk3.size; have := HSz.out; simp at *; omega⟩⟩
        case measure => simp [intOf]; omega
      · gi_wp2
        refine bodyPost_ret (results_none rfl _ _ _) rfl ?_
        exact ⟨⟨_, rfl⟩, .inr ⟨_, ⟨k + 1, by omega, List.range_succ.symm⟩, hJx3⟩⟩
    · obtain rfl : k = L.length := by omega
      gi_wp2
      go_end0
      exact ⟨⟨_, rfl⟩, .inl ⟨_, rfl, HJs.out⟩⟩

theorem All_stops2 (n : Nat) (hn : 1 ≤ n) (Bs n₀ a : Nat) (L : List Ln) (hpos : 0 < L.length) (hs : L.length ≤ 2097152) (w0 w : World) (hw0 : w0.heap.size = n₀) (hbW : Below n₀ w0 w) (hI : IsIdx w0 a L) (hBs : Bs < w.heap.size) (hc : w.cell? ⟨Bs, 0, none⟩ = some (.pointer (some ⟨a, 0, none⟩))) :
    SeqStopsK Fence.wide n Try.prog 59 #[.pointer (some ⟨Bs, 0, none⟩)] (fun j => encLn (nthLn L j)) (Below n₀) (fun ys => ys = List.range L.length)
      (fun pre => ∃ k, k ≤ L.length ∧ pre = List.range k) L.length w := fun l J Jx W hW hJ hJx hY h0 => by
  have hc' := (hW.cell (p := ⟨Bs, 0, none⟩) hBs).trans hc
  exact All2 n hn l Bs n₀ a L hpos hs J Jx W hJ hJx hY w0 hw0 (hbW.trans (hW.mono (by have := hbW.size; omega))) hI hc' h0

/-- A box: a block of one cell, which may be written. -/
def Box1 (W : World) (g : Nat) (v : Value) : Prop := W.cell? ⟨g, 0, none⟩ = some v ∧ W.frozen? ⟨g, 0, none⟩ = false
theorem box1_own {β : Type} (B g : Nat) (v : β → Value) : OwnFrom B (fun (s : β) W => Box1 W g (v s)) :=
  Own.from (fun s A B row hs hg hr => ⟨cell_kept hs.1 hg hr, (frozen_kept hs.1 hg hr).trans hs.2⟩) B
theorem Box1.below {W W1 : World} {g : Nat} {v : Value} (h : Box1 W g v) (hb : Below W.heap.size W W1) : Box1 W1 g v := by
  have hlt := World.block_lt_of_cell? W _ h.1
  exact ⟨(hb.cell hlt).trans h.1, (hb.frozen hlt).trans h.2⟩
theorem Box1.new (W : World) (t : TypeId) (v : Value) : Box1 (W.alloc (.cells #[v] t)) W.heap.size v := ⟨(blk_cell (blk_new W _) 0).trans rfl, blk_frozen (blk_new W _) 0⟩
theorem Box1.set {W : World} {g : Nat} {v : Value} (h : Box1 W g v) (u : Value) : Box1 (W.setCell ⟨g, 0, none⟩ u) g u :=
  ⟨World.cell?_setCell_same' _ _ _ (by rw [h.1]; rfl), by rw [World.frozen?_setCell]; exact h.2⟩
theorem keepsFrom_below {B : Nat} {W W1 : World} (hb : Below W.heap.size W W1) : KeepsFrom B W W1 := ⟨hb.size, fun k o _ hk _ => (hb.block k (blk_lt hk)).trans hk⟩
theorem keepsFrom_set {B : Nat} {W W1 : World} (h : KeepsFrom B W W1) (p : Addr) (u : Value) : KeepsFrom B W (W1.setCell p u) := h.trans ((KeepsOthers.setCell _ _ _).from _)

/-- A range over what All hands back of an index: the body keeps I; it may be left by way of c, then Ix c holds. n₀: the blocks below it are those of w0, and the body keeps them. -/
theorem wp_range_all (a : Nat) (L : List Ln) (Bs n₀ : Nat) (g : Operand) (ps : Array Tmp) (assign body : Code) (Q : Exit → Act → World → Prop) (ac : Act) (w0 W : World) (I : List Nat → World → Prop) (Ix : Code → List Nat → World → Prop) (a1 : Nat → Act)
    (hg : ac.eval g = .func (.func 59) #[] #[.pointer (some ⟨Bs, 0, none⟩)]) (hw0 : w0.heap.size = n₀) (hb0 : Below n₀ w0 W) (hI : IsIdx w0 a L) (hpos : 0 < L.length) (hs : L.length ≤ 2097152)
    (hBs : Bs < W.heap.size) (hc : W.cell? ⟨Bs, 0, none⟩ = some (.pointer (some ⟨a, 0, none⟩))) (hps : ps.size = 2)
    (hIo : OwnFrom W.heap.size I) (hIxo : ∀ c, OwnFrom W.heap.size (Ix c)) (h0 : I [] W)
    (hassign : ∀ (l : Nat) (x : Nat) (W1 : World) (K : Act → World → Prop), K (a1 x) W1 → assign.wpIn (Fence.wide.inRound l) 4 Try.prog (Exit.then K (fun _ _ _ => False)) { tmps := (ps.zip (encLn (nthLn L x))).foldl (fun t (p, v) => t.setIfInBounds p v) ac.tmps, defers := [] } W1)
    (hbody : ∀ (l : Nat) (pre : List Nat) (x : Nat) (W1 : World), I pre W1 → pre.length < L.length → body.wpIn (Fence.wide.inRound l) 4 Try.prog (ownPostG W.heap.size (Below n₀) I Ix (pre ++ [x]) W1) (a1 x) W1)
    (hdone : ∀ D W1, W.heap.size ≤ D → I (List.range L.length) W1 → W1.heap[D]? = some (.deferred (some [])) → Q .normal { ac with defers := { target := .collected D, args := #[] } :: ac.defers } W1)
    (hstop : ∀ D c k W1, W.heap.size ≤ D → k ≤ L.length → Ix c (List.range k) W1 → W1.heap[D]? = some (.deferred (some [])) → c.wpIn Fence.wide 6 Try.prog Q { ac with defers := { target := .collected D, args := #[] } :: ac.defers } W1) :
    (Code.rangeFunc g ps assign body).wp Try.prog Q ac W := by
  refine (wpIn_wide (n := 6)).1 ?_
  refine wpIn_rangeFunc_ownG rfl (by omega) (gf := 59) (lb := #[.pointer (some ⟨Bs, 0, none⟩)]) hg trivial (enters_of Try.func59 (by kernel_rfl) rfl)
    (All_stops2 _ (by omega) Bs n₀ a L hpos hs w0 W hw0 hb0 hI hBs hc) belowK_t (belowK_b (by have := hb0.size; omega)) (Below.refl _ _) (fun _ => hps.symm)
    I Ix hIo hIxo h0 a1 hassign hbody ?_ ?_
  · rintro D ys W1 hD rfl hB hK
    exact hdone D W1 hD hB hK
  · rintro D c pre W1 hD ⟨k, hk, rfl⟩ h hK
    exact hstop D c k W1 hD hk h hK
end Go.Proofs.Ytogfaahdbecdnaa.B

/-
  lines: a range over All whose body has the line's span in a box of its own in each round.
-/
namespace Go.Proofs.Ytogfaahdbecdnaa.B
open Go.RowKit Go.Shelf Go.Proofs Go.Proofs.YtogfaahdbecdnaaW.PrintWords Go.Proofs.YtogfaahdbecdnaaW.PrintLast Go.Proofs.YtogfaahdbecdnaaW.PrintMore Go.Proofs.Ytogfaahdbecdnaa.FBase
set_option linter.unusedVariables false
attribute [local go_sem] Oper.semAt_some

/-- Block b has a span. -/
def SpBox (W : World) (b : Nat) (x : Ln) : Prop := W.cell? ⟨b, 0, none⟩ = some (.int .i64 x.f0) ∧ W.cell? ⟨b, 1, none⟩ = some (.int .i64 x.f1)
theorem SpBox.below {W W1 : World} {b : Nat} {x : Ln} (h : SpBox W b x) (hb : Below W.heap.size W W1) : SpBox W1 b x := by
  exact ⟨(hb.cell (World.block_lt_of_cell? W _ h.1)).trans h.1, (hb.cell (World.block_lt_of_cell? W _ h.2)).trans h.2⟩

/-- As wp_range_all, but the line's span lies in a box in each round: up x b: the frame's slots as round x finds them, the box being b. -/
theorem wp_range_box (a : Nat) (L : List Ln) (Bs n₀ : Nat) (g : Operand) (ps : Array Tmp) (assign body : Code) (Q : Exit → Act → World → Prop) (ac : Act) (w0 W : World) (I : List Nat → World → Prop) (Ix : Code → List Nat → World → Prop) (up : Nat → Nat → Array Value → Array Value)
    (hg : ac.eval g = .func (.func 59) #[] #[.pointer (some ⟨Bs, 0, none⟩)]) (hw0 : w0.heap.size = n₀) (hb0 : Below n₀ w0 W) (hI : IsIdx w0 a L) (hpos : 0 < L.length) (hs : L.length ≤ 2097152)
    (hBs : Bs < W.heap.size) (hc : W.cell? ⟨Bs, 0, none⟩ = some (.pointer (some ⟨a, 0, none⟩))) (hps : ps.size = 2)
    (hIo : OwnFrom W.heap.size I) (hIxo : ∀ c, OwnFrom W.heap.size (Ix c)) (h0 : I [] W) (hIb : ∀ pre W1 W2, I pre W1 → n₀ ≤ W1.heap.size → Below W1.heap.size W1 W2 → I pre W2)
    (hIz : ∀ pre W1, I pre W1 → n₀ ≤ W1.heap.size)
    (hassign : ∀ (l : Nat) (x : Nat) (W1 : World) (K : Act → World → Prop), K { tmps := up x W1.heap.size ac.tmps, defers := [] } (W1.alloc (.cells #[.int .i64 (rdLn L x).f0, .int .i64 (rdLn L x).f1] 35)) →
      assign.wpIn (Fence.wide.inRound l) 4 Try.prog (Exit.then K (fun _ _ _ => False)) { tmps := (ps.zip (encLn (nthLn L x))).foldl (fun t (p, v) => t.setIfInBounds p v) ac.tmps, defers := [] } W1)
    (hbody : ∀ (l : Nat) (pre : List Nat) (x b : Nat) (W1 : World), I pre W1 → SpBox W1 b (rdLn L x) → pre.length < L.length → body.wpIn (Fence.wide.inRound l) 4 Try.prog (ownPostG W.heap.size (Below n₀) I Ix (pre ++ [x]) W1) { tmps := up x b ac.tmps, defers := [] } W1)
    (hdone : ∀ D W1, W.heap.size ≤ D → I (List.range L.length) W1 → W1.heap[D]? = some (.deferred (some [])) → Q .normal { ac with defers := { target := .collected D, args := #[] } :: ac.defers } W1)
    (hstop : ∀ D c k W1, W.heap.size ≤ D → k ≤ L.length → Ix c (List.range k) W1 → W1.heap[D]? = some (.deferred (some [])) → c.wpIn Fence.wide 6 Try.prog Q { ac with defers := { target := .collected D, args := #[] } :: ac.defers } W1) :
    (Code.rangeFunc g ps assign body).wp Try.prog Q ac W := by
  refine (wpIn_wide (n := 6)).1 ?_
  refine wpIn_rangeFunc_ownH rfl (by omega) (gf := 59) (lb := #[.pointer (some ⟨Bs, 0, none⟩)]) hg trivial (enters_of Try.func59 (by kernel_rfl) rfl)
    (All_stops2 _ (by omega) Bs n₀ a L hpos hs w0 W hw0 hb0 hI hBs hc) belowK_t (belowK_b (by have := hb0.size; omega)) (Below.refl _ _) (fun _ => hps.symm)
    I Ix hIo hIxo h0 (fun x a' W1 => ∃ b, a' = { tmps := up x b ac.tmps, defers := [] } ∧ SpBox W1 b (rdLn L x)) ?_ ?_ ?_ ?_ ?_
  · intro x a' s W1 W2 row hs hg' hr
    obtain ⟨b, e, h⟩ := hs
    exact ⟨b, e, cell_kept h.1 hg' (fun r e => (hr r e).2), cell_kept h.2 hg' (fun r e => (hr r e).2)⟩
  · intro l pre x W1 K hi hK
    have hbel := below_alloc (Below.refl _ W1) (.cells #[.int .i64 (rdLn L x).f0, .int .i64 (rdLn L x).f1] 35)
    refine hassign l x W1 K (hK _ _ (keepsFrom_below hbel) (hbel.mono (hIz _ _ hi)) (hIb _ _ _ hi (hIz _ _ hi) hbel) ⟨W1.heap.size, rfl, ?_, ?_⟩)
    · rw [blk_cell (blk_new W1 _)]; rfl
    · rw [blk_cell (blk_new W1 _)]; rfl
  · rintro l pre x a' W1 - - hi ⟨b, rfl, hb⟩ hlt
    exact hbody l pre x b W1 hi hb hlt
  · rintro D ys W1 hD rfl hB hK
    exact hdone D W1 hD hB hK
  · rintro D c pre W1 hD ⟨k, hk, rfl⟩ h hK
    exact hstop D c k W1 hD hk h hK
end Go.Proofs.Ytogfaahdbecdnaa.B

/-
  place: Offset of a place in a line, walked.
-/
namespace Go.Proofs.Ytogfaahdbecdnaa.B
open Go.RowKit Go.Shelf Go.Proofs Go.Proofs.YtogfaahdbecdnaaW.PrintWords Go.Proofs.YtogfaahdbecdnaaW.PrintLast Go.Proofs.YtogfaahdbecdnaaW.PrintMore Go.Proofs.Ytogfaahdbecdnaa.FBase
set_option linter.unusedVariables false
set_option linter.unusedSimpArgs false

theorem bcell {W w1 : World} (hb : Below W.heap.size W w1) : (∀ b o, b < W.heap.size → w1.cell? ⟨b, o, none⟩ = W.cell? ⟨b, o, none⟩) ∧ (∀ b o, b < W.heap.size → w1.frozen? ⟨b, o, none⟩ = W.frozen? ⟨b, o, none⟩) :=
  ⟨fun b o h => hb.cell (p := ⟨b, o, none⟩) h, fun b o h => hb.frozen (p := ⟨b, o, none⟩) h⟩
theorem froz_alloc1 {W : World} {p : Addr} {v : Value} (hc : W.cell? p = some v) (h : W.frozen? p = false) (o : Obj) : (W.alloc o).frozen? p = false := ((below_alloc (Below.refl _ W) o).frozen (World.block_lt_of_cell? W _ hc)).trans h
theorem sp_two {W : World} {b : Nat} {u v p q : Value} (h0 : W.cell? ⟨b, 0, none⟩ = some u) (h1 : W.cell? ⟨b, 1, none⟩ = some v) :
    ((W.setCell ⟨b, 0, none⟩ p).setCell ⟨b, 1, none⟩ q).cell? ⟨b, 0, none⟩ = some p ∧ ((W.setCell ⟨b, 0, none⟩ p).setCell ⟨b, 1, none⟩ q).cell? ⟨b, 1, none⟩ = some q :=
  ⟨(World.cell?_setCell_other _ _ _ _ (by simp)).trans (World.cell?_setCell_same' _ _ _ (by rw [h0]; rfl)), World.cell?_setCell_same' _ _ _ (by rw [World.cell?_setCell_other _ _ _ _ (by simp), h1]; rfl)⟩
theorem keeps_sp (b : Nat) (x : Ln) : Keeps (fun W => SpBox W b x) := fun _ _ h hb => h.below hb

set_option maxRecDepth 100000 in
set_option maxHeartbeats 1000000 in
/-- (*place.Map).Offset of a place in a line. -/
theorem MOffset_in (m : Nat) (l : List Int) (line char : Int) (w : World) (hM : IsMap w m l) (hs : l.length ≤ 1048576) (hB : Bytes l) (hv : V l) (h0 : 0 ≤ line) (h1 : 0 ≤ char) (h1b : char ≤ 9223372036854775807) (hlt : line < (lns l 0 0).length) :
    Calls Try.prog 37 #[.pointer (some ⟨m, 0, none⟩), .agg #[.int .i64 line, .int .i64 char]] w fun e w' => e = .returned (.tuple #[.int .i64 ((rdLn (lns l 0 0) line).f0 + off (chars (seg l (rdLn (lns l 0 0) line))) char), .int .i64 0]) ∧ Below w.heap.size w w' := by
  obtain ⟨a, A, c, hc, hA⟩ := hM.open
  have HC := Aside0.mk hc
  have hb1 := below_alloc (Below.refl _ w) (.cells #[.int .i64 line, .int .i64 char] 58)
  have HS : Aside0 (Sta w (w.alloc (.cells #[.int .i64 line, .int .i64 char] 58)) (fun W => IsBlk W w.heap.size (.cells #[.int .i64 line, .int .i64 char] 58) ∧ MapAt W m a A c l)) := ⟨⟨hb1, ⟨blk_new w _, keeps_mapAt m a A c l _ _ hA hb1⟩, keeps_and (keeps_blk _ _) (keeps_mapAt _ _ _ _ _)⟩⟩
  have cb : (w.alloc (.cells #[.int .i64 line, .int .i64 char] 58)).cell? ⟨w.heap.size, 0, none⟩ = some (.int .i64 line) := HS.out.now.1.cell 0
  have cc : (w.alloc (.cells #[.int .i64 line, .int .i64 char] 58)).cell? ⟨w.heap.size, 1, none⟩ = some (.int .i64 char) := HS.out.now.1.cell 1
  have cm : (w.alloc (.cells #[.int .i64 line, .int .i64 char] 58)).cell? ⟨m, 0, none⟩ = some (.pointer (some ⟨a, 0, none⟩)) := HS.out.now.2.2.2.cell 0
  clear hM hA hb1 hc
  have hch := lns_chain0 l
  have hln : (lns l 0 0).length ≤ 2097152 := by have := hch.length_le; omega
  have hpos := hch.pos
  have hat := hch.at line.toNat (by omega)
  rw [show ((line.toNat : Nat) : Int) = line by omega] at hat
  have hsv := line_V hB hv line.toNat (by omega)
  rw [show ((line.toNat : Nat) : Int) = line by omega] at hsv
  have hcs : Cs (seg l (rdLn (lns l 0 0) line)) (chars (seg l (rdLn (lns l 0 0) line))) := V.chars hsv
  have hsl : (seg l (rdLn (lns l 0 0) line)).length ≤ 1048576 := by unfold seg; rw [List.length_drop, List.length_take]; omega
  have hbs : Bytes (seg l (rdLn (lns l 0 0) line)) := fun y hy => hB y (List.mem_of_mem_take (List.mem_of_mem_drop hy))
  have hsgl : ((seg l (rdLn (lns l 0 0) line)).length : Int) = (rdLn (lns l 0 0) line).f1 - (rdLn (lns l 0 0) line).f0 := by unfold seg; rw [List.length_drop, List.length_take]; omega
  obtain ⟨g, hsz⟩ := hcs.good hbs
  have hor := off_range char g
  have x0 : 0 ≤ (rdLn (lns l 0 0) line).f0 := hat.1
  have x1 : (rdLn (lns l 0 0) line).f0 ≤ (rdLn (lns l 0 0) line).f1 := hat.2.1
  have x2 : (rdLn (lns l 0 0) line).f1 ≤ l.length := by have := hat.2.2.1; have := hat.2.2.2.1; omega
  rw [hsz, hsgl] at hor
  have hseg : seg l (rdLn (lns l 0 0) line) = (l.take (rdLn (lns l 0 0) line).f1.toNat).drop (rdLn (lns l 0 0) line).f0.toNat := rfl
  have HSEG := Aside0.mk hseg
  clear hat hsv hch hseg hsgl hsz g
  generalize chars (seg l (rdLn (lns l 0 0) line)) = r at *
  generalize seg l (rdLn (lns l 0 0) line) = sg at *
  obtain ⟨L, hL⟩ : ∃ L, L = lns l 0 0 := ⟨_, rfl⟩
  have HLE := Aside0.mk hL
  rw [← hL] at hln hpos hlt hor x0 x1 x2 HSEG ⊢
  clear hL
  have HCS := Aside0.mk hcs
  have HBS := Aside0.mk hbs
  clear hcs hbs
  have d0 : decide (line < 0) = false := decide_eq_false (by omega)
  have d1 : decide (char < 0) = false := decide_eq_false (by omega)
  have d2 : decide ((L.length : Int) ≤ line) = false := decide_eq_false (by omega)
  obtain ⟨x, hx⟩ : ∃ x, x = rdLn L line := ⟨_, rfl⟩
  have HX := Aside0.mk hx
  rw [← hx] at hor x0 x1 x2 HSEG ⊢
  clear hx
  go_enter Try.func37, Try.ntmps37
  go_upto_region 5 with (go_at_call 63; refine (none_map _ m l (MapAt.map (HS.out.step (by repeat (first | exact Below.refl _ _ | apply below_alloc | apply pw_below_drewN | apply below_drew1))).now.2 HC.out)).mono ?_; rintro e w' ⟨rfl, rfl⟩)
  go_region_held3 (fun wx => wx.cell? ⟨w.heap.size, 0, none⟩ = some (.int .i64 line) ∧ wx.cell? ⟨m, 0, none⟩ = some (.pointer (some ⟨a, 0, none⟩))) (go_keep) (first | (go_at_call 26; refine (Count_ok a L _ (HLE.out ▸ (HS.out.step (by repeat (first | exact Below.refl _ _ | apply below_alloc | apply pw_below_drewN | apply below_drew1))).now.2.1) hpos hln).mono ?_; rintro e w5 ⟨rfl, hb⟩; have m_ := Aside0.mk (HS.out.call (by repeat (first | exact Below.refl _ _ | apply below_alloc | apply pw_below_drewN | apply below_drew1)) hb); clear HS hb ; have HS := m_; clear m_; have cb : w5.cell? ⟨w.heap.size, 0, none⟩ = some (.int .i64 line) := HS.out.now.1.cell 0; have cm : w5.cell? ⟨m, 0, none⟩ = some (.pointer (some ⟨a, 0, none⟩)) := HS.out.now.2.2.2.cell 0))
  go_upto_region 7 with fail
  go_cut [6, 7, 8] from 10 (fun s6 s7 s8 W => ∃ b7, s7 = .pointer (some ⟨b7, 0, none⟩) ∧ s8 = .int .i64 0 ∧ Aside0 (Sta w W (fun W => SpBox W b7 x ∧ IsBlk W w.heap.size (.cells #[.int .i64 line, .int .i64 char] 58) ∧ MapAt W m a A c l)))
  case first =>
    have n1 := blk_lt HS.out.now.1
    have n2 := blk_lt HS.out.now.2.2.2
    have HS5 := HS
    have e1 : ¬ (w5.heap.size = w.heap.size) := by omega
    have e2 : ¬ (w.heap.size = w5.heap.size) := by omega
    have e3 : ¬ (w5.heap.size = m) := by omega
    have e4 : ¬ (m = w5.heap.size) := by omega
    have e5 : ¬ (w5.heap.size + 1 = w.heap.size) := by omega
    have e6 : ¬ (w.heap.size = w5.heap.size + 1) := by omega
    have e7 : ¬ (w5.heap.size + 1 = m) := by omega
    have e8 : ¬ (m = w5.heap.size + 1) := by omega
    go_region_held3 (fun wx => wx.cell? ⟨w.heap.size, 0, none⟩ = some (.int .i64 line) ∧ wx.cell? ⟨m, 0, none⟩ = some (.pointer (some ⟨a, 0, none⟩))) (go_keep) (first | (go_at_call 27; refine (Line_ok a L line _ (HLE.out ▸ (HS.out.step (by repeat (first | exact Below.refl _ _ | apply below_alloc | apply pw_below_drewN | apply below_drew1))).now.2.1) h0 hlt hln).mono ?_; rintro e w6 ⟨rfl, hb⟩; rw [← HX.out]; obtain ⟨hbc, hbf⟩ := bcell hb; have z0 := hbc w5.heap.size 0; have z1 := hbc w5.heap.size 1; have y0 := hbf w5.heap.size 0; have y1 := hbf w5.heap.size 1; have z2 := hbc (w5.heap.size + 1) 0; have z3 := hbc (w5.heap.size + 1) 1; have y2 := hbf (w5.heap.size + 1) 0; have y3 := hbf (w5.heap.size + 1) 1; simp at z0 z1 y0 y1 z2 z3 y2 y3; (try (have za0 := cell_alloc1 z0; have za1 := cell_alloc1 z1; have ya0 := froz_alloc1 z0 y0; have ya1 := froz_alloc1 z1 y1; have q0 := Nat.ne_of_lt (World.block_lt_of_cell? _ _ z0); have q1 := Ne.symm q0)); clear hbc hbf; have HBC := Aside0.mk hb; have HBZ := Aside0.mk hb.size; have m_ := Aside0.mk (HS.out.call (by repeat (first | exact Below.refl _ _ | apply below_alloc | apply pw_below_drewN | apply below_drew1)) hb); clear HS hb ; have HS := m_; clear m_; have cb : w6.cell? ⟨w.heap.size, 0, none⟩ = some (.int .i64 line) := HS.out.now.1.cell 0; have cm : w6.cell? ⟨m, 0, none⟩ = some (.pointer (some ⟨a, 0, none⟩)) := HS.out.now.2.2.2.cell 0; have cb1 := cell_alloc1 cb; have cb2 := cell_alloc2 cb; have cm1 := cell_alloc1 cm; have cm2 := cell_alloc2 cm; have qb := World.block_lt_of_cell? _ _ cb; have qm := World.block_lt_of_cell? _ _ cm; have qb1 := Nat.ne_of_lt qb; have qb2 := Ne.symm qb1; have qb3 := Nat.ne_of_lt (Nat.lt_succ_of_lt qb); have qb4 := Ne.symm qb3; have qm1 := Nat.ne_of_lt qm; have qm2 := Ne.symm qm1; have qm3 := Nat.ne_of_lt (Nat.lt_succ_of_lt qm); have qm4 := Ne.symm qm3))
    all_goals
      have hbz := HBZ.out
      simp at hbz
      clear HBZ HS
      go_wp2
      go_meet
      refine ⟨_, rfl, rfl, ⟨(HS5.out.step ?_).add ⟨?_, ?_⟩ (keeps_sp _ _)⟩⟩
      · repeat' (first | exact below_step (by repeat (first | exact Below.refl _ _ | apply below_alloc | apply pw_below_drewN | apply below_drew1)) HBC.out | apply below_alloc | apply below_drew1 | apply Below.setCell | (simp; done) | (simp; omega))
      · first | (go_simp; done) | (simp [*]; done) | exact (sp_two ((World.cell?_setCell_other _ _ _ _ (by simp)).trans ((World.cell?_setCell_other _ _ _ _ (by simp)).trans (z0 (Nat.lt_succ_of_lt (Nat.lt_succ_self _))))) ((World.cell?_setCell_other _ _ _ _ (by simp)).trans ((World.cell?_setCell_other _ _ _ _ (by simp)).trans (z1 (Nat.lt_succ_of_lt (Nat.lt_succ_self _)))))).1
      · first | (go_simp; done) | (simp [*]; done) | exact (sp_two ((World.cell?_setCell_other _ _ _ _ (by simp)).trans ((World.cell?_setCell_other _ _ _ _ (by simp)).trans (z0 (Nat.lt_succ_of_lt (Nat.lt_succ_self _))))) ((World.cell?_setCell_other _ _ _ _ (by simp)).trans ((World.cell?_setCell_other _ _ _ _ (by simp)).trans (z1 (Nat.lt_succ_of_lt (Nat.lt_succ_self _)))))).2
  case rest =>
    clear cb cc cm HS
    obtain ⟨b7, rfl, rfl, HS⟩ := hcut
    have cb : wc.cell? ⟨w.heap.size, 1, none⟩ = some (.int .i64 char) := HS.out.now.2.1.cell 1
    have cm : wc.cell? ⟨m, 1, none⟩ = some (.slice A l.length c) := HS.out.now.2.2.2.2.cell 1
    have s0 : wc.cell? ⟨b7, 0, none⟩ = some (.int .i64 x.f0) := HS.out.now.1.1
    have s1 : wc.cell? ⟨b7, 1, none⟩ = some (.int .i64 x.f1) := HS.out.now.1.2
    obtain ⟨B, d, hcut, hsg, hsd⟩ := cut_seg _ A c l x.f0 x.f1 HS.out.now.2.2.2.1 HC.out x0 x1 x2
    rw [← HSEG.out] at hcut hsg hsd
    have HSG := Aside0.mk hsg
    have HSD := Aside0.mk hsd
    clear hsg hsd
    have wr : wrap64 (x.f0 + off r char) = x.f0 + off r char := by unfold wrap64; omega
    go_upto_region 10 with fail
    go_cut [8, 9] from 10 (fun s8 s9 W => s8 = .int .i64 0 ∧ s9 = .int .i64 (off r char) ∧ Aside0 (Sta w W (fun W => SpBox W b7 x ∧ IsBlk W w.heap.size (.cells #[.int .i64 line, .int .i64 char] 58) ∧ MapAt W m a A c l)))
    case first =>
      go_region_held3 (fun wx => wx.cell? ⟨w.heap.size, 1, none⟩ = some (.int .i64 char) ∧ wx.cell? ⟨m, 1, none⟩ = some (.slice A l.length c) ∧ wx.cell? ⟨b7, 0, none⟩ = some (.int .i64 x.f0) ∧ wx.cell? ⟨b7, 1, none⟩ = some (.int .i64 x.f1)) (go_keep) (first | (go_at_call 47; refine (UOffset_ok B d sg r char _ (Kd.C_below HSG.out (by repeat (first | exact Below.refl _ _ | apply below_alloc | apply pw_below_drewN | apply below_drew1))) HSD.out HBS.out hsl HCS.out h1 h1b).mono ?_; rintro e w8 ⟨rfl, hb⟩; have m_ := Aside0.mk (HS.out.call (by repeat (first | exact Below.refl _ _ | apply below_alloc | apply pw_below_drewN | apply below_drew1)) hb); clear HS hb ; have HS := m_; clear m_; have cb : w8.cell? ⟨w.heap.size, 1, none⟩ = some (.int .i64 char) := HS.out.now.2.1.cell 1; have cm : w8.cell? ⟨m, 1, none⟩ = some (.slice A l.length c) := HS.out.now.2.2.2.2.cell 1; have s0 : w8.cell? ⟨b7, 0, none⟩ = some (.int .i64 x.f0) := HS.out.now.1.1; have s1 : w8.cell? ⟨b7, 1, none⟩ = some (.int .i64 x.f1) := HS.out.now.1.2))
      go_wp2
      go_meet
      exact ⟨rfl, rfl, HS⟩
    case rest =>
      clear cb cm s0 s1 HS
      obtain ⟨rfl, rfl, HS⟩ := hcut
      have s0 : wc.cell? ⟨b7, 0, none⟩ = some (.int .i64 x.f0) := HS.out.now.1.1
      go_wp2
      go_ret2
      exact ⟨rfl, HS.out.bel⟩
end Go.Proofs.Ytogfaahdbecdnaa.B
