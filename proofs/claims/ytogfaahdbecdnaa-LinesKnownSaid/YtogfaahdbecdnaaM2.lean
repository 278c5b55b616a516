/-
  Plain laws of characters and lines: a text and a text behind it.
-/
import Derived.Test.YtogfaahdbecdnaaE6
namespace Go.Proofs.Ytogfaahdbecdnaa.B
open Go.RowKit Go.Proofs.YtogfaahdbecdnaaW.PrintWords Go.Proofs.YtogfaahdbecdnaaW.PrintLast Go.Proofs.YtogfaahdbecdnaaW.PrintMore Go.Proofs.Ytogfaahdbecdnaa.FBase
set_option linter.unusedVariables false

theorem restOf_append {c n lo hi : Int} {t z : List Int} (he : (restOf c n lo hi t).2.2 = 0) : restOf c n lo hi (t ++ z) = restOf c n lo hi t := by
  unfold restOf at *
  cases t with
  | nil => simp at he
  | cons b1 t1 =>
    simp only [List.cons_append] at he ⊢
    by_cases l1 : b1 < lo
    · simp [l1]
    · by_cases g1 : hi < b1
      · simp [l1, g1]
      · rw [if_neg l1, if_neg g1] at he ⊢
        rw [if_neg l1, if_neg g1]
        by_cases n2 : n = 2
        · rw [if_pos n2, if_pos n2]
        · rw [if_neg n2] at he ⊢
          rw [if_neg n2]
          cases t1 with
          | nil => simp at he
          | cons b2 t2 =>
            simp only [List.cons_append] at he ⊢
            by_cases l2 : b2 < 128
            · simp [l2]
            · by_cases g2 : 191 < b2
              · simp [l2, g2]
              · rw [if_neg l2, if_neg g2] at he ⊢
                rw [if_neg l2, if_neg g2]
                by_cases n3 : n = 3
                · rw [if_pos n3, if_pos n3]
                · rw [if_neg n3] at he ⊢
                  rw [if_neg n3]
                  cases t2 with
                  | nil => simp at he
                  | cons b3 t3 => rfl
theorem dec_append {y z : List Int} (he : (dec y).2.2 = 0) : dec (y ++ z) = dec y := by
  unfold dec at *
  cases y with
  | nil => simp at he
  | cons b t =>
    simp only [List.cons_append] at he ⊢
    by_cases e1 : sizeOfFirst b = 1
    · simp [e1]
    · by_cases e0 : sizeOfFirst b = 0
      · simp [e0]
      · rw [if_neg e1, if_neg e0] at he ⊢
        rw [if_neg e1, if_neg e0]
        by_cases e2 : sizeOfFirst b = 2
        · rw [if_pos e2] at he ⊢
          rw [if_pos e2]
          exact restOf_append he
        · rw [if_neg e2] at he ⊢
          rw [if_neg e2]
          by_cases e3 : sizeOfFirst b = 3
          · rw [if_pos e3] at he ⊢
            rw [if_pos e3]
            exact restOf_append he
          · rw [if_neg e3] at he ⊢
            rw [if_neg e3]
            exact restOf_append he

/-- Characters, one behind the other. -/
inductive V : List Int → Prop
  | nil : V []
  | step (y : List Int) (he : (dec y).2.2 = 0) (h : V (y.drop (dec y).2.1.toNat)) : V y
theorem chkF_V {l : List Int} (hb : Bytes l) (n : Nat) : ∀ (i : Int), 0 ≤ i → i ≤ l.length → (l.length : Int) - i ≤ n → ((chkF n l i).2 = 0 ↔ V (l.drop i.toNat)) := by
  induction n with
  | zero =>
    intro i h0 h1 hn
    rw [show l.drop i.toNat = [] by rw [List.drop_eq_nil_iff]; omega]
    exact ⟨fun _ => .nil, fun _ => rfl⟩
  | succ n ih =>
    intro i h0 h1 hn
    rw [chkF]
    by_cases hi : i < (l.length : Int)
    · rw [if_pos hi]
      have hne : l.drop i.toNat ≠ [] := by rw [Ne, List.drop_eq_nil_iff]; omega
      by_cases he : (dec (l.drop i.toNat)).2.2 = 0
      · rw [if_pos he]
        have hd := dec_ok (hb.drop i.toNat) he
        have hlen : (l.drop i.toNat).length = l.length - i.toNat := List.length_drop
        rw [ih _ (by omega) (by omega) (by omega)]
        have e : (l.drop (i + (dec (l.drop i.toNat)).2.1).toNat) = (l.drop i.toNat).drop (dec (l.drop i.toNat)).2.1.toNat := by
          rw [List.drop_drop]
          congr 1
          omega
        rw [e]
        refine ⟨fun h => .step _ he h, fun h => ?_⟩
        generalize l.drop i.toNat = y at *
        cases h with
        | nil => exact absurd rfl hne
        | step _ _ h => exact h
      · rw [if_neg he]
        refine ⟨fun h => absurd h he, fun h => ?_⟩
        generalize l.drop i.toNat = y at *
        cases h with
        | nil => exact absurd rfl hne
        | step _ h _ => exact absurd h he
    · rw [if_neg hi, show l.drop i.toNat = [] by rw [List.drop_eq_nil_iff]; omega]
      exact ⟨fun _ => .nil, fun _ => rfl⟩
theorem chk_V {l : List Int} (hb : Bytes l) : (chk l).2 = 0 ↔ V l := by
  have := chkF_V hb l.length 0 (Int.le_refl _) (by omega) (by omega)
  rwa [Int.toNat_zero, List.drop_zero] at this
theorem V.append {a b : List Int} (h : V a) (ha : Bytes a) (hb : V b) : V (a ++ b) := by
  induction h with
  | nil => exact hb
  | step y he h ih =>
    refine .step _ (by rw [dec_append he]; exact he) ?_
    have hd := dec_ok ha he
    rw [dec_append he, List.drop_append_of_le_length (by omega)]
    exact ih (ha.drop _)
theorem Bytes.append {a b : List Int} (ha : Bytes a) (hb : Bytes b) : Bytes (a ++ b) := fun x hx => (List.mem_append.1 hx).elim (ha x) (hb x)

/-- How many lines there are: wherever they lie. -/
theorem lns_len (n : Nat) : ∀ (l : List Int) (fr i fr' i' : Int), l.length ≤ n → (lns l fr i).length = (lns l fr' i').length := by
  induction n with
  | zero =>
    intro l fr i fr' i' hl
    obtain rfl : l = [] := List.length_eq_zero_iff.1 (by omega)
    rw [lns, lns]
    rfl
  | succ n ih =>
    intro l fr i fr' i' hl
    cases l with
    | nil => rw [lns, lns]; rfl
    | cons b r =>
      simp only [List.length_cons] at hl
      rw [lns, lns]
      by_cases h10 : b = 10
      · rw [if_pos h10, if_pos h10, List.length_cons, List.length_cons, ih r _ _ (i' + 1) (i' + 1) (by omega)]
      · rw [if_neg h10, if_neg h10]
        by_cases h13 : b = 13
        · rw [if_pos h13, if_pos h13]
          by_cases h2 : r.head? = some 10
          · rw [if_pos h2, if_pos h2, List.length_cons, List.length_cons, ih r.tail _ _ (i' + 2) (i' + 2) (by simp; omega)]
          · rw [if_neg h2, if_neg h2, List.length_cons, List.length_cons, ih r _ _ (i' + 1) (i' + 1) (by omega)]
        · rw [if_neg h13, if_neg h13, ih r _ _ fr' (i' + 1) (by omega)]
def nl (l : List Int) : Nat := (lns l 0 0).length
theorem nl_is (l : List Int) (fr i : Int) : (lns l fr i).length = nl l := lns_len l.length l fr i 0 0 (Nat.le_refl _)
theorem nl_nil : nl [] = 1 := by simp [nl, lns]
theorem nl_10 (r : List Int) : nl (10 :: r) = nl r + 1 := by rw [nl, lns, if_pos rfl, List.length_cons, nl_is]
theorem nl_1310 (r : List Int) : nl (13 :: 10 :: r) = nl r + 1 := by rw [nl, lns, if_neg (by decide), if_pos rfl, if_pos (show (10 :: r : List Int).head? = some 10 from rfl), List.length_cons, nl_is]; rfl
theorem nl_13 (r : List Int) (h : r.head? ≠ some 10) : nl (13 :: r) = nl r + 1 := by rw [nl, lns, if_neg (by decide), if_pos rfl, if_neg h, List.length_cons, nl_is]
theorem nl_else (b : Int) (r : List Int) (h : b ≠ 10) (h1 : b ≠ 13) : nl (b :: r) = nl r := by rw [nl, lns, if_neg h, if_neg h1, nl_is]

/-- 13 at the one's end and 10 at the other's beginning. -/
def Meet (a b : List Int) : Prop := a.getLast? = some 13 ∧ b.head? = some 10
theorem nl_two (n : Nat) : ∀ (a b : List Int), a.length ≤ n → (Meet a b → nl (a ++ b) + 2 = nl a + nl b) ∧ (¬ Meet a b → nl (a ++ b) + 1 = nl a + nl b) := by
  induction n with
  | zero =>
    intro a b hl
    obtain rfl : a = [] := List.length_eq_zero_iff.1 (by omega)
    rw [nl_nil, List.nil_append]
    exact ⟨fun h => by simp [Meet] at h, fun _ => by omega⟩
  | succ n ih =>
    intro a b hl
    cases a with
    | nil =>
      rw [nl_nil, List.nil_append]
      exact ⟨fun h => by simp [Meet] at h, fun _ => by omega⟩
    | cons x r =>
      simp only [List.length_cons] at hl
      have hm : r ≠ [] → (Meet (x :: r) b ↔ Meet r b) := fun hr => by
        cases r with
        | nil => exact absurd rfl hr
        | cons y r' => simp only [Meet, List.getLast?_cons_cons]
      have hr := ih r b (by omega)
      rw [List.cons_append]
      by_cases h10 : x = 10
      · subst h10
        rw [nl_10, nl_10]
        by_cases hn : r = []
        · subst hn
          have h2 := hr.2 (by simp [Meet])
          exact ⟨fun h => by simp [Meet] at h, fun _ => by omega⟩
        · rw [hm hn]
          exact ⟨fun h => by have := hr.1 h; omega, fun h => by have := hr.2 h; omega⟩
      · by_cases h13 : x = 13
        · subst h13
          cases r with
          | nil =>
            rw [List.nil_append, show nl [13] = 2 by rw [nl_13 _ (by simp), nl_nil]]
            by_cases hb : b.head? = some 10
            · obtain ⟨b', rfl⟩ : ∃ b', b = 10 :: b' := by
                cases b with
                | nil => simp at hb
                | cons y b' => simp at hb; subst hb; exact ⟨b', rfl⟩
              rw [nl_1310, nl_10]
              exact ⟨fun _ => by omega, fun h => absurd ⟨rfl, rfl⟩ h⟩
            · rw [nl_13 _ hb]
              exact ⟨fun h => absurd h.2 hb, fun _ => by omega⟩
          | cons y r' =>
            rw [hm (by simp)]
            by_cases hy : y = 10
            · subst hy
              rw [List.cons_append, nl_1310, nl_1310]
              simp only [List.length_cons] at hl
              have h2 := ih r' b (by omega)
              by_cases hn : r' = []
              · subst hn
                have h3 := h2.2 (by simp [Meet])
                exact ⟨fun h => by simp [Meet] at h, fun _ => by omega⟩
              · have hm2 : Meet (10 :: r') b ↔ Meet r' b := by
                  cases r' with
                  | nil => exact absurd rfl hn
                  | cons z r2 => simp only [Meet, List.getLast?_cons_cons]
                rw [hm2]
                exact ⟨fun h => by have := h2.1 h; omega, fun h => by have := h2.2 h; omega⟩
            · rw [nl_13 _ (by simpa using hy), nl_13 _ (by simpa using hy)]
              exact ⟨fun h => by have := hr.1 h; omega, fun h => by have := hr.2 h; omega⟩
        · rw [nl_else _ _ h10 h13, nl_else _ _ h10 h13]
          by_cases hn : r = []
          · subst hn
            have h2 := hr.2 (by simp [Meet])
            exact ⟨fun h => by simp [Meet] at h; omega, fun _ => by omega⟩
          · rw [hm hn]
            exact hr
end Go.Proofs.Ytogfaahdbecdnaa.B
