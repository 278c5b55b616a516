/-
  Texts of this session, one behind the other: P0, D0, U0, U1, M0, M1, E7, E6, M2, M3, M4, M5, M6, M7, G0, G1, G2, H0, H1, H2, B7, B8, H3, H4, H5, G3, N0, N1, N2, N3.
-/
import Derived.Test.YtjebkpcekkkbkaaZO140
set_option linter.unusedSimpArgs false
set_option linter.unusedVariables false
namespace Go.Proofs.Ytjebkpcekkkbkaa.B
open Go.RowKit Go.Proofs.YtjebkpcekkkbkaaW.PrintWords Go.Proofs.YtjebkpcekkkbkaaW.PrintLast Go.Proofs.YtjebkpcekkkbkaaW.PrintMore Go.Proofs.Ytjebkpcekkkbkaa.FBase
def Chain : List Ln → Int → Int → Prop
  | [], _, _ => False
  | [x], fr, e => x.f0 = fr ∧ fr ≤ x.f1 ∧ x.f1 = x.f2 ∧ x.f2 = e
  | x :: y :: r, fr, e => x.f0 = fr ∧ fr ≤ x.f1 ∧ x.f1 < x.f2 ∧ x.f2 ≤ x.f1 + 2 ∧ Chain (y :: r) x.f2 e
theorem Chain.cons {x : Ln} {r : List Ln} {fr e : Int} (h0 : x.f0 = fr) (h1 : fr ≤ x.f1) (h2 : x.f1 < x.f2) (h3 : x.f2 ≤ x.f1 + 2) (h : Chain r x.f2 e) : Chain (x :: r) fr e := by
  cases r with
  | nil => exact h.elim
  | cons y r => exact ⟨h0, h1, h2, h3, h⟩
theorem lns_chain (n : Nat) : ∀ (l : List Int) (fr i : Int), l.length ≤ n → fr ≤ i → Chain (lns l fr i) fr (i + l.length) := by
  induction n with
  | zero =>
    intro l fr i hl hfi
    obtain rfl : l = [] := List.length_eq_zero_iff.1 (by omega)
    rw [lns]
    exact ⟨rfl, hfi, rfl, by simp⟩
  | succ n ih =>
    intro l fr i hl hfi
    cases l with
    | nil => rw [lns]; exact ⟨rfl, hfi, rfl, by simp⟩
    | cons b r =>
      rw [lns]
      simp only [List.length_cons] at hl ⊢
      by_cases h10 : b = 10
      · rw [if_pos h10]
        refine Chain.cons rfl hfi (by show i < i + 1; omega) (by show i + 1 ≤ i + 2; omega) ?_
        have := ih r (i + 1) (i + 1) (by omega) (Int.le_refl _)
        rwa [show i + 1 + (r.length : Int) = i + ((r.length + 1 : Nat) : Int) by omega] at this
      · rw [if_neg h10]
        by_cases h13 : b = 13
        · rw [if_pos h13]
          by_cases h2 : r.head? = some 10
          · rw [if_pos h2]
            refine Chain.cons rfl hfi (by show i < i + 2; omega) (by show i + 2 ≤ i + 2; omega) ?_
            have hr : 0 < r.length := by
              cases r with
              | nil => simp at h2
              | cons y r => simp
            have := ih r.tail (i + 2) (i + 2) (by simp; omega) (Int.le_refl _)
            rwa [show i + 2 + (r.tail.length : Int) = i + ((r.length + 1 : Nat) : Int) by simp; omega] at this
          · rw [if_neg h2]
            refine Chain.cons rfl hfi (by show i < i + 1; omega) (by show i + 1 ≤ i + 2; omega) ?_
            have := ih r (i + 1) (i + 1) (by omega) (Int.le_refl _)
            rwa [show i + 1 + (r.length : Int) = i + ((r.length + 1 : Nat) : Int) by omega] at this
        · rw [if_neg h13]
          have := ih r fr (i + 1) (by omega) (by omega)
          rwa [show i + 1 + (r.length : Int) = i + ((r.length + 1 : Nat) : Int) by omega] at this
theorem lns_chain0 (l : List Int) : Chain (lns l 0 0) 0 l.length := by
  have := lns_chain l.length l 0 0 (Nat.le_refl _) (Int.le_refl _)
  rwa [Int.zero_add] at this
theorem Chain.pos {L : List Ln} {fr e : Int} (h : Chain L fr e) : 0 < L.length := by
  cases L with
  | nil => exact h.elim
  | cons x r => simp
theorem rdLn_zero (x : Ln) (r : List Ln) : rdLn (x :: r) 0 = x := rfl
theorem rdLn_succ (x : Ln) (r : List Ln) (t : Nat) : rdLn (x :: r) ((t + 1 : Nat) : Int) = rdLn r (t : Int) := by simp [rdLn, List.getD]
theorem Chain.at : ∀ {L : List Ln} {fr e : Int}, Chain L fr e → ∀ t : Nat, t < L.length → fr ≤ (rdLn L t).f0 ∧ (rdLn L t).f0 ≤ (rdLn L t).f1 ∧ (rdLn L t).f1 ≤ (rdLn L t).f2 ∧ (rdLn L t).f2 ≤ e ∧ (t = 0 → (rdLn L t).f0 = fr) ∧
    (t + 1 < L.length → (rdLn L t).f1 < (rdLn L t).f2 ∧ (rdLn L t).f2 ≤ (rdLn L t).f1 + 2 ∧ (rdLn L (t + 1 : Nat)).f0 = (rdLn L t).f2) ∧ (t + 1 = L.length → (rdLn L t).f1 = e ∧ (rdLn L t).f2 = e) ∧ fr ≤ e
  | [], _, _, h, _, _ => h.elim
  | [x], fr, e, ⟨h0, h1, h2, h3⟩, t, ht => by
    obtain rfl : t = 0 := by simpa using ht
    simp only [Int.natCast_zero, rdLn_zero, List.length_singleton]
    omega
  | x :: y :: r, fr, e, ⟨h0, h1, h2, h2', h3⟩, t, ht => by
    cases t with
    | zero =>
      have h4 := Chain.at h3 0 (by simp)
      have h5 := h4.2.2.2.2.1 rfl
      simp only [Int.natCast_zero, rdLn_zero, List.length_cons] at h4 ⊢
      rw [show ((0 + 1 : Nat) : Int) = ((0 + 1 : Nat) : Int) from rfl, rdLn_succ]
      simp only [Int.natCast_zero, rdLn_zero]
      simp only [Int.natCast_zero, rdLn_zero] at h5
      omega
    | succ t =>
      have h4 := Chain.at h3 t (by simpa using ht)
      rw [rdLn_succ, rdLn_succ]
      simp only [List.length_cons] at h4 ⊢
      have h5 := h4.2.2.2.2.2.1
      have h6 := h4.2.2.2.2.2.2.1
      refine ⟨by omega, by omega, by omega, by omega, by omega, fun h => h5 (by omega), fun h => h6 (by omega), by omega⟩
theorem Chain.step {L : List Ln} {fr e : Int} (h : Chain L fr e) (a : Nat) : ∀ d : Nat, a + d < L.length → (rdLn L a).f2 + d ≤ (rdLn L (a + d : Nat)).f2 + (if a + d + 1 = L.length then 1 else 0) ∧ (rdLn L a).f2 ≤ (rdLn L (a + d : Nat)).f2 := by
  intro d
  induction d with
  | zero => intro _; simp; split <;> omega
  | succ d ih =>
    intro hd
    have h1 := ih (by omega)
    have h2 := h.at (a + d) (by omega)
    have h3 := h.at (a + d + 1) (by omega)
    have h4 := h2.2.2.2.2.2.1 (by omega)
    rw [if_neg (by omega)] at h1
    have e1 : ((a + (d + 1) : Nat)) = a + d + 1 := by omega
    rw [e1]
    by_cases hl : a + d + 1 + 1 = L.length
    · rw [if_pos hl]
      omega
    · rw [if_neg hl]
      have h5 := h3.2.2.2.2.2.1 (by omega)
      omega
theorem Chain.length_le {L : List Ln} {fr e : Int} (h : Chain L fr e) : (L.length : Int) ≤ e - fr + 1 := by
  have hp := h.pos
  have h1 := (h.step 0 (L.length - 1) (by omega)).1
  rw [if_pos (by omega)] at h1
  have h2 := h.at 0 hp
  have h3 := (h.at (0 + (L.length - 1)) (by omega)).2.2.2.2.2.2.1 (by omega)
  rw [h3.2] at h1
  by_cases hl : L.length = 1
  · omega
  · have := h2.2.2.2.2.2.1 (by omega)
    omega
theorem Chain.find {L : List Ln} {fr e : Int} (h : Chain L fr e) (at_ : Int) : ∃ r, FindAt L at_ r := by
  have hp := h.pos
  have : ∀ d : Nat, d < L.length → (∃ r, FindAt L at_ r) ∨ (∀ t : Nat, t < d → (rdLn L t).f2 ≤ at_) := by
    intro d
    induction d with
    | zero => intro _; exact .inr (fun t ht => absurd ht (Nat.not_lt_zero _))
    | succ d ih =>
      intro hd
      rcases ih (by omega) with h1 | h1
      · exact .inl h1
      · by_cases hlt : at_ < (rdLn L d).f2
        · exact .inl ⟨d, by omega, h1, fun _ => hlt⟩
        · refine .inr (fun t ht => ?_)
          rcases Nat.lt_succ_iff_lt_or_eq.1 ht with h2 | rfl
          · exact h1 t h2
          · omega
  rcases this (L.length - 1) (by omega) with h1 | h1
  · exact h1
  · exact ⟨L.length - 1, by omega, h1, fun h2 => by omega⟩
end Go.Proofs.Ytjebkpcekkkbkaa.B
namespace Go.Proofs.Ytjebkpcekkkbkaa.B
open Go.RowKit Go.Shelf Go.Proofs Go.Proofs.YtjebkpcekkkbkaaW.PrintWords Go.Proofs.YtjebkpcekkkbkaaW.PrintLast Go.Proofs.YtjebkpcekkkbkaaW.PrintMore Go.Proofs.Ytjebkpcekkkbkaa.FBase
attribute [local go_sem] Oper.semAt_some
def IsBlk (W : World) (g : Nat) (o : Obj) : Prop := W.heap[g]? = some o
theorem IsBlk.below {W W1 : World} {g : Nat} {o : Obj} (h : IsBlk W g o) (hb : Below W.heap.size W W1) : IsBlk W1 g o := (hb.block g (blk_lt h)).trans h
theorem IsBlk.alloc {W : World} {g : Nat} {o : Obj} (h : IsBlk W g o) (o1 : Obj) : IsBlk (W.alloc o1) g o := h.below (below_alloc (Below.refl _ _) o1)
theorem IsBlk.drewN {W : World} {g : Nat} {o : Obj} (h : IsBlk W g o) (n : Nat) : IsBlk (W.drewN n) g o := h.below (pw_below_drewN (Below.refl _ _) n)
theorem IsBlk.cell {W : World} {g : Nat} {cs : Array Value} {t : TypeId} (h : IsBlk W g (.cells cs t (0, 0))) (i : Nat) : W.cell? ⟨g, i, none⟩ = cs[i]? := blk_cell h i
theorem IsBlk.frozen {W : World} {g : Nat} {cs : Array Value} {t : TypeId} (h : IsBlk W g (.cells cs t (0, 0))) (i : Nat) : W.frozen? ⟨g, i, none⟩ = false := blk_frozen h i
theorem cell_alloc1 {W : World} {p : Addr} {v : Value} (h : W.cell? p = some v) (o : Obj) : (W.alloc o).cell? p = some v := ((below_alloc (Below.refl _ W) o).cell (World.block_lt_of_cell? W _ h)).trans h
theorem cell_below {W W1 : World} {p : Addr} {v : Value} (h : W.cell? p = some v) (hb : Below W.heap.size W W1) : W1.cell? p = some v := (hb.cell (World.block_lt_of_cell? W _ h)).trans h
end Go.Proofs.Ytjebkpcekkkbkaa.B
namespace Go.Proofs.Ytjebkpcekkkbkaa.B
open Go.RowKit Go.Shelf Go.Proofs Go.Proofs.YtjebkpcekkkbkaaW.PrintWords Go.Proofs.YtjebkpcekkkbkaaW.PrintLast Go.Proofs.YtjebkpcekkkbkaaW.PrintMore Go.Proofs.Ytjebkpcekkkbkaa.FBase
attribute [local go_sem] Oper.semAt_some
def Keeps (F : World → Prop) : Prop := ∀ W1 W2 : World, F W1 → Below W1.heap.size W1 W2 → F W2
structure Sta (w W : World) (F : World → Prop) : Prop where
  bel : Below w.heap.size w W
  now : F W
  keeps : Keeps F
theorem Sta.step {w W W1 : World} {F : World → Prop} (h : Sta w W F) (c : Below W.heap.size W W1) : Sta w W1 F := ⟨below_step h.bel c, h.keeps _ _ h.now c, h.keeps⟩
theorem Sta.call {w W W1 W2 : World} {F : World → Prop} (h : Sta w W F) (c : Below W.heap.size W W1) (hb : Below W1.heap.size W1 W2) : Sta w W2 F := (h.step c).step hb
theorem Sta.add {w W : World} {F G : World → Prop} (h : Sta w W F) (g : G W) (k : Keeps G) : Sta w W (fun W => G W ∧ F W) := ⟨h.bel, ⟨g, h.now⟩, fun _ _ h1 hb => ⟨k _ _ h1.1 hb, h.keeps _ _ h1.2 hb⟩⟩
theorem Sta.only {w W : World} {F G : World → Prop} (h : Sta w W F) (g : G W) (k : Keeps G) : Sta w W G := ⟨h.bel, g, k⟩
theorem Sta.start (w : World) : Sta w w (fun _ => True) := ⟨Below.refl _ _, trivial, fun _ _ h _ => h⟩
theorem keeps_and {F G : World → Prop} (h : Keeps F) (k : Keeps G) : Keeps (fun W => F W ∧ G W) := fun _ _ h1 hb => ⟨h _ _ h1.1 hb, k _ _ h1.2 hb⟩
theorem keeps_idx (a : Nat) (L : List Ln) : Keeps (fun W => IsIdx W a L) := fun _ _ h hb => h.below hb
theorem keeps_ref (a : Nat) (L : List Ln) : Keeps (fun W => IsRef W a L) := fun _ _ h hb => h.below hb
theorem keeps_blk (g : Nat) (o : Obj) : Keeps (fun W => IsBlk W g o) := fun _ _ h hb => h.below hb
theorem keeps_C {α : Type} (d : Kd α) (A : Option Addr) (n : Nat) (xs : List α) : Keeps (fun W => Kd.C d W A n xs) := fun _ _ h hb => Kd.C_below h hb
theorem keeps_R {α : Type} (d : Kd α) (e base : Nat) (ok : Nat → Prop) (v : Value) (xs : List α) : Keeps (fun W => Kd.R d e W base ok v xs) := fun _ _ h hb => Kd.R_below h hb
theorem FromBase.and {base : Nat} {W : World} {F G : World → Prop} (h : FromBase base W F) (k : FromBase base W G) : FromBase base W (fun W => F W ∧ G W) := fun W1 h1 => ⟨h W1 h1, k W1 h1⟩
theorem FromBase.blk {base g : Nat} {W : World} {o : Obj} (hg : base ≤ g) (h : IsBlk W g o) : FromBase base W (fun W => IsBlk W g o) := fun W1 h1 => (h1 g hg (blk_lt h)).trans h
theorem FromBase.set {base : Nat} {W : World} {F : World → Prop} (h : FromBase base W F) {p : Addr} (hp : p.block < base) (u : Value) : FromBase base (W.setCell p u) F :=
  h.step (fun k hk _ => Below.heap_setCell W p u k (by omega))
theorem FromBase.mono {base : Nat} {W : World} {F G : World → Prop} (h : FromBase base W F) (hFG : ∀ W, F W → G W) : FromBase base W G := fun W1 h1 => hFG _ (h W1 h1)
theorem IsBlk.other {W : World} {g : Nat} {o : Obj} (h : IsBlk W g o) {p : Addr} (hne : g ≠ p.block) (u : Value) : IsBlk (W.setCell p u) g o := (Below.heap_setCell W p u g hne).trans h
theorem Copy_ok (A : Option Addr) (c : Nat) (l : List Int) (w : World) (hr : Kd.C (Kd.int .u8) w A l.length l) (hc : l.length ≤ c) (hs : l.length ≤ 1048576) :
    Calls Try.prog 17 #[.slice A l.length c] w fun e w' => ∃ v : Value, e = .returned v ∧ Kd.R (Kd.int .u8) 5 w' w.heap.size (fun _ => True) v l ∧ Below w.heap.size w w' :=
  colophonref00_CopyBytes.calls A c l l w hr hc (by unfold colophonref00_CopyBytes.f; rw [if_pos (by simp; omega)]; simp)
end Go.Proofs.Ytjebkpcekkkbkaa.B
namespace Go.Proofs.Ytjebkpcekkkbkaa.B
open Go.RowKit Go.Proofs.YtjebkpcekkkbkaaW.PrintWords Go.Proofs.YtjebkpcekkkbkaaW.PrintLast Go.Proofs.YtjebkpcekkkbkaaW.PrintMore Go.Proofs.Ytjebkpcekkkbkaa.FBase
def Bytes (l : List Int) : Prop := ∀ x ∈ l, 0 ≤ x ∧ x < 256
theorem Bytes.tail {b : Int} {l : List Int} (h : Bytes (b :: l)) : Bytes l := fun x hx => h x (List.mem_cons_of_mem _ hx)
theorem Bytes.drop {l : List Int} (h : Bytes l) (n : Nat) : Bytes (l.drop n) := fun x hx => h x (List.mem_of_mem_drop hx)
theorem Bytes.take {l : List Int} (h : Bytes l) (n : Nat) : Bytes (l.take n) := fun x hx => h x (List.mem_of_mem_take hx)
def sizeOfFirst (b : Int) : Int := if b < 128 then 1 else if b < 194 then 0 else if 244 < b then 0 else if b < 224 then 2 else if b < 240 then 3 else 4
def lowOf (b : Int) : Int := if b = 224 then 160 else if b = 240 then 144 else 128
def highOf (b : Int) : Int := if b = 237 then 159 else if b = 244 then 143 else 191
def restOf (c n lo hi : Int) : List Int → Int × Int × Int
  | [] => (0, 0, 3)
  | b1 :: t1 =>
    if b1 < lo then (0, 0, 10) else if hi < b1 then (0, 0, 10)
    else if n = 2 then (c * 64 + b1 % 64, 2, 0)
    else match t1 with
    | [] => (0, 0, 3)
    | b2 :: t2 =>
      if b2 < 128 then (0, 0, 10) else if 191 < b2 then (0, 0, 10)
      else if n = 3 then ((c * 64 + b1 % 64) * 64 + b2 % 64, 3, 0)
      else match t2 with
      | [] => (0, 0, 3)
      | b3 :: _ => if b3 < 128 then (0, 0, 10) else if 191 < b3 then (0, 0, 10) else (((c * 64 + b1 % 64) * 64 + b2 % 64) * 64 + b3 % 64, 4, 0)
def dec : List Int → Int × Int × Int
  | [] => (0, 0, 9)
  | b :: t =>
    if sizeOfFirst b = 1 then (b, 1, 0) else if sizeOfFirst b = 0 then (0, 0, 10)
    else if sizeOfFirst b = 2 then restOf (b % 32) 2 (lowOf b) (highOf b) t
    else if sizeOfFirst b = 3 then restOf (b % 16) 3 (lowOf b) (highOf b) t
    else restOf (b % 8) 4 (lowOf b) (highOf b) t
theorem w64 (x : Int) (h0 : 0 ≤ x) (h1 : x < 4611686018427387904) : wrap64 x = x := by unfold wrap64; omega
theorem i64_or6 (x y : Int) (hx0 : 0 ≤ x) (hx : x % 64 = 0) (hx1 : x < 4611686018427387904) (h0 : 0 ≤ y) (h1 : y < 64) : Go.bits .or .i64 x y = x + y :=
  bits_join .i64 62 (by decide) (fun n h0 h1 => by rw [IntKind.wrap_i64]; omega) 6 x y hx0 hx hx1 h0 h1 (by omega)
theorem step6 (c b : Int) (h0 : 0 ≤ c) (h1 : c < 16777216) (hb0 : 0 ≤ b) (hb1 : b < 256) : Go.bits .or .i64 (wrap64 (c * 64)) (wrap64 (Go.bits .and .u8 b 63)) = c * 64 + b % 64 := by
  rw [u8_and63 b hb0 hb1, w64 (c * 64) (by omega) (by omega), w64 (b % 64) (by omega) (by omega)]
  exact i64_or6 _ _ (by omega) (by omega) (by omega) (by omega) (by omega)
theorem rd0 (b : Int) (t : List Int) : rd (b :: t) 0 = b := rfl
theorem rd1 (b b1 : Int) (t : List Int) : rd (b :: b1 :: t) 1 = b1 := rfl
theorem rd2 (b b1 b2 : Int) (t : List Int) : rd (b :: b1 :: b2 :: t) 2 = b2 := rfl
theorem rd3 (b b1 b2 b3 : Int) (t : List Int) : rd (b :: b1 :: b2 :: b3 :: t) 3 = b3 := rfl
theorem ww1 : wrap64 (1 + 1) = 2 := by unfold wrap64; omega
theorem ww2 : wrap64 (2 + 1) = 3 := by unfold wrap64; omega
theorem ww3 : wrap64 (3 + 1) = 4 := by unfold wrap64; omega
theorem len1 (b : Int) (t : List Int) : ((b :: t).length : Int) = t.length + 1 := by simp
theorem form_f (b : Int) (h0 : 0 ≤ b) (h1 : b < 256) : ∃ m lo hi, runes_form.f 2 b = some (sizeOfFirst b, m, lo, hi) ∧ (sizeOfFirst b = 1 → m = 127) ∧
    (1 < sizeOfFirst b → lo = lowOf b ∧ hi = highOf b) ∧ (sizeOfFirst b = 2 → m = 31) ∧ (sizeOfFirst b = 3 → m = 15) ∧ (sizeOfFirst b = 4 → m = 7) := by
  unfold runes_form.f sizeOfFirst lowOf highOf
  by_cases c1 : b < 128
  · simp [c1]
  · by_cases c2 : b < 194
    · simp [c1, c2, runes_form.j0]
    · by_cases c3 : 244 < b
      · simp [c1, c2, c3, runes_form.j0]
      · by_cases c4 : b < 224
        · have n1 : ¬ b = 224 := by omega
          have n2 : ¬ b = 240 := by omega
          have n3 : ¬ b = 237 := by omega
          have n4 : ¬ b = 244 := by omega
          simp [c1, c2, c3, c4, n1, n2, n3, n4, runes_form.j0]
          exact ⟨_, _, _, ⟨rfl, rfl, rfl⟩, ⟨rfl, rfl⟩, rfl⟩
        · by_cases c5 : b < 240
          · have n2 : ¬ b = 240 := by omega
            have n4 : ¬ b = 244 := by omega
            by_cases c6 : b = 224
            · simp [c6, runes_form.j0]
              exact ⟨_, _, _, ⟨rfl, rfl, rfl⟩, ⟨rfl, rfl⟩, rfl⟩
            · by_cases c7 : b = 237
              · simp [c7, runes_form.j0]
                exact ⟨_, _, _, ⟨rfl, rfl, rfl⟩, ⟨rfl, rfl⟩, rfl⟩
              · simp [c1, c2, c3, c4, c5, c6, c7, n2, n4, runes_form.j0]
                exact ⟨_, _, _, ⟨rfl, rfl, rfl⟩, ⟨rfl, rfl⟩, rfl⟩
          · have n1 : ¬ b = 224 := by omega
            have n3 : ¬ b = 237 := by omega
            by_cases c6 : b = 240
            · simp [c6, runes_form.j0]
              exact ⟨_, _, _, ⟨rfl, rfl, rfl⟩, ⟨rfl, rfl⟩, rfl⟩
            · by_cases c7 : b = 244
              · simp [c7, runes_form.j0]
                exact ⟨_, _, _, ⟨rfl, rfl, rfl⟩, ⟨rfl, rfl⟩, rfl⟩
              · simp [c1, c2, c3, c4, c5, c6, c7, n1, n3, runes_form.j0]
                exact ⟨_, _, _, ⟨rfl, rfl, rfl⟩, ⟨rfl, rfl⟩, rfl⟩
theorem size_range (b : Int) : sizeOfFirst b = 0 ∨ sizeOfFirst b = 1 ∨ sizeOfFirst b = 2 ∨ sizeOfFirst b = 3 ∨ sizeOfFirst b = 4 := by
  unfold sizeOfFirst
  by_cases c1 : b < 128
  · simp [c1]
  · by_cases c2 : b < 194
    · simp [c1, c2]
    · by_cases c3 : 244 < b
      · simp [c1, c2, c3]
      · by_cases c4 : b < 224
        · simp [c1, c2, c3, c4]
        · by_cases c5 : b < 240 <;> simp [c1, c2, c3, c4, c5]
theorem size_one (b : Int) (h : sizeOfFirst b = 1) : b < 128 := by
  refine Int.not_le.1 (fun hn => ?_)
  unfold sizeOfFirst at h
  rw [if_neg (by omega)] at h
  by_cases c2 : b < 194
  · simp [c2] at h
  · by_cases c3 : 244 < b
    · simp [c2, c3] at h
    · by_cases c4 : b < 224
      · simp [c2, c3, c4] at h
      · by_cases c5 : b < 240 <;> simp [c2, c3, c4, c5] at h
set_option maxRecDepth 100000 in
theorem loop_f (b : Int) (t : List Int) (h : Bytes (b :: t)) (c n lo hi : Int) (hl : (t.length : Int) < 4611686018427387904) (hn : n = 2 ∨ n = 3 ∨ n = 4) (hc0 : 0 ≤ c) (hc1 : c < 32) (k : Nat) :
    runes_Decode.l0 (k + 4) c n (b :: t) lo hi 1 = some (restOf c n lo hi t) := by
  have hn1 : 1 < n := by omega
  unfold restOf
  rw [runes_Decode.l0, if_pos hn1]
  cases t with
  | nil => simp
  | cons b1 t1 =>
    have hb1 := h b1 (by simp)
    simp only [len1]
    rw [if_neg (by have : (0 : Int) ≤ t1.length := Int.natCast_nonneg _; omega), if_pos (by decide), if_pos (by have : (0 : Int) ≤ t1.length := Int.natCast_nonneg _; omega), rd1]
    by_cases l1 : b1 < lo
    · simp [l1]
    · rw [if_neg l1, if_neg l1]
      by_cases g1 : hi < b1
      · simp [g1]
      · rw [if_neg (by omega), if_neg g1, step6 c b1 hc0 (by omega) hb1.1 hb1.2, ww1, runes_Decode.l0]
        by_cases n2 : n = 2
        · subst n2; simp
        · rw [if_pos (by omega), if_neg n2]
          cases t1 with
          | nil => simp
          | cons b2 t2 =>
            have hb2 := h b2 (by simp)
            simp only [len1]
            rw [if_neg (by have : (0 : Int) ≤ t2.length := Int.natCast_nonneg _; omega), if_pos (by decide), if_pos (by have : (0 : Int) ≤ t2.length := Int.natCast_nonneg _; omega), rd2]
            by_cases l2 : b2 < 128
            · simp [l2]
            · rw [if_neg l2, if_neg l2]
              by_cases g2 : 191 < b2
              · simp [g2]
              · rw [if_neg (by omega), if_neg g2, step6 _ b2 (by omega) (by omega) hb2.1 hb2.2, ww2, runes_Decode.l0]
                by_cases n3 : n = 3
                · subst n3; simp
                · have n4 : n = 4 := by omega
                  rw [if_pos (show (3 : Int) < n by omega), if_neg n3]
                  cases t2 with
                  | nil => simp
                  | cons b3 t3 =>
                    have hb3 := h b3 (by simp)
                    simp only [len1]
                    rw [if_neg (by have : (0 : Int) ≤ t3.length := Int.natCast_nonneg _; omega), if_pos (by decide), if_pos (by have : (0 : Int) ≤ t3.length := Int.natCast_nonneg _; omega), rd3]
                    by_cases l3 : b3 < 128
                    · simp [l3]
                    · rw [if_neg l3, if_neg l3]
                      by_cases g3 : 191 < b3
                      · simp [g3]
                      · rw [if_neg (by omega), if_neg g3, step6 _ b3 (by omega) (by omega) hb3.1 hb3.2, ww3, runes_Decode.l0, if_neg (by omega), n4]
theorem Decode_f (l : List Int) (i : Int) (h : Bytes l) (hl : l.length ≤ 281474976710656) (h0 : 0 ≤ i) (h1 : i < l.length) : runes_Decode.f 8 l i = some (dec (l.drop i.toNat)) := by
  unfold runes_Decode.f
  rw [if_neg (by omega), decide_eq_false (by omega)]
  simp only [runes_Decode.j0, Option.bind_some]
  rw [if_neg (by decide), if_pos h0, if_pos (by omega)]
  have hB := h.drop i.toNat
  have hlen : (l.drop i.toNat).length = l.length - i.toNat := List.length_drop
  generalize l.drop i.toNat = y at *
  cases y with
  | nil => simp at hlen; omega
  | cons b t =>
    have hb := hB b (by simp)
    have hpos : (0 : Int) < ((b :: t).length : Int) := by simp only [len1]; omega
    rw [if_pos hpos, rd0]
    obtain ⟨m, lo, hi, hf, f1, f2, f3, f4, f5⟩ := form_f b hb.1 hb.2
    have hf7 : runes_form.f 7 b = some (sizeOfFirst b, m, lo, hi) := by
      have e : ∀ k, runes_form.f (2 + k) b = some (sizeOfFirst b, m, lo, hi) := by
        intro k
        induction k with
        | zero => exact hf
        | succ k ih => exact runes_form.mono b _ _ ih
      exact e 5
    rw [hf7]
    simp only [Option.bind_some]
    have ht : (t.length : Int) < 4611686018427387904 := by simp at hlen; omega
    rcases size_range b with e | e | e | e | e
    · rw [if_pos e]; simp [dec, e]
    · rw [if_neg (by omega), f1 e, show (7 : Nat) = 3 + 4 from rfl]
      rw [show (3 + 4 : Nat) = 6 + 1 from rfl, runes_Decode.l0, if_neg (by omega)]
      have hb2 : b < 128 := size_one b e
      have e2 : Go.bits .and .u8 b 127 = b % 128 := bits_mask .u8 8 (by decide) wraps_u8 7 (by decide) b hb.1 (by omega)
      rw [e2, show b % 128 = b by omega, w64 b hb.1 (by omega)]
      simp [dec, e]
    all_goals
      obtain ⟨rfl, rfl⟩ := f2 (by omega)
      rw [if_neg (by omega)]
    · rw [f3 e, u8_and31 b hb.1 hb.2, w64 _ (by omega) (by omega), e, show (7 : Nat) = 3 + 4 from rfl, loop_f b t hB _ 2 _ _ ht (by simp) (by omega) (by omega) 3]
      simp [dec, e]
    · rw [f4 e, u8_and15 b hb.1 hb.2, w64 _ (by omega) (by omega), e, show (7 : Nat) = 3 + 4 from rfl, loop_f b t hB _ 3 _ _ ht (by simp) (by omega) (by omega) 3]
      simp [dec, e]
    · rw [f5 e, u8_and7 b hb.1 hb.2, w64 _ (by omega) (by omega), e, show (7 : Nat) = 3 + 4 from rfl, loop_f b t hB _ 4 _ _ ht (by simp) (by omega) (by omega) 3]
      simp [dec, e]
theorem LeO_le {α : Type} {f : Nat → Option α} (h : ∀ k, LeO (f k) (f (k + 1))) {a b : Nat} (hab : a ≤ b) {r : α} (e : f a = some r) : f b = some r := by
  obtain ⟨d, rfl⟩ : ∃ d, b = a + d := ⟨b - a, by omega⟩
  induction d with
  | zero => exact e
  | succ d ih => exact h _ _ (ih (by omega))
theorem restOf_ok {c n lo hi : Int} {t : List Int} (h0 : 0 ≤ c) (hn : n = 2 ∨ n = 3 ∨ n = 4) (he : (restOf c n lo hi t).2.2 = 0) : (restOf c n lo hi t).2.1 = n ∧ n ≤ t.length + 1 ∧ 0 ≤ (restOf c n lo hi t).1 := by
  unfold restOf at *
  cases t with
  | nil => simp at he
  | cons b1 t1 =>
    simp only at he ⊢
    by_cases l1 : b1 < lo
    · simp [l1] at he
    · by_cases g1 : hi < b1
      · simp [l1, g1] at he
      · rw [if_neg l1, if_neg g1] at he ⊢
        by_cases n2 : n = 2
        · rw [if_pos n2]; simp only [len1]; refine ⟨n2.symm, ?_, ?_⟩ <;> omega
        · rw [if_neg n2] at he ⊢
          cases t1 with
          | nil => simp at he
          | cons b2 t2 =>
            simp only at he ⊢
            by_cases l2 : b2 < 128
            · simp [l2] at he
            · by_cases g2 : 191 < b2
              · simp [l2, g2] at he
              · rw [if_neg l2, if_neg g2] at he ⊢
                by_cases n3 : n = 3
                · rw [if_pos n3]; simp only [len1]; refine ⟨n3.symm, ?_, ?_⟩ <;> omega
                · rw [if_neg n3] at he ⊢
                  cases t2 with
                  | nil => simp at he
                  | cons b3 t3 =>
                    simp only at he ⊢
                    by_cases l3 : b3 < 128
                    · simp [l3] at he
                    · by_cases g3 : 191 < b3
                      · simp [l3, g3] at he
                      · rw [if_neg l3, if_neg g3]; simp only [len1]; refine ⟨by omega, ?_, ?_⟩ <;> omega
theorem dec_ok {y : List Int} (hy : Bytes y) (he : (dec y).2.2 = 0) : 1 ≤ (dec y).2.1 ∧ (dec y).2.1 ≤ y.length ∧ (dec y).2.1 ≤ 4 ∧ 0 ≤ (dec y).1 := by
  unfold dec at *
  cases y with
  | nil => simp at he
  | cons b t =>
    have hb := hy b (by simp)
    simp only at he ⊢
    rcases size_range b with e | e | e | e | e
    · simp [e] at he
    · simp only [e, if_true, len1]; omega
    · rw [e] at he ⊢
      rw [if_neg (by decide), if_neg (by decide), if_pos rfl] at he ⊢
      have := restOf_ok (by omega) (by simp) he
      simp only [len1]
      omega
    · rw [e] at he ⊢
      rw [if_neg (by decide), if_neg (by decide), if_neg (by decide), if_pos rfl] at he ⊢
      have := restOf_ok (by omega) (by simp) he
      simp only [len1]
      omega
    · rw [e] at he ⊢
      rw [if_neg (by decide), if_neg (by decide), if_neg (by decide), if_neg (by decide)] at he ⊢
      have := restOf_ok (by omega) (by simp) he
      simp only [len1]
      omega
def chkF : Nat → List Int → Int → Int × Int
  | 0, _, i => (i, 0)
  | n + 1, l, i => if i < l.length then (if (dec (l.drop i.toNat)).2.2 = 0 then chkF n l (i + (dec (l.drop i.toNat)).2.1) else (i, (dec (l.drop i.toNat)).2.2)) else (i, 0)
def chk (l : List Int) : Int × Int := chkF l.length l 0
theorem Decode_gE {l : List Int} {i : Int} (h : Bytes l) (hl : l.length ≤ 281474976710656) (h0 : 0 ≤ i) (h1 : i < l.length) {k : Nat} (hk : 8 ≤ k) : runes_Decode.f k l i = some (dec (l.drop i.toNat)) :=
  LeO_le (fun k => runes_Decode.mono l i k) hk (Decode_f l i h hl h0 h1)
theorem Check_l (l : List Int) (h : Bytes l) (hl : l.length ≤ 281474976710656) (n : Nat) : ∀ (k : Nat) (i : Int), 0 ≤ i → i ≤ l.length → (l.length : Int) - i ≤ n → n + 8 < k → runes_Check.l0 k l i = some (chkF n l i) := by
  induction n with
  | zero =>
    intro k i h0 h1 hn hk
    obtain ⟨k, rfl⟩ : ∃ m, k = m + 1 := ⟨k - 1, by omega⟩
    rw [runes_Check.l0, if_neg (by omega), chkF]
  | succ n ih =>
    intro k i h0 h1 hn hk
    obtain ⟨k, rfl⟩ : ∃ m, k = m + 1 := ⟨k - 1, by omega⟩
    rw [runes_Check.l0, chkF]
    by_cases hi : i < (l.length : Int)
    · rw [if_pos hi, if_pos hi, Decode_gE h hl h0 hi (by omega)]
      simp only [Option.bind_some]
      by_cases he : (dec (l.drop i.toNat)).2.2 = 0
      · rw [if_pos he, if_pos he]
        have hd := dec_ok (h.drop i.toNat) he
        have hlen : (l.drop i.toNat).length = l.length - i.toNat := List.length_drop
        rw [w64 _ (by omega) (by omega)]
        exact ih k _ (by omega) (by omega) (by omega) (by omega)
      · rw [if_neg he, if_neg he]
    · rw [if_neg hi, if_neg hi]
theorem Check_F (l : List Int) (h : Bytes l) (hl : l.length ≤ 281474976710656) {k : Nat} (hk : l.length + 8 < k) : runes_Check.f k l = some (chk l) := by
  unfold runes_Check.f chk
  exact Check_l l h hl l.length k 0 (Int.le_refl _) (by omega) (by omega) hk
theorem Check_f (l : List Int) (h : Bytes l) (hl : l.length ≤ 1048576) {k : Nat} (hk : l.length + 8 < k) : runes_Check.f k l = some (chk l) := Check_F l h (by omega) hk
theorem FindAt.mono {L : List Ln} {fr e pa pb : Int} {r s : Nat} (hc : Chain L fr e) (h : FindAt L pa r) (k : FindAt L pb s) (hp : pa ≤ pb) : r ≤ s ∧ (s : Int) - r ≤ pb - pa := by
  have h1 : r ≤ s := by
    refine Nat.le_of_not_lt (fun hlt => ?_)
    have h2 := h.2.1 s hlt
    have h3 := k.2.2 (by have := h.1; omega)
    omega
  refine ⟨h1, ?_⟩
  rcases Nat.eq_or_lt_of_le h1 with rfl | hlt
  · omega
  · have h2 := h.2.2 (by have := k.1; omega)
    have h3 := k.2.1 (s - 1) (by omega)
    have h4 := (hc.step r (s - 1 - r) (by have := k.1; omega)).1
    rw [show r + (s - 1 - r) = s - 1 by omega, if_neg (by have := k.1; omega)] at h4
    omega
theorem restOf_append {c n lo hi : Int} {t z : List Int} (he : (restOf c n lo hi t).2.2 = 0) : restOf c n lo hi (t ++ z) = restOf c n lo hi t := by
  unfold restOf at *
  cases t with
  | nil => simp at he
  | cons b1 t1 =>
    simp only [List.cons_append] at he ⊢
    by_cases l1 : b1 < lo
    · simp [l1]
    · by_cases g1 : hi < b1
      · simp [l1, g1]
      · rw [if_neg l1, if_neg g1] at he ⊢
        rw [if_neg l1, if_neg g1]
        by_cases n2 : n = 2
        · rw [if_pos n2, if_pos n2]
        · rw [if_neg n2] at he ⊢
          rw [if_neg n2]
          cases t1 with
          | nil => simp at he
          | cons b2 t2 =>
            simp only [List.cons_append] at he ⊢
            by_cases l2 : b2 < 128
            · simp [l2]
            · by_cases g2 : 191 < b2
              · simp [l2, g2]
              · rw [if_neg l2, if_neg g2] at he ⊢
                rw [if_neg l2, if_neg g2]
                by_cases n3 : n = 3
                · rw [if_pos n3, if_pos n3]
                · rw [if_neg n3] at he ⊢
                  rw [if_neg n3]
                  cases t2 with
                  | nil => simp at he
                  | cons b3 t3 => rfl
theorem dec_append {y z : List Int} (he : (dec y).2.2 = 0) : dec (y ++ z) = dec y := by
  unfold dec at *
  cases y with
  | nil => simp at he
  | cons b t =>
    simp only [List.cons_append] at he ⊢
    by_cases e1 : sizeOfFirst b = 1
    · simp [e1]
    · by_cases e0 : sizeOfFirst b = 0
      · simp [e0]
      · rw [if_neg e1, if_neg e0] at he ⊢
        rw [if_neg e1, if_neg e0]
        by_cases e2 : sizeOfFirst b = 2
        · rw [if_pos e2] at he ⊢
          rw [if_pos e2]
          exact restOf_append he
        · rw [if_neg e2] at he ⊢
          rw [if_neg e2]
          by_cases e3 : sizeOfFirst b = 3
          · rw [if_pos e3] at he ⊢
            rw [if_pos e3]
            exact restOf_append he
          · rw [if_neg e3] at he ⊢
            rw [if_neg e3]
            exact restOf_append he
inductive V : List Int → Prop
  | nil : V []
  | step (y : List Int) (he : (dec y).2.2 = 0) (h : V (y.drop (dec y).2.1.toNat)) : V y
theorem chkF_V {l : List Int} (hb : Bytes l) (n : Nat) : ∀ (i : Int), 0 ≤ i → i ≤ l.length → (l.length : Int) - i ≤ n → ((chkF n l i).2 = 0 ↔ V (l.drop i.toNat)) := by
  induction n with
  | zero =>
    intro i h0 h1 hn
    rw [show l.drop i.toNat = [] by rw [List.drop_eq_nil_iff]; omega]
    exact ⟨fun _ => .nil, fun _ => rfl⟩
  | succ n ih =>
    intro i h0 h1 hn
    rw [chkF]
    by_cases hi : i < (l.length : Int)
    · rw [if_pos hi]
      have hne : l.drop i.toNat ≠ [] := by rw [Ne, List.drop_eq_nil_iff]; omega
      by_cases he : (dec (l.drop i.toNat)).2.2 = 0
      · rw [if_pos he]
        have hd := dec_ok (hb.drop i.toNat) he
        have hlen : (l.drop i.toNat).length = l.length - i.toNat := List.length_drop
        rw [ih _ (by omega) (by omega) (by omega)]
        have e : (l.drop (i + (dec (l.drop i.toNat)).2.1).toNat) = (l.drop i.toNat).drop (dec (l.drop i.toNat)).2.1.toNat := by
          rw [List.drop_drop]
          congr 1
          omega
        rw [e]
        refine ⟨fun h => .step _ he h, fun h => ?_⟩
        generalize l.drop i.toNat = y at *
        cases h with
        | nil => exact absurd rfl hne
        | step _ _ h => exact h
      · rw [if_neg he]
        refine ⟨fun h => absurd h he, fun h => ?_⟩
        generalize l.drop i.toNat = y at *
        cases h with
        | nil => exact absurd rfl hne
        | step _ h _ => exact absurd h he
    · rw [if_neg hi, show l.drop i.toNat = [] by rw [List.drop_eq_nil_iff]; omega]
      exact ⟨fun _ => .nil, fun _ => rfl⟩
theorem chk_V {l : List Int} (hb : Bytes l) : (chk l).2 = 0 ↔ V l := by
  have := chkF_V hb l.length 0 (Int.le_refl _) (by omega) (by omega)
  rwa [Int.toNat_zero, List.drop_zero] at this
theorem V.append {a b : List Int} (h : V a) (ha : Bytes a) (hb : V b) : V (a ++ b) := by
  induction h with
  | nil => exact hb
  | step y he h ih =>
    refine .step _ (by rw [dec_append he]; exact he) ?_
    have hd := dec_ok ha he
    rw [dec_append he, List.drop_append_of_le_length (by omega)]
    exact ih (ha.drop _)
theorem Bytes.append {a b : List Int} (ha : Bytes a) (hb : Bytes b) : Bytes (a ++ b) := fun x hx => (List.mem_append.1 hx).elim (ha x) (hb x)
def isC (c : Int) : Prop := 0 ≤ c ∧ c ≤ 1114111 ∧ ¬ (55296 ≤ c ∧ c ≤ 57343)
instance (c : Int) : Decidable (isC c) := by unfold isC; infer_instance
def enc (c : Int) : List Int :=
  if c < 128 then [c] else if c < 2048 then [192 + c / 64, 128 + c % 64] else if c < 65536 then [224 + c / 4096, 128 + c / 64 % 64, 128 + c % 64]
  else [240 + c / 262144, 128 + c / 4096 % 64, 128 + c / 64 % 64, 128 + c % 64]
theorem EqBytes_l (a b : List Int) (hl : a.length = b.length) (hs : a.length ≤ 1048576) (n : Nat) : ∀ (k : Nat) (i : Int), 0 ≤ i → i ≤ a.length → (a.length : Int) - i ≤ n → n < k → colophonref00_EqBytes.l0 k a b i = some (decide (a.drop i.toNat = b.drop i.toNat)) := by
  induction n with
  | zero =>
    intro k i h0 h1 hn hk
    obtain ⟨k, rfl⟩ : ∃ m, k = m + 1 := ⟨k - 1, by omega⟩
    rw [colophonref00_EqBytes.l0, if_neg (by omega), show a.drop i.toNat = [] by rw [List.drop_eq_nil_iff]; omega, show b.drop i.toNat = [] by rw [List.drop_eq_nil_iff]; omega]
    rfl
  | succ n ih =>
    intro k i h0 h1 hn hk
    obtain ⟨k, rfl⟩ : ∃ m, k = m + 1 := ⟨k - 1, by omega⟩
    rw [colophonref00_EqBytes.l0]
    by_cases hi : i < (a.length : Int)
    · have ha : i.toNat < a.length := by omega
      have hb : i.toNat < b.length := by omega
      rw [if_pos hi, if_pos h0, if_pos (by omega)]
      rw [List.drop_eq_getElem_cons ha, List.drop_eq_getElem_cons hb]
      have e1 : rd a i = a[i.toNat] := by simp [rd, List.getD, ha]
      have e2 : rd b i = b[i.toNat] := by simp [rd, List.getD, hb]
      rw [e1, e2]
      by_cases he : a[i.toNat] = b[i.toNat]
      · rw [if_pos he, w64 _ (by omega) (by omega), ih k (i + 1) (by omega) (by omega) (by omega) (by omega), show (i + 1).toNat = i.toNat + 1 by omega]
        exact congrArg some (decide_eq_decide.2 ⟨fun h => by rw [he, h], fun h => (List.cons.inj h).2⟩)
      · rw [if_neg he]
        exact congrArg some (decide_eq_false (fun h => he (List.cons.inj h).1)).symm
    · rw [if_neg hi, show a.drop i.toNat = [] by rw [List.drop_eq_nil_iff]; omega, show b.drop i.toNat = [] by rw [List.drop_eq_nil_iff]; omega]
      rfl
theorem EqBytes_f (a b : List Int) (hs : a.length ≤ 1048576) {k : Nat} (hk : a.length < k) : colophonref00_EqBytes.f k a b = some (decide (a = b)) := by
  unfold colophonref00_EqBytes.f
  by_cases hl : a.length = b.length
  · rw [if_pos (by omega), EqBytes_l a b hl hs a.length k 0 (Int.le_refl _) (by omega) (by omega) hk]
    simp
  · rw [if_neg (by omega)]
    congr 1
    rw [eq_comm, decide_eq_false_iff_not]
    rintro rfl
    exact hl rfl
theorem enc_1 {c : Int} (h : c < 128) : enc c = [c] := by unfold enc; rw [if_pos h]
theorem enc_2 {c : Int} (h : 128 ≤ c) (h1 : c < 2048) : enc c = [192 + c / 64, 128 + c % 64] := by unfold enc; rw [if_neg (by omega), if_pos h1]
theorem enc_3 {c : Int} (h : 2048 ≤ c) (h1 : c < 65536) : enc c = [224 + c / 4096, 128 + c / 64 % 64, 128 + c % 64] := by unfold enc; rw [if_neg (by omega), if_neg (by omega), if_pos h1]
theorem enc_len2 {c : Int} (h : (enc c).length = 2) : 128 ≤ c ∧ c < 2048 := by
  unfold enc at h
  split at h
  · simp at h
  · split at h
    · omega
    · split at h <;> simp at h
theorem enc_len3 {c : Int} (h : (enc c).length = 3) : 2048 ≤ c ∧ c < 65536 := by
  unfold enc at h
  split at h
  · simp at h
  · split at h
    · simp at h
    · split at h
      · omega
      · simp at h
def T (y : List Int) (n : Nat) (lo hi c : Int) : Prop := isC c ∧ lo ≤ c ∧ c ≤ hi ∧ (enc c).length = n ∧ (enc c).take y.length = y
instance (y : List Int) (n : Nat) (lo hi c : Int) : Decidable (T y n lo hi c) := by unfold T; infer_instance
theorem Bytes.add {y : List Int} (h : Bytes y) (c : Int) (h0 : 0 ≤ c) (h1 : c < 256) : Bytes (y ++ [c]) := fun x hx => by
  rcases List.mem_append.1 hx with hx | hx
  · exact h x hx
  · rw [List.mem_singleton] at hx; subst hx; exact ⟨h0, h1⟩
def Low (b b1 : Int) : Prop := lowOf b ≤ b1 ∧ b1 ≤ highOf b
instance (b b1 : Int) : Decidable (Low b b1) := by unfold Low; infer_instance
def E34 (b b1 b2 : Int) : Prop := 240 ≤ b ∧ b ≤ 244 ∧ Low b b1 ∧ 128 ≤ b2 ∧ b2 ≤ 191
instance (b b1 b2 : Int) : Decidable (E34 b b1 b2) := by unfold E34; infer_instance
def E23 (b b1 : Int) : Prop := 224 ≤ b ∧ b < 240 ∧ Low b b1
instance (b b1 : Int) : Decidable (E23 b b1) := by unfold E23; infer_instance
def E24 (b b1 : Int) : Prop := 240 ≤ b ∧ b ≤ 244 ∧ Low b b1
instance (b b1 : Int) : Decidable (E24 b b1) := by unfold E24; infer_instance
theorem m1 (b : Int) (h0 : 0 ≤ b) (h1 : b < 256) : (isC b ∧ enc b = [b]) ↔ b < 128 := by
  constructor
  · rintro ⟨-, h⟩
    refine Int.not_le.1 (fun h2 => ?_)
    rw [enc_2 h2 (by omega)] at h
    simp at h
  · intro h
    exact ⟨⟨h0, by omega, by omega⟩, enc_1 h⟩
theorem m2 (b b1 : Int) (h0 : 0 ≤ b) (h1 : b < 256) (g0 : 0 ≤ b1) (g1 : b1 < 256) : (isC ((b % 32) * 64 + b1 % 64) ∧ enc ((b % 32) * 64 + b1 % 64) = [b, b1]) ↔ (194 ≤ b ∧ b < 224) ∧ 128 ≤ b1 ∧ b1 ≤ 191 := by
  constructor
  · rintro ⟨-, h⟩
    have hl := enc_len2 (show (enc (b % 32 * 64 + b1 % 64)).length = 2 by rw [h]; rfl)
    rw [enc_2 hl.1 hl.2] at h
    simp at h
    refine ⟨⟨by omega, by omega⟩, by omega, by omega⟩
  · rintro ⟨⟨e1, e2⟩, e3, e4⟩
    refine ⟨⟨by omega, by omega, by omega⟩, ?_⟩
    rw [enc_2 (by omega) (by omega)]
    simp
    omega
theorem low_range {b b1 : Int} (h : Low b b1) : 128 ≤ b1 ∧ b1 ≤ 191 := by
  obtain ⟨e3, e4⟩ := h
  unfold lowOf at e3
  unfold highOf at e4
  constructor
  · split at e3
    · omega
    · split at e3 <;> omega
  · split at e4
    · omega
    · split at e4 <;> omega
theorem m3 (b b1 b2 : Int) (h0 : 0 ≤ b) (h1 : b < 256) (g0 : 0 ≤ b1) (g1 : b1 < 256) (i0 : 0 ≤ b2) (i1 : b2 < 256) :
    (isC (((b % 16) * 64 + b1 % 64) * 64 + b2 % 64) ∧ enc (((b % 16) * 64 + b1 % 64) * 64 + b2 % 64) = [b, b1, b2]) ↔ E23 b b1 ∧ 128 ≤ b2 ∧ b2 ≤ 191 := by
  constructor
  · rintro ⟨⟨c0, c1, c2⟩, h⟩
    have hl := enc_len3 (show (enc ((b % 16 * 64 + b1 % 64) * 64 + b2 % 64)).length = 3 by rw [h]; rfl)
    rw [enc_3 hl.1 hl.2] at h
    simp at h
    unfold E23 Low lowOf highOf
    refine ⟨⟨by omega, by omega, ?_, ?_⟩, by omega, by omega⟩
    · split
      · omega
      · split <;> omega
    · split
      · omega
      · split <;> omega
  · rintro ⟨⟨e1, e2, hL⟩, e5, e6⟩
    have hr := low_range hL
    obtain ⟨e3, e4⟩ := hL
    unfold lowOf at e3
    unfold highOf at e4
    have hge : 2048 ≤ (b % 16 * 64 + b1 % 64) * 64 + b2 % 64 := by
      split at e3
      · omega
      · omega
    refine ⟨⟨by omega, by omega, ?_⟩, ?_⟩
    · split at e4 <;> omega
    · rw [enc_3 hge (by omega)]
      simp
      omega
theorem size_1 {b : Int} (h : b < 128) : sizeOfFirst b = 1 := by unfold sizeOfFirst; rw [if_pos h]
theorem size_0 {b : Int} (h : 128 ≤ b) (h1 : b < 194 ∨ 244 < b) : sizeOfFirst b = 0 := by
  unfold sizeOfFirst
  rw [if_neg (by omega)]
  split
  · rfl
  · rw [if_pos (by omega)]
theorem size_2 {b : Int} (h : 194 ≤ b) (h1 : b < 224) : sizeOfFirst b = 2 := by unfold sizeOfFirst; rw [if_neg (by omega), if_neg (by omega), if_neg (by omega), if_pos h1]
theorem size_3 {b : Int} (h : 224 ≤ b) (h1 : b < 240) : sizeOfFirst b = 3 := by unfold sizeOfFirst; rw [if_neg (by omega), if_neg (by omega), if_neg (by omega), if_neg (by omega), if_pos h1]
theorem size_4 {b : Int} (h : 240 ≤ b) (h1 : b ≤ 244) : sizeOfFirst b = 4 := by unfold sizeOfFirst; rw [if_neg (by omega), if_neg (by omega), if_neg (by omega), if_neg (by omega), if_neg (by omega)]
theorem dec_1 {b : Int} (t : List Int) (h : b < 128) : dec (b :: t) = (b, 1, 0) := by rw [dec, size_1 h, if_pos rfl]
theorem dec_0 {b : Int} (t : List Int) (h : 128 ≤ b) (h1 : b < 194 ∨ 244 < b) : dec (b :: t) = (0, 0, 10) := by rw [dec, size_0 h h1, if_neg (by decide), if_pos rfl]
theorem dec_2 {b : Int} (t : List Int) (h : 194 ≤ b) (h1 : b < 224) : dec (b :: t) = restOf (b % 32) 2 128 191 t := by
  rw [dec, size_2 h h1, if_neg (by decide), if_neg (by decide), if_pos rfl]
  unfold lowOf highOf
  rw [if_neg (by omega), if_neg (by omega), if_neg (by omega), if_neg (by omega)]
theorem dec_3 {b : Int} (t : List Int) (h : 224 ≤ b) (h1 : b < 240) : dec (b :: t) = restOf (b % 16) 3 (lowOf b) (highOf b) t := by
  rw [dec, size_3 h h1, if_neg (by decide), if_neg (by decide), if_neg (by decide), if_pos rfl]
theorem dec_4 {b : Int} (t : List Int) (h : 240 ≤ b) (h1 : b ≤ 244) : dec (b :: t) = restOf (b % 8) 4 (lowOf b) (highOf b) t := by
  rw [dec, size_4 h h1, if_neg (by decide), if_neg (by decide), if_neg (by decide), if_neg (by decide)]
theorem rest_no {c n lo hi b1 : Int} {t : List Int} (h : ¬ (lo ≤ b1 ∧ b1 ≤ hi)) : restOf c n lo hi (b1 :: t) = (0, 0, 10) := by
  rw [restOf.eq_def]
  dsimp only
  by_cases h1 : b1 < lo
  · rw [if_pos h1]
  · rw [if_neg h1, if_pos (by omega)]
theorem rest_2 {c lo hi b1 : Int} {t : List Int} (h : lo ≤ b1 ∧ b1 ≤ hi) : restOf c 2 lo hi (b1 :: t) = (c * 64 + b1 % 64, 2, 0) := by
  rw [restOf.eq_def]
  dsimp only
  rw [if_neg (by omega), if_neg (by omega), if_pos rfl]
theorem rest_n {c n lo hi b1 : Int} {t : List Int} (h : lo ≤ b1 ∧ b1 ≤ hi) (hn : n ≠ 2) (h3 : t = []) : restOf c n lo hi (b1 :: t) = (0, 0, 3) := by
  subst h3
  rw [restOf.eq_def]
  dsimp only
  rw [if_neg (by omega), if_neg (by omega), if_neg hn]
theorem rest_n2 {c n lo hi b1 b2 : Int} {t : List Int} (h : lo ≤ b1 ∧ b1 ≤ hi) (hn : n ≠ 2) (h3 : ¬ (128 ≤ b2 ∧ b2 ≤ 191)) : restOf c n lo hi (b1 :: b2 :: t) = (0, 0, 10) := by
  rw [restOf.eq_def]
  dsimp only
  rw [if_neg (by omega), if_neg (by omega), if_neg hn]
  by_cases h1 : b2 < 128
  · (try dsimp only); rw [if_pos h1]
  · (try dsimp only); rw [if_neg h1, if_pos (by omega)]
theorem rest_3 {c lo hi b1 b2 : Int} {t : List Int} (h : lo ≤ b1 ∧ b1 ≤ hi) (h3 : 128 ≤ b2 ∧ b2 ≤ 191) : restOf c 3 lo hi (b1 :: b2 :: t) = ((c * 64 + b1 % 64) * 64 + b2 % 64, 3, 0) := by
  rw [restOf.eq_def]
  dsimp only
  rw [if_neg (by omega), if_neg (by omega), if_neg (by decide)]
  try dsimp only
  rw [if_neg (by omega), if_neg (by omega), if_pos rfl]
theorem rest_4e {c lo hi b1 b2 : Int} (h : lo ≤ b1 ∧ b1 ≤ hi) (h3 : 128 ≤ b2 ∧ b2 ≤ 191) : restOf c 4 lo hi [b1, b2] = (0, 0, 3) := by
  rw [restOf.eq_def]
  dsimp only
  rw [if_neg (by omega), if_neg (by omega), if_neg (by decide)]
  try dsimp only
  rw [if_neg (by omega), if_neg (by omega), if_neg (by decide)]
theorem rest_4 {c lo hi b1 b2 b3 : Int} {t : List Int} (h : lo ≤ b1 ∧ b1 ≤ hi) (h3 : 128 ≤ b2 ∧ b2 ≤ 191) : restOf c 4 lo hi (b1 :: b2 :: b3 :: t) = if 128 ≤ b3 ∧ b3 ≤ 191 then (((c * 64 + b1 % 64) * 64 + b2 % 64) * 64 + b3 % 64, 4, 0) else (0, 0, 10) := by
  rw [restOf.eq_def]
  dsimp only
  rw [if_neg (by omega), if_neg (by omega), if_neg (by decide)]
  try dsimp only
  rw [if_neg (by omega), if_neg (by omega), if_neg (by decide)]
  by_cases h5 : 128 ≤ b3 ∧ b3 ≤ 191
  · rw [if_pos h5, if_neg (by omega), if_neg (by omega)]
  · rw [if_neg h5]
    by_cases h1 : b3 < 128
    · rw [if_pos h1]
    · rw [if_neg h1, if_pos (by omega)]
def usz (c : Int) : Int := if c ≥ 65536 then 2 else 1
inductive Cs : List Int → List (Int × Int) → Prop
  | nil : Cs [] []
  | step (y : List Int) (r : List (Int × Int)) (he : (dec y).2.2 = 0) (h : Cs (y.drop (dec y).2.1.toNat) r) : Cs y (((dec y).2.1, usz (dec y).1) :: r)
theorem V.cs {y : List Int} (h : V y) : ∃ r, Cs y r := by
  induction h with
  | nil => exact ⟨[], .nil⟩
  | step y he h ih =>
    obtain ⟨r, hr⟩ := ih
    exact ⟨_, .step y r he hr⟩
theorem Cs.v {y : List Int} {r : List (Int × Int)} (h : Cs y r) : V y := by
  induction h with
  | nil => exact .nil
  | step y r he h ih => exact .step y he ih
def sz : List (Int × Int) → Int
  | [] => 0
  | x :: r => x.1 + sz r
def un : List (Int × Int) → Int
  | [] => 0
  | x :: r => x.2 + un r
def off : List (Int × Int) → Int → Int
  | [], _ => 0
  | x :: r, k => if k < x.2 then 0 else x.1 + off r (k - x.2)
def flo : List (Int × Int) → Int → Int
  | [], _ => 0
  | x :: r, at_ => if at_ < x.1 then 0 else x.1 + flo r (at_ - x.1)
def ufl : List (Int × Int) → Int → Int
  | [], _ => 0
  | x :: r, at_ => if at_ < x.1 then 0 else x.2 + ufl r (at_ - x.1)
def Good (r : List (Int × Int)) : Prop := ∀ x ∈ r, 1 ≤ x.1 ∧ x.1 ≤ 4 ∧ 1 ≤ x.2 ∧ x.2 ≤ 2
theorem Good.head {x : Int × Int} {r : List (Int × Int)} (h : Good (x :: r)) : 1 ≤ x.1 ∧ x.1 ≤ 4 ∧ 1 ≤ x.2 ∧ x.2 ≤ 2 := h x List.mem_cons_self
theorem Good.tail {x : Int × Int} {r : List (Int × Int)} (h : Good (x :: r)) : Good r := fun y hy => h y (List.mem_cons_of_mem _ hy)
theorem sz_nonneg : ∀ {r : List (Int × Int)}, Good r → 0 ≤ sz r
  | [], _ => by simp [sz]
  | x :: r, h => by have := h.head; have := sz_nonneg h.tail; simp only [sz]; omega
theorem un_nonneg : ∀ {r : List (Int × Int)}, Good r → 0 ≤ un r
  | [], _ => by simp [un]
  | x :: r, h => by have := h.head; have := un_nonneg h.tail; simp only [un]; omega
theorem off_range : ∀ {r : List (Int × Int)} (k : Int), Good r → 0 ≤ off r k ∧ off r k ≤ sz r
  | [], _, _ => by simp [off, sz]
  | x :: r, k, h => by
    have h1 := h.head
    have h2 := off_range (k - x.2) h.tail
    have h3 := sz_nonneg h.tail
    simp only [off, sz]
    split <;> omega
theorem flo_range : ∀ {r : List (Int × Int)} (k : Int), Good r → 0 ≤ k → 0 ≤ flo r k ∧ flo r k ≤ sz r ∧ flo r k ≤ k
  | [], k, _, h0 => by simp [flo, sz]; omega
  | x :: r, k, h, h0 => by
    have h1 := h.head
    have h3 := sz_nonneg h.tail
    simp only [flo, sz]
    split
    · omega
    · have h2 := flo_range (k - x.1) h.tail (by omega)
      omega
theorem ufl_range : ∀ {r : List (Int × Int)} (k : Int), Good r → 0 ≤ ufl r k ∧ ufl r k ≤ un r
  | [], k, _ => by simp [ufl, un]
  | x :: r, k, h => by
    have h1 := h.head
    have h2 := ufl_range (k - x.1) h.tail
    have h3 := un_nonneg h.tail
    simp only [ufl, un]
    split <;> omega
theorem off_ufl : ∀ {r : List (Int × Int)} (k : Int), Good r → 0 ≤ k → off r (ufl r k) = flo r k
  | [], k, _, _ => by simp [off, flo]
  | x :: r, k, h, h0 => by
    have h1 := h.head
    have h3 := un_nonneg h.tail
    by_cases hk : k < x.1
    · simp only [ufl, flo, if_pos hk, off]
      rw [if_pos (by omega)]
    · have h2 := off_ufl (k - x.1) h.tail (by omega)
      have h4 := ufl_range (k - x.1) h.tail
      simp only [ufl, flo, if_neg hk, off]
      rw [if_neg (by omega), show x.2 + ufl r (k - x.1) - x.2 = ufl r (k - x.1) by omega, h2]
theorem flo_off : ∀ {r : List (Int × Int)} (k : Int), Good r → 0 ≤ k → flo r (off r k) = off r k
  | [], k, _, _ => by simp [off, flo]
  | x :: r, k, h, h0 => by
    have h1 := h.head
    by_cases hk : k < x.2
    · simp only [off, if_pos hk, flo]
      rw [if_pos (by omega)]
    · have h2 := flo_off (k - x.2) h.tail (by omega)
      have h4 := off_range (k - x.2) h.tail
      simp only [off, if_neg hk, flo]
      rw [if_neg (by omega), show x.1 + off r (k - x.2) - x.1 = off r (k - x.2) by omega, h2]
theorem ufl_sz : ∀ {r : List (Int × Int)} (k : Int), Good r → sz r ≤ k → ufl r k = un r ∧ flo r k = sz r
  | [], k, _, _ => by simp [ufl, un, flo, sz]
  | x :: r, k, h, hk => by
    have h1 := h.head
    have h3 := sz_nonneg h.tail
    simp only [sz] at hk
    have h2 := ufl_sz (k - x.1) h.tail (by omega)
    simp only [ufl, un, flo, sz]
    rw [if_neg (by omega), if_neg (by omega)]
    omega
theorem dec_head {y : List Int} (hb : Bytes y) (he : (dec y).2.2 = 0) : ∃ h z, y = h ++ z ∧ (h.length : Int) = (dec y).2.1 ∧ (dec h).2.2 = 0 ∧ (∀ k : Nat, k < h.length → (dec (h.take k)).2.2 ≠ 0) ∧ ((∃ b, h = [b] ∧ b < 128) ∨ (2 ≤ h.length ∧ ∀ x ∈ h, 128 ≤ x)) := by
  cases y with
  | nil => simp [dec] at he
  | cons b t =>
    have hb0 := hb b List.mem_cons_self
    by_cases h1 : b < 128
    · refine ⟨[b], t, rfl, by rw [dec_1 t h1]; rfl, by rw [dec_1 [] h1], fun k hk => ?_, .inl ⟨b, rfl, h1⟩⟩
      obtain rfl : k = 0 := by simp at hk; omega
      simp [dec]
    · by_cases h2 : b < 194 ∨ 244 < b
      · rw [dec_0 t (by omega) h2] at he
        simp at he
      · by_cases c2 : b < 224
        · have e := fun z => dec_2 (b := b) z (by omega) c2
          rw [e] at he ⊢
          cases t with
          | nil => simp [restOf] at he
          | cons b1 t1 =>
            by_cases g1 : 128 ≤ b1 ∧ b1 ≤ 191
            · rw [rest_2 g1] at he ⊢
              refine ⟨[b, b1], t1, rfl, rfl, by rw [e, rest_2 g1], fun k hk => ?_, .inr ⟨by simp, fun x hx => by simp at hx; omega⟩⟩
              obtain rfl | rfl : k = 0 ∨ k = 1 := by simp at hk; omega
              · simp [dec]
              · simp only [List.take_succ_cons, List.take_zero]
                rw [e]; simp [restOf]
            · rw [rest_no g1] at he
              simp at he
        · by_cases c3 : b < 240
          · have e := fun z => dec_3 (b := b) z (by omega) c3
            have hlo : 128 ≤ lowOf b := by unfold lowOf; repeat' split <;> try omega
            rw [e] at he ⊢
            cases t with
            | nil => simp [restOf] at he
            | cons b1 t1 =>
              by_cases g1 : lowOf b ≤ b1 ∧ b1 ≤ highOf b
              · cases t1 with
                | nil => rw [rest_n g1 (by decide) rfl] at he; simp at he
                | cons b2 t2 =>
                  by_cases g2 : 128 ≤ b2 ∧ b2 ≤ 191
                  · rw [rest_3 g1 g2] at he ⊢
                    refine ⟨[b, b1, b2], t2, rfl, rfl, by rw [e, rest_3 g1 g2], fun k hk => ?_, .inr ⟨by simp, fun x hx => by simp at hx; omega⟩⟩
                    obtain rfl | rfl | rfl : k = 0 ∨ k = 1 ∨ k = 2 := by simp at hk; omega
                    · simp [dec]
                    · simp only [List.take_succ_cons, List.take_zero]
                      rw [e]; simp [restOf]
                    · simp only [List.take_succ_cons, List.take_zero]
                      rw [e, rest_n g1 (by decide) rfl]; simp
                  · rw [rest_n2 g1 (by decide) g2] at he; simp at he
              · rw [rest_no g1] at he; simp at he
          · have e := fun z => dec_4 (b := b) z (by omega) (by omega)
            have hlo : 128 ≤ lowOf b := by unfold lowOf; repeat' split <;> try omega
            rw [e] at he ⊢
            cases t with
            | nil => simp [restOf] at he
            | cons b1 t1 =>
              by_cases g1 : lowOf b ≤ b1 ∧ b1 ≤ highOf b
              · cases t1 with
                | nil => rw [rest_n g1 (by decide) rfl] at he; simp at he
                | cons b2 t2 =>
                  by_cases g2 : 128 ≤ b2 ∧ b2 ≤ 191
                  · cases t2 with
                    | nil => rw [rest_4e g1 g2] at he; simp at he
                    | cons b3 t3 =>
                      by_cases g3 : 128 ≤ b3 ∧ b3 ≤ 191
                      · rw [rest_4 g1 g2, if_pos g3] at he ⊢
                        refine ⟨[b, b1, b2, b3], t3, rfl, rfl, by rw [e, rest_4 g1 g2, if_pos g3], fun k hk => ?_, .inr ⟨by simp, fun x hx => by simp at hx; omega⟩⟩
                        obtain rfl | rfl | rfl | rfl : k = 0 ∨ k = 1 ∨ k = 2 ∨ k = 3 := by simp at hk; omega
                        · simp [dec]
                        · simp only [List.take_succ_cons, List.take_zero]
                          rw [e]; simp [restOf]
                        · simp only [List.take_succ_cons, List.take_zero]
                          rw [e, rest_n g1 (by decide) rfl]; simp
                        · simp only [List.take_succ_cons, List.take_zero]
                          rw [e, rest_4e g1 g2]; simp
                      · rw [rest_4 g1 g2, if_neg g3] at he; simp at he
                  · rw [rest_n2 g1 (by decide) g2] at he; simp at he
              · rw [rest_no g1] at he; simp at he
theorem Cs.good {y : List Int} {r : List (Int × Int)} (h : Cs y r) (hb : Bytes y) : Good r ∧ sz r = y.length := by
  induction h with
  | nil => exact ⟨fun x hx => (nomatch hx), rfl⟩
  | step y r he h ih =>
    have h1 := dec_ok hb he
    obtain ⟨g, e⟩ := ih (hb.drop _)
    refine ⟨fun x hx => ?_, ?_⟩
    · rcases List.mem_cons.1 hx with rfl | hx
      · refine ⟨h1.1, h1.2.2.1, ?_, ?_⟩ <;> (simp only [usz]; split <;> omega)
      · exact g x hx
    · rw [sz, e, List.length_drop]
      omega
theorem Cs.uniq {y : List Int} {r r' : List (Int × Int)} (h : Cs y r) (h' : Cs y r') : r = r' := by
  induction h generalizing r' with
  | nil =>
    cases h' with
    | nil => rfl
    | step _ _ he _ => simp [dec] at he
  | step y r he h ih =>
    cases h' with
    | nil => simp [dec] at he
    | step _ r2 he2 h2 => rw [ih h2]
theorem cs_nil {r : List (Int × Int)} (h : Cs [] r) : r = [] := h.uniq .nil
theorem Cs.open {y : List Int} {r : List (Int × Int)} (h : Cs y r) (hb : Bytes y) (hne : y ≠ []) : ∃ hd z x q, y = hd ++ z ∧ r = x :: q ∧ (hd.length : Int) = x.1 ∧ (dec hd).2.2 = 0 ∧ (dec hd).2.1 = x.1 ∧ usz (dec hd).1 = x.2 ∧ Cs z q ∧ (∀ k : Nat, k < hd.length → (dec (hd.take k)).2.2 ≠ 0) ∧ ((∃ b, hd = [b] ∧ b < 128) ∨ (2 ≤ hd.length ∧ ∀ x ∈ hd, 128 ≤ x)) := by
  cases h with
  | nil => exact absurd rfl hne
  | step _ q he h =>
    obtain ⟨hd, z, rfl, hl, h0, hk, hs⟩ := dec_head hb he
    have e := dec_append (z := z) h0
    rw [e] at hl h ⊢
    refine ⟨hd, z, _, q, rfl, rfl, hl, h0, rfl, rfl, ?_, hk, hs⟩
    rw [← hl, Int.toNat_natCast, List.drop_left'] at h
    · exact h
    · rfl
theorem dec_hd {hd z : List Int} (h0 : (dec hd).2.2 = 0) : dec (hd ++ z) = dec hd := dec_append h0
theorem chkF_take {l : List Int} (hb : Bytes l) (m : Nat) (hm : m ≤ l.length) (n : Nat) : ∀ (i : Nat) (r : List (Int × Int)), i ≤ m → m - i ≤ n → Cs (l.drop i) r → (chkF n (l.take m) (i : Int)).1 = i + flo r ((m : Int) - i) := by
  induction n with
  | zero =>
    intro i r hi hn h
    obtain rfl : i = m := by omega
    obtain ⟨g, _⟩ := h.good (hb.drop _)
    have := flo_range (r := r) 0 g (Int.le_refl _)
    simp only [chkF]
    rw [show ((i : Int) - i) = 0 by omega]
    omega
  | succ n ih =>
    intro i r hi hn h
    rw [chkF]
    by_cases hlt : i < m
    · have hlen : (l.take m).length = m := by rw [List.length_take]; omega
      rw [if_pos (by rw [hlen]; omega), Int.toNat_natCast, List.drop_take]
      have hne : l.drop i ≠ [] := fun e => by rw [List.drop_eq_nil_iff] at e; omega
      obtain ⟨hd, z, x, q, e, rfl, hl, h0, h1, h2, hz, hk, hs⟩ := h.open (hb.drop _) hne
      rw [e]
      have hx1 : 1 ≤ x.1 := (h.good (hb.drop _)).1.head.1
      by_cases hc : hd.length ≤ m - i
      · have e3 : (hd ++ z).take (m - i) = hd ++ z.take (m - i - hd.length) := by rw [List.take_append, List.take_of_length_le hc]
        rw [e3, dec_hd h0, if_pos h0, h1]
        have hz2 : Cs (l.drop (i + hd.length)) q := by rw [← List.drop_drop, e, List.drop_left' rfl]; exact hz
        have h4 := ih (i + hd.length) q (by omega) (by omega) hz2
        rw [show ((i : Int) + x.1) = ((i + hd.length : Nat) : Int) by omega, h4]
        simp only [flo]
        rw [if_neg (by omega)]
        rw [show ((m : Int) - ((i + hd.length : Nat) : Int)) = (m : Int) - i - x.1 by omega]
        omega
      · have e3 : (hd ++ z).take (m - i) = hd.take (m - i) := by rw [List.take_append_of_le_length (by omega)]
        rw [e3, if_neg (hk _ (by omega))]
        simp only [flo]
        rw [if_pos (by omega)]
        omega
    · obtain rfl : i = m := by omega
      rw [if_neg (by rw [List.length_take]; omega)]
      obtain ⟨g, _⟩ := h.good (hb.drop _)
      have := flo_range (r := r) 0 g (Int.le_refl _)
      rw [show ((i : Int) - i) = 0 by omega]
      show (i : Int) = _
      omega
theorem chk_take {y : List Int} {r : List (Int × Int)} (hb : Bytes y) (h : Cs y r) (m : Nat) (hm : m ≤ y.length) : (chk (y.take m)).1 = flo r m := by
  have h1 := chkF_take hb m hm (y.take m).length 0 r (Nat.zero_le _) (by rw [List.length_take]; omega) (by simpa using h)
  unfold chk
  rw [show ((0 : Nat) : Int) = 0 from rfl] at h1
  rw [h1]
  simp
theorem chk_all {y : List Int} {r : List (Int × Int)} (hb : Bytes y) (h : Cs y r) : chk y = ((y.length : Int), 0) := by
  have h1 := (chk_V hb).2 h.v
  have h2 := chk_take hb h y.length (Nat.le_refl _)
  rw [List.take_length] at h2
  obtain ⟨g, e⟩ := h.good hb
  have h3 := (ufl_sz (r := r) y.length g (by omega)).2
  exact Prod.ext (by rw [h2, h3, e]) h1
theorem cs_take {y : List Int} {r : List (Int × Int)} (h : Cs y r) (hb : Bytes y) : ∀ k : Int, ∃ q, Cs (y.take (flo r k).toNat) q ∧ un q = ufl r k := by
  induction h with
  | nil => exact fun k => ⟨[], by simpa using Cs.nil, rfl⟩
  | step y r he h ih =>
    intro k
    obtain ⟨hd, z, e, hl, h0, hk, hs⟩ := dec_head hb he
    by_cases hlt : k < (dec y).2.1
    · exact ⟨[], by simp only [flo, if_pos hlt]; simpa using Cs.nil, by simp only [ufl, if_pos hlt, un]⟩
    · obtain ⟨q, hq, hu⟩ := ih (hb.drop _) (k - (dec y).2.1)
      have g := ((Cs.step y r he h).good hb).1
      have hf := flo_range (r := r) (k - (dec y).2.1) g.tail (by omega)
      have hd1 : dec (hd ++ z) = dec hd := dec_append h0
      refine ⟨((dec y).2.1, usz (dec y).1) :: q, ?_, ?_⟩
      · simp only [flo, if_neg hlt]
        have e2 : y.take ((dec y).2.1 + flo r (k - (dec y).2.1)).toNat = hd ++ (y.drop (dec y).2.1.toNat).take (flo r (k - (dec y).2.1)).toNat := by
          rw [← hl, Int.toNat_natCast, show ((hd.length : Int) + flo r (k - hd.length)).toNat = hd.length + (flo r (k - hd.length)).toNat by rw [hl]; omega]
          subst e
          rw [List.take_append, List.take_of_length_le (by omega), List.drop_left' rfl]
          congr 2
          omega
        rw [e2]
        have e4 : dec (hd ++ (y.drop (dec y).2.1.toNat).take (flo r (k - (dec y).2.1)).toNat) = dec y := by rw [dec_append h0, e, hd1]
        have h5 := Cs.step (hd ++ (y.drop (dec y).2.1.toNat).take (flo r (k - (dec y).2.1)).toNat) q (by rw [e4]; exact he) (by
          rw [e4]
          rw [List.drop_left' (by omega)]
          exact hq)
        rw [e4] at h5
        exact h5
      · simp only [ufl, if_neg hlt, un, hu]
theorem V.take {a : List Int} (hb : Bytes a) {hd z : List Int} (h0 : (dec hd).2.2 = 0) (hl : (hd.length : Int) = (dec hd).2.1) : V hd := by
  refine .step hd h0 ?_
  rw [← hl, Int.toNat_natCast, List.drop_length]
  exact .nil
theorem lns_skip (l : List Int) (fr : Int) (m : Nat) : ∀ (i : Nat), i + m ≤ l.length → (∀ j : Nat, i ≤ j → j < i + m → rd l j ≠ 10 ∧ rd l j ≠ 13) → lns (l.drop i) fr i = lns (l.drop (i + m)) fr ((i + m : Nat) : Int) := by
  induction m with
  | zero => intro i _ _; rfl
  | succ m ih =>
    intro i hi hne
    have h1 := hne i (Nat.le_refl _) (by omega)
    have h2 := lns_drop l fr (i : Int) (by omega) (by omega)
    rw [Int.toNat_natCast] at h2
    rw [h2, if_neg h1.1, if_neg h1.2, show ((i : Int) + 1).toNat = i + 1 by omega, show ((i : Int) + 1) = ((i + 1 : Nat) : Int) by omega, ih (i + 1) (by omega) (fun j a b => hne j (by omega) (by omega))]
    rw [show i + 1 + m = i + (m + 1) by omega]
theorem seg_app (l : List Int) (fr i m : Nat) (h : fr ≤ i) : (l.take (i + m)).drop fr = (l.take i).drop fr ++ (l.drop i).take m := by
  rw [List.take_add, List.drop_append]
  congr 1
  by_cases hi : i ≤ l.length
  · rw [show fr - (l.take i).length = 0 by rw [List.length_take]; omega, List.drop_zero]
  · rw [show l.drop i = [] by rw [List.drop_eq_nil_iff]; omega]; simp
theorem lns_V (l : List Int) (hb : Bytes l) (n : Nat) : ∀ (fr i : Nat), fr ≤ i → i ≤ l.length → l.length - i ≤ n → V ((l.take i).drop fr) → V (l.drop i) → ∀ x ∈ lns (l.drop i) fr i, V ((l.take x.f1.toNat).drop x.f0.toNat) := by
  induction n with
  | zero =>
    intro fr i hf hi hn h1 h2 x hx
    rw [show l.drop i = [] by rw [List.drop_eq_nil_iff]; omega] at hx
    simp only [lns, List.mem_singleton] at hx
    subst hx
    simpa using h1
  | succ n ih =>
    intro fr i hf hi hn h1 h2 x hx
    by_cases hlt : i < l.length
    · have hne : l.drop i ≠ [] := fun e => by rw [List.drop_eq_nil_iff] at e; omega
      obtain ⟨r, hr⟩ := h2.cs
      obtain ⟨hd, z, y, q, e, rfl, hl, h0, h3, h4, hz, hk, hs⟩ := hr.open (hb.drop _) hne
      have hz2 : l.drop (i + hd.length) = z := by rw [← List.drop_drop, e, List.drop_left' rfl]
      have hlen : i + hd.length ≤ l.length := by
        have := congrArg List.length e
        rw [List.length_drop, List.length_append] at this
        omega
      have hrd : ∀ j : Nat, j < hd.length → rd l ((i + j : Nat) : Int) = hd.getD j 0 := fun j hj => by
        have h9 : l.getD (i + j) 0 = (l.drop i).getD j 0 := by simp [List.getD, List.getElem?_drop]
        simp only [rd, Int.toNat_natCast]
        rw [h9, e]
        simp [List.getD, List.getElem?_append_left hj]
      rcases hs with ⟨b, rfl, hb1⟩ | ⟨hge, hall⟩
      · have hb0 : rd l (i : Int) = b := by have := hrd 0 (by simp); simpa using this
        have h5 := lns_drop l fr (i : Int) (by omega) (by omega)
        rw [Int.toNat_natCast, hb0, show ((i : Int) + 1).toNat = i + 1 by omega, show ((i : Int) + 2).toNat = i + 2 by omega, show ((i : Int) + 1) = ((i + 1 : Nat) : Int) by omega, show ((i : Int) + 2) = ((i + 2 : Nat) : Int) by omega] at h5
        rw [h5] at hx
        have hz3 : l.drop (i + 1) = z := hz2
        have vz : V (l.drop (i + 1)) := by rw [hz3]; exact hz.v
        have nilV : ∀ j : Nat, V ((l.take j).drop j) := fun j => by rw [List.drop_take_self]; exact .nil
        by_cases b10 : b = 10
        · rw [if_pos b10] at hx
          rcases List.mem_cons.1 hx with rfl | hx
          · simpa using h1
          · exact ih (i + 1) (i + 1) (Nat.le_refl _) (by omega) (by omega) (nilV _) vz x hx
        · rw [if_neg b10] at hx
          by_cases b13 : b = 13
          · rw [if_pos b13] at hx
            by_cases h6 : (((i + 1 : Nat) : Int) < l.length ∧ rd l ((i + 1 : Nat) : Int) = 10)
            · rw [if_pos h6] at hx
              rcases List.mem_cons.1 hx with rfl | hx
              · simpa using h1
              · refine ih (i + 2) (i + 2) (Nat.le_refl _) (by omega) (by omega) (nilV _) ?_ x hx
                have hne2 : l.drop (i + 1) ≠ [] := fun e => by rw [List.drop_eq_nil_iff] at e; omega
                have hlt2 : i + 1 < l.length := by omega
                have e7 : l.drop (i + 1) = 10 :: l.drop (i + 2) := by
                  rw [List.drop_eq_getElem_cons hlt2]
                  congr 1
                  have := h6.2
                  simp [rd, List.getD, hlt2] at this
                  exact this
                rw [e7] at vz
                obtain ⟨r2, hr2⟩ := vz.cs
                cases hr2 with
                | step _ _ he9 h9 =>
                  rw [dec_1 _ (by decide)] at h9
                  exact h9.v
            · rw [if_neg h6] at hx
              rcases List.mem_cons.1 hx with rfl | hx
              · simpa using h1
              · exact ih (i + 1) (i + 1) (Nat.le_refl _) (by omega) (by omega) (nilV _) vz x hx
          · rw [if_neg b13] at hx
            refine ih fr (i + 1) (by omega) (by omega) (by omega) ?_ vz x hx
            rw [seg_app l fr i 1 hf, e]
            exact h1.append (fun y hy => hb y (List.mem_of_mem_take (List.mem_of_mem_drop hy))) (by simpa using V.take hb (z := []) h0 (by rw [h3]; exact hl))
      · have h5 := lns_skip l fr hd.length i hlen (fun j a b => by
          have h7 := hrd (j - i) (by omega)
          rw [show i + (j - i) = j by omega] at h7
          have h8 : hd.getD (j - i) 0 ∈ hd := by
            have hj : j - i < hd.length := by omega
            simp [List.getD, hj]
          have := hall _ h8
          rw [h7]
          omega)
        rw [h5] at hx
        refine ih fr (i + hd.length) (by omega) hlen (by omega) ?_ (by rw [hz2]; exact hz.v) x hx
        rw [seg_app l fr i hd.length hf, e, List.take_left' rfl]
        exact h1.append (fun y hy => hb y (List.mem_of_mem_take (List.mem_of_mem_drop hy))) (V.take hb (z := []) h0 (by rw [h3]; exact hl))
    · rw [show l.drop i = [] by rw [List.drop_eq_nil_iff]; omega] at hx
      simp only [lns, List.mem_singleton] at hx
      subst hx
      simpa using h1
theorem line_V {l : List Int} (hb : Bytes l) (hv : V l) (t : Nat) (ht : t < (lns l 0 0).length) : V ((l.take (rdLn (lns l 0 0) t).f1.toNat).drop (rdLn (lns l 0 0) t).f0.toNat) := by
  refine lns_V l hb l.length 0 0 (Nat.le_refl _) (Nat.zero_le _) (by omega) (by simpa using V.nil) (by simpa using hv) _ ?_
  simp only [List.drop_zero]
  have : rdLn (lns l 0 0) t = (lns l 0 0)[t] := by simp [rdLn, List.getD, ht]
  rw [this]
  exact List.getElem_mem _
theorem Cs.split {y : List Int} {r : List (Int × Int)} (h : Cs y r) (hne : y ≠ []) : ∃ q, r = ((dec y).2.1, usz (dec y).1) :: q ∧ (dec y).2.2 = 0 ∧ Cs (y.drop (dec y).2.1.toNat) q := by
  cases h with
  | nil => exact absurd rfl hne
  | step _ q he h => exact ⟨q, rfl, he, h⟩
theorem size_f (c : Int) : units_size.f c = some (usz c) := by unfold units_size.f usz; split <;> rfl
theorem usz_range (c : Int) : 1 ≤ usz c ∧ usz c ≤ 2 := by unfold usz; split <;> omega
end Go.Proofs.Ytjebkpcekkkbkaa.B
namespace Go.Proofs.Ytjebkpcekkkbkaa.B
open Go.RowKit Go.Shelf Go.Proofs Go.Proofs.YtjebkpcekkkbkaaW.PrintWords Go.Proofs.YtjebkpcekkkbkaaW.PrintLast Go.Proofs.YtjebkpcekkkbkaaW.PrintMore Go.Proofs.Ytjebkpcekkkbkaa.FBase
set_option maxRecDepth 100000 in
set_option maxHeartbeats 1000000 in
theorem UOffset_ok (A : Option Addr) (c : Nat) (s : List Int) (r : List (Int × Int)) (u : Int) (w : World) (hr : Kd.C (Kd.int .u8) w A s.length s) (hc : s.length ≤ c) (hb : Bytes s) (hs : s.length ≤ 1048576) (h : Cs s r) (h0 : 0 ≤ u) (h1 : u ≤ 9223372036854775807) :
    Calls Try.prog 90 #[.slice A s.length c, .int .i64 u] w fun e w' => e = .returned (.tuple #[.int .i64 (off r u), .int .i64 0]) ∧ Below w.heap.size w w' := by
  have HR := Aside0.mk hr
  have HC := Aside0.mk hc
  have HB := Aside0.mk hb
  have HK := Aside0.mk (show runes_Check.f (s.length + 9) s = some ((s.length : Int), 0) by rw [Check_f s hb hs (Nat.lt_succ_self _), chk_all hb h])
  have HCS := Aside0.mk h
  clear hr hc h hb
  go_enter Try.func90, Try.ntmps90
  go_wp2
  go_step3
  go_wp2_with (go_at_call 58; refine (runes_Check.calls (s.length + 9) _ _ s _ 0 _ (Kd.C_below HR.out (by repeat (first | exact Below.refl _ _ | apply below_alloc | apply pw_below_drewN | apply below_drew1))) HC.out HK.out).mono ?_; rintro e w' ⟨rfl, nc, rfl⟩)
  go_step3
  go_wp2
  go_loopw [1, 8] (fun s1 s8 W => ∃ (n : Nat) (v i : Int), W = w.drewN n ∧ s1 = .int .i64 v ∧ s8 = .int .i64 i ∧ 0 ≤ v ∧ v ≤ 9223372036854775807 ∧ 0 ≤ i ∧ i ≤ s.length ∧ Aside0 (∃ q, Cs (s.drop i.toNat) q ∧ i + off q v = off r u)) (fun _ s8 _ => s.length - (intOf s8).toNat)
  case atStart => exact ⟨nc, u, 0, rfl, rfl, rfl, h0, h1, by omega, by omega, ⟨r, by simpa using HCS.out, by omega⟩⟩
  case round =>
    obtain ⟨n, v, i, rfl, rfl, rfl, hv0, hv1, hi0, hi1, HQ⟩ := hrel
    obtain ⟨q, hq, hoff⟩ := HQ.out
    by_cases hlt : i < s.length
    · have hne : s.drop i.toNat ≠ [] := fun e => by rw [List.drop_eq_nil_iff] at e; omega
      obtain ⟨q2, rfl, he, hq2⟩ := hq.split hne
      have hd := dec_ok (HB.out.drop i.toNat) he
      rw [List.length_drop] at hd
      have hdf := Decode_f s i HB.out (by omega) hi0 hlt
      have hu := usz_range (dec (s.drop i.toNat)).1
      have hsz := size_f (dec (s.drop i.toNat)).1
      rw [show dec (s.drop i.toNat) = ((dec (s.drop i.toNat)).1, (dec (s.drop i.toNat)).2.1, (dec (s.drop i.toNat)).2.2) from rfl, he] at hdf
      simp only [off] at hoff
      rw [List.drop_drop] at hq2
      have hq3 : Cs (s.drop (i + (dec (s.drop i.toNat)).2.1).toNat) q2 := by rw [show (i + (dec (s.drop i.toNat)).2.1).toNat = i.toNat + (dec (s.drop i.toNat)).2.1.toNat by omega]; exact hq2
      clear HQ hq hne hq2 he
      generalize (dec (s.drop i.toNat)).2.1 = nn at *
      generalize (dec (s.drop i.toNat)).1 = cc at *
      have HD := Aside0.mk hdf
      have HU := Aside0.mk hsz
      have HQ3 := Aside0.mk hq3
      have HO := Aside0.mk hoff
      clear hdf hsz hq3 hoff
      generalize usz cc = uu at *
      by_cases hgt : v < uu
      · go_wp2_with (first | (go_at_call 58; refine (runes_Check.calls (s.length + 9) _ _ s _ 0 _ (Kd.C_below HR.out (by repeat (first | exact Below.refl _ _ | apply below_alloc | apply pw_below_drewN | apply below_drew1))) HC.out HK.out).mono ?_; rintro e w' ⟨rfl, nc, rfl⟩) | (go_at_call 85; refine (runes_Decode.calls 8 _ _ s i _ _ _ _ (Kd.C_below HR.out (by repeat (first | exact Below.refl _ _ | apply below_alloc | apply pw_below_drewN | apply below_drew1))) HC.out HD.out).mono ?_; rintro e w' ⟨rfl, nd, rfl⟩) | (go_at_call 114; refine (units_size.calls cc _ _ HU.out).mono ?_; rintro e w' ⟨rfl, ns, rfl⟩))
        first | rw [Exit.noGoto_ret] | skip
        go_ret2
        have := HO.out
        rw [if_pos hgt] at this
        exact ⟨by rw [← this]; simp, (by repeat (first | exact Below.refl _ _ | apply below_alloc | apply pw_below_drewN | apply below_drew1))⟩
      · go_wp2_with (first | (go_at_call 58; refine (runes_Check.calls (s.length + 9) _ _ s _ 0 _ (Kd.C_below HR.out (by repeat (first | exact Below.refl _ _ | apply below_alloc | apply pw_below_drewN | apply below_drew1))) HC.out HK.out).mono ?_; rintro e w' ⟨rfl, nc, rfl⟩) | (go_at_call 85; refine (runes_Decode.calls 8 _ _ s i _ _ _ _ (Kd.C_below HR.out (by repeat (first | exact Below.refl _ _ | apply below_alloc | apply pw_below_drewN | apply below_drew1))) HC.out HD.out).mono ?_; rintro e w' ⟨rfl, nd, rfl⟩) | (go_at_call 114; refine (units_size.calls cc _ _ HU.out).mono ?_; rintro e w' ⟨rfl, ns, rfl⟩))
        go_roundw
        case measure => simp [intOf]; omega
        case rel =>
          have := HO.out
          rw [if_neg (by omega)] at this
          exact ⟨_, v - uu, i + nn, by first | rfl | simp only [World.drewN_drewN], rfl, rfl, by omega, by omega, by omega, by omega, ⟨q2, HQ3.out, by omega⟩⟩
    · obtain rfl : i = s.length := by omega
      rw [Int.toNat_natCast, List.drop_length] at hq
      obtain rfl := cs_nil hq
      have HO := Aside0.mk hoff
      clear hoff hq HQ
      go_wp2
      first | rw [Exit.noGoto_ret] | skip
      go_ret2
      exact ⟨by rw [← HO.out]; simp [off], (by repeat (first | exact Below.refl _ _ | apply below_alloc | apply pw_below_drewN | apply below_drew1))⟩
noncomputable def chars (y : List Int) : List (Int × Int) := open Classical in if h : ∃ r, Cs y r then h.choose else []
theorem V.chars {y : List Int} (h : V y) : Cs y (chars y) := by
  have h1 := h.cs
  unfold B.chars
  rw [dif_pos h1]
  exact h1.choose_spec
def seg (l : List Int) (x : Ln) : List Int := (l.take x.f1.toNat).drop x.f0.toNat
def IsMap (W : World) (m : Nat) (l : List Int) : Prop :=
  ∃ a A c, W.heap[m]? = some (.cells #[.pointer (some ⟨a, 0, none⟩), .slice A l.length c] 103 (0, 0)) ∧ IsIdx W a (lns l 0 0) ∧ l.length ≤ c ∧ Kd.C (Kd.int .u8) W A l.length l
theorem IsMap.below {W W1 : World} {m : Nat} {l : List Int} (h : IsMap W m l) (hb : Below W.heap.size W W1) : IsMap W1 m l := by
  obtain ⟨a, A, c, h1, h2, h3, h4⟩ := h
  exact ⟨a, A, c, (hb.block m (blk_lt h1)).trans h1, h2.below hb, h3, Kd.C_below h4 hb⟩
theorem keeps_map (m : Nat) (l : List Int) : Keeps (fun W => IsMap W m l) := fun _ _ h hb => h.below hb
theorem none_map (w : World) (m : Nat) (l : List Int) (h : IsMap w m l) : Calls Try.prog 87 #[.pointer (some ⟨m, 0, none⟩)] w fun e w' => e = .returned (.bool false) ∧ w = w' := by
  obtain ⟨a, A, c, h1, _, _, _⟩ := h
  have h2 : w.cell? ⟨m, 0, none⟩ = some (.pointer (some ⟨a, 0, none⟩)) := (blk_cell h1 0).trans rfl
  clear h1
  go_enter Try.func87, Try.ntmps87
  go_wp2
  go_ret
  exact ⟨rfl, rfl⟩
def NoMap (W : World) (p : Option Addr) : Prop := p = none ∨ ∃ m, p = some ⟨m, 0, none⟩ ∧ IsBlk W m (.cells #[.pointer none, .slice none 0 0] 103)
theorem NoMap.below {W W1 : World} {p : Option Addr} (h : NoMap W p) (hb : Below W.heap.size W W1) : NoMap W1 p := by
  rcases h with h | ⟨m, h, hI⟩
  · exact .inl h
  · exact .inr ⟨m, h, hI.below hb⟩
set_option maxRecDepth 100000 in
set_option maxHeartbeats 1000000 in
theorem Clone_ok (A : Option Addr) (c : Nat) (l : List Int) (w : World) (hr : Kd.C (Kd.int .u8) w A l.length l) (hc : l.length ≤ c) (hn : A = none → c = 0) (hs : l.length ≤ 1048576) :
    Calls Try.prog 61 #[.slice A l.length c] w fun e w' => ∃ v : Value, e = .returned v ∧ Kd.R (Kd.int .u8) 5 w' w.heap.size (fun _ => True) v l ∧ Below w.heap.size w w' := by
  have HR := Aside0.mk hr
  have HC := Aside0.mk hc
  clear hr
  cases A with
  | none =>
    obtain rfl := hn rfl
    obtain rfl : l = [] := by cases l with | nil => rfl | cons _ _ => simp at hc
    have e0 := fun (w : World) (a : Option Addr) (n c n2 c2 : Nat) => Lib.run_eql_slice_nil (P := Try.prog) w 22 5 a n c n2 c2 Try.underlying22
    go_enter Try.func61, Try.ntmps61
    go_wp2
    go_ret
    exact ⟨_, rfl, Kd.R_nil _ _ _ _ _, Below.refl _ _⟩
  | some ad =>
    clear hc
    have e0 := fun (w : World) (a : Option Addr) (n c n2 c2 : Nat) => Lib.run_eql_slice_nil (P := Try.prog) w 22 5 a n c n2 c2 Try.underlying22
    go_enter Try.func61, Try.ntmps61
    go_wp2_with (first | ((with_reducible refine gate_dst (N := 5) rfl ?_); refine Kd.R_lit (Kd.int .u8) _ 5 ?hg (N := 5) ?hd (xs := ([] : List Int)) (inner := []) (ok := fun _ => True) (okp := fun _ => True) ?hr ?hp (fun _ hk => hk) trivial (Below.refl _ _) (Nat.le_refl _) (by simp) ?_; (case hd => rfl); (case hg => rfl); (case hr => first | (go_simp; done) | (go_simp; rfl)); (case hp => exact (Reps.none _ _)); intro v1 w5 ho hb hg_ hnew_; clear hg_ hnew_; have HO := Aside0.mk ho; have HB := Aside0.mk hb; clear hb ho) | ((with_reducible refine gate_builtin (b := .append) (xs := #[.tmp 5, .tmp 6]) rfl ?_); at_builtin; refine Kd.R_append_rows (Kd.int .u8) (w0 := w) w.heap.size rfl (.tmp 5) (.tmp 6) 22 5 (.int .u8 0) 1 rfl Try.underlying22 info5 rfl (by decide) (by omega) v1 [] l _ _ _ (fun _ => True) (fun _ => False) rfl rfl ?aO ?aR (fun _ _ h => h) (fun _ h => h.elim) ?aF ?aB ?aS ?aL ?_; (case aR => exact Kd.C_below HR.out (by repeat (first | exact HB.out | apply below_alloc | apply pw_below_drewN | apply below_drew1))); (case aB => exact (by repeat (first | exact HB.out | apply below_alloc | apply pw_below_drewN | apply below_drew1))); (case aF => exact (fun _ _ => trivial)); (case aO => exact HO.out); (case aS => exact below_size (by repeat (first | exact HB.out | apply below_alloc | apply pw_below_drewN | apply below_drew1))); (case aL => simp; omega); intro v2 w7 ho hb hg hat; have HB2 := Aside0.mk hb; have HO2 := Aside0.mk ho; clear ho hb hg hat))
    go_ret
    exact ⟨_, rfl, HO2.out, HB2.out⟩
set_option maxHeartbeats 1000000 in
theorem MNew_ok (k : Nat) (A : Option Addr) (c : Nat) (l : List Int) (r1 : Int) (w : World) (hr : Kd.C (Kd.int .u8) w A l.length l) (hc : l.length ≤ c) (hn : A = none → c = 0) (h : runes_Check.f k l = some (r1, 0)) (hs : l.length ≤ 1048576) :
    Calls Try.prog 25 #[.slice A l.length c] w fun e w' => ∃ m, e = .returned (.tuple #[.pointer (some ⟨m, 0, none⟩), .int .i64 0]) ∧ IsMap w' m l ∧ Below w.heap.size w w' := by
  have HS := Aside0.mk ((Sta.start w).only hr (keeps_C _ _ _ _))
  have HC := Aside0.mk hc
  have H := Aside0.mk h
  clear hr hc h
  go_enter Try.func25, Try.ntmps25
  go_wp2_with (first | (go_at_call 60; refine (New_all k A c l r1 _ (HS.out.step (by repeat (first | exact Below.refl _ _ | apply below_alloc | apply pw_below_drewN | apply below_drew1))).now HC.out H.out hs).mono ?_; rintro e w1 ⟨a, rfl, hle, hI, hb⟩; have hI := hI.now; clear hle; have m_ := Aside0.mk ((HS.out.call (by repeat (first | exact Below.refl _ _ | apply below_alloc | apply pw_below_drewN | apply below_drew1)) hb).add hI (keeps_idx _ _)); clear HS hb hI; have HS := m_; clear m_) | (go_at_call 61; refine (Clone_ok A c l _ (HS.out.step (by repeat (first | exact Below.refl _ _ | apply below_alloc | apply pw_below_drewN | apply below_drew1))).now.2 HC.out hn hs).mono ?_; rintro e w2 ⟨v, rfl, hR, hb⟩; obtain ⟨A2, c2, rfl⟩ := Kd.R_slice hR; obtain ⟨-, hcap, hC⟩ := Kd.R_reads' hR; have HCP := Aside0.mk hcap; clear hcap; have HRR := Aside0.mk hR; clear hR; have m_ := Aside0.mk ((HS.out.call (by repeat (first | exact Below.refl _ _ | apply below_alloc | apply pw_below_drewN | apply below_drew1)) hb).add hC (keeps_C _ _ _ _)); clear HS hb hC; have HS := m_; clear m_))
  go_ret2
  have hS := HS.out.step (below_alloc (Below.refl _ w2) (.cells #[.pointer (some ⟨a, 0, none⟩), .slice A2 l.length c2] 103))
  exact ⟨_, rfl, ⟨a, A2, c2, blk_new w2 _, hS.now.2.1, HCP.out, hS.now.1⟩, hS.bel⟩
theorem cut_seg (W : World) (A : Option Addr) (c : Nat) (l : List Int) (x0 x1 : Int) (hC : Kd.C (Kd.int .u8) W A l.length l) (hc : l.length ≤ c) (h0 : 0 ≤ x0) (h1 : x0 ≤ x1) (h2 : x1 ≤ l.length) :
    ∃ B d, (∀ W1 : World, (Instr.slice 22 (.slice A l.length c) (some (.int .i64 x0)) (some (.int .i64 x1)) none).run Try.prog W1 = .ok (.slice B ((l.take x1.toNat).drop x0.toNat).length d) W1) ∧
      Kd.C (Kd.int .u8) W B ((l.take x1.toNat).drop x0.toNat).length ((l.take x1.toNat).drop x0.toNat) ∧ ((l.take x1.toNat).drop x0.toNat).length ≤ d := by
  obtain ⟨i0, hi0, _, hsz, _⟩ := info_parts info5
  have hcut := cut_mid (P := Try.prog) 22 5 .i64 .i64 Try.underlying22 hi0 1 hsz A l.length c x0 x1 h0 h1 h2 hc
  have hmid := Kd.C_mid hC (lo := x0.toNat) (hi := x1.toNat) (by omega) (by omega) hc
  have hml : ((l.take x1.toNat).drop x0.toNat).length = x1.toNat - x0.toNat := by rw [List.length_drop, List.length_take]; omega
  refine ⟨_, c - x0.toNat, fun W1 => ?_, hmid, ?_⟩
  · rw [hml]; exact hcut W1
  · rw [hml]; omega
def MapAt (W : World) (m a : Nat) (A : Option Addr) (c : Nat) (l : List Int) : Prop :=
  IsIdx W a (lns l 0 0) ∧ Kd.C (Kd.int .u8) W A l.length l ∧ IsBlk W m (.cells #[.pointer (some ⟨a, 0, none⟩), .slice A l.length c] 103)
theorem IsMap.open {W : World} {m : Nat} {l : List Int} (h : IsMap W m l) : ∃ a A c, l.length ≤ c ∧ MapAt W m a A c l := by
  obtain ⟨a, A, c, h1, h2, h3, h4⟩ := h
  exact ⟨a, A, c, h3, h2, h4, h1⟩
theorem MapAt.map {W : World} {m a c : Nat} {A : Option Addr} {l : List Int} (h : MapAt W m a A c l) (hc : l.length ≤ c) : IsMap W m l := ⟨a, A, c, h.2.2, h.1, hc, h.2.1⟩
theorem keeps_mapAt (m a : Nat) (A : Option Addr) (c : Nat) (l : List Int) : Keeps (fun W => MapAt W m a A c l) := keeps_and (keeps_idx _ _) (keeps_and (keeps_C _ _ _ _) (keeps_blk _ _))
set_option maxRecDepth 100000 in
set_option maxHeartbeats 1000000 in
theorem MOffset_neg (m : Nat) (l : List Int) (line char : Int) (w : World) (hM : IsMap w m l) (h : line < 0 ∨ char < 0) :
    Calls Try.prog 62 #[.pointer (some ⟨m, 0, none⟩), .agg #[.int .i64 line, .int .i64 char]] w fun e w' => e = .returned (.tuple #[.int .i64 0, .int .i64 9]) ∧ Below w.heap.size w w' := by
  obtain ⟨a, A, c, hc, hA⟩ := hM.open
  have HC := Aside0.mk hc
  have hb1 := below_alloc (Below.refl _ w) (.cells #[.int .i64 line, .int .i64 char] 25)
  have HS : Aside0 (Sta w (w.alloc (.cells #[.int .i64 line, .int .i64 char] 25)) (fun W => IsBlk W w.heap.size (.cells #[.int .i64 line, .int .i64 char] 25) ∧ MapAt W m a A c l)) := ⟨⟨hb1, ⟨blk_new w _, keeps_mapAt m a A c l _ _ hA hb1⟩, keeps_and (keeps_blk _ _) (keeps_mapAt _ _ _ _ _)⟩⟩
  have cb : (w.alloc (.cells #[.int .i64 line, .int .i64 char] 25)).cell? ⟨w.heap.size, 0, none⟩ = some (.int .i64 line) := HS.out.now.1.cell 0
  have cc : (w.alloc (.cells #[.int .i64 line, .int .i64 char] 25)).cell? ⟨w.heap.size, 1, none⟩ = some (.int .i64 char) := HS.out.now.1.cell 1
  clear hM hA hb1 hc
  by_cases hl : line < 0
  all_goals
    have hch : ¬ line < 0 → decide (char < 0) = true := fun h => decide_eq_true (by omega)
    go_enter Try.func62, Try.ntmps62
    go_wp2_with (go_at_call 87; refine (none_map _ m l (MapAt.map (HS.out.step (by repeat (first | exact Below.refl _ _ | apply below_alloc | apply pw_below_drewN | apply below_drew1))).now.2 HC.out)).mono ?_; rintro e w' ⟨rfl, rfl⟩)
    go_ret2
    exact ⟨rfl, HS.out.bel⟩
set_option maxRecDepth 100000 in
set_option maxHeartbeats 1000000 in
theorem MOffset_far (m : Nat) (l : List Int) (line char : Int) (w : World) (hM : IsMap w m l) (hs : l.length ≤ 1048576) (h0 : 0 ≤ line) (h1 : 0 ≤ char) (h : (lns l 0 0).length ≤ line) :
    Calls Try.prog 62 #[.pointer (some ⟨m, 0, none⟩), .agg #[.int .i64 line, .int .i64 char]] w fun e w' => e = .returned (.tuple #[.int .i64 l.length, .int .i64 0]) ∧ Below w.heap.size w w' := by
  obtain ⟨a, A, c, hc, hA⟩ := hM.open
  have HC := Aside0.mk hc
  have hb1 := below_alloc (Below.refl _ w) (.cells #[.int .i64 line, .int .i64 char] 25)
  have HS : Aside0 (Sta w (w.alloc (.cells #[.int .i64 line, .int .i64 char] 25)) (fun W => IsBlk W w.heap.size (.cells #[.int .i64 line, .int .i64 char] 25) ∧ MapAt W m a A c l)) := ⟨⟨hb1, ⟨blk_new w _, keeps_mapAt m a A c l _ _ hA hb1⟩, keeps_and (keeps_blk _ _) (keeps_mapAt _ _ _ _ _)⟩⟩
  have cb : (w.alloc (.cells #[.int .i64 line, .int .i64 char] 25)).cell? ⟨w.heap.size, 0, none⟩ = some (.int .i64 line) := HS.out.now.1.cell 0
  have cc : (w.alloc (.cells #[.int .i64 line, .int .i64 char] 25)).cell? ⟨w.heap.size, 1, none⟩ = some (.int .i64 char) := HS.out.now.1.cell 1
  have cm : (w.alloc (.cells #[.int .i64 line, .int .i64 char] 25)).cell? ⟨m, 0, none⟩ = some (.pointer (some ⟨a, 0, none⟩)) := HS.out.now.2.2.2.cell 0
  clear hM hA hb1 hc
  have hch := lns_chain0 l
  have hln : (lns l 0 0).length ≤ 2097152 := by have := hch.length_le; omega
  have hpos := hch.pos
  obtain ⟨L, hL⟩ : ∃ L, L = lns l 0 0 := ⟨_, rfl⟩
  have HLE := Aside0.mk hL
  rw [← hL] at hln hpos h
  clear hL hch
  have d0 : decide (line < 0) = false := decide_eq_false (by omega)
  have d1 : decide (char < 0) = false := decide_eq_false (by omega)
  have d2 : decide ((L.length : Int) ≤ line) = true := decide_eq_true h
  go_enter Try.func62, Try.ntmps62
  go_upto_region 5 with (go_at_call 87; refine (none_map _ m l (MapAt.map (HS.out.step (by repeat (first | exact Below.refl _ _ | apply below_alloc | apply pw_below_drewN | apply below_drew1))).now.2 HC.out)).mono ?_; rintro e w' ⟨rfl, rfl⟩)
  go_region_held3 (fun wx => wx.cell? ⟨w.heap.size, 0, none⟩ = some (.int .i64 line) ∧ wx.cell? ⟨m, 0, none⟩ = some (.pointer (some ⟨a, 0, none⟩))) (go_keep) (first | (go_at_call 88; refine (Count_ok a L _ (HLE.out ▸ (HS.out.step (by repeat (first | exact Below.refl _ _ | apply below_alloc | apply pw_below_drewN | apply below_drew1))).now.2.1) hpos hln).mono ?_; rintro e w5 ⟨rfl, hb⟩; have m_ := Aside0.mk (HS.out.call (by repeat (first | exact Below.refl _ _ | apply below_alloc | apply pw_below_drewN | apply below_drew1)) hb); clear HS hb ; have HS := m_; clear m_; have cb : w5.cell? ⟨w.heap.size, 0, none⟩ = some (.int .i64 line) := HS.out.now.1.cell 0; have cm : w5.cell? ⟨m, 0, none⟩ = some (.pointer (some ⟨a, 0, none⟩)) := HS.out.now.2.2.2.cell 0))
  have c1 : w5.cell? ⟨m, 1, none⟩ = some (.slice A l.length c) := HS.out.now.2.2.2.cell 1
  go_wp2
  go_ret2
  exact ⟨rfl, HS.out.bel⟩
attribute [local go_sem] Oper.semAt_some
def Box1 (W : World) (g : Nat) (v : Value) : Prop := W.cell? ⟨g, 0, none⟩ = some v ∧ W.frozen? ⟨g, 0, none⟩ = false
theorem Box1.below {W W1 : World} {g : Nat} {v : Value} (h : Box1 W g v) (hb : Below W.heap.size W W1) : Box1 W1 g v := by
  have hlt := World.block_lt_of_cell? W _ h.1
  exact ⟨(hb.cell hlt).trans h.1, (hb.frozen hlt).trans h.2⟩
theorem Box1.new (W : World) (t : TypeId) (v : Value) : Box1 (W.alloc (.cells #[v] t)) W.heap.size v := ⟨(blk_cell (blk_new W _) 0).trans rfl, blk_frozen (blk_new W _) 0⟩
theorem Box1.set {W : World} {g : Nat} {v : Value} (h : Box1 W g v) (u : Value) : Box1 (W.setCell ⟨g, 0, none⟩ u) g u :=
  ⟨World.cell?_setCell_same' _ _ _ (by rw [h.1]; rfl), by rw [World.frozen?_setCell]; exact h.2⟩
end Go.Proofs.Ytjebkpcekkkbkaa.B
namespace Go.Proofs.Ytjebkpcekkkbkaa.B
open Go.RowKit Go.Shelf Go.Proofs Go.Proofs.YtjebkpcekkkbkaaW.PrintWords Go.Proofs.YtjebkpcekkkbkaaW.PrintLast Go.Proofs.YtjebkpcekkkbkaaW.PrintMore Go.Proofs.Ytjebkpcekkkbkaa.FBase
attribute [local go_sem] Oper.semAt_some
def SpBox (W : World) (b : Nat) (x : Ln) : Prop := W.cell? ⟨b, 0, none⟩ = some (.int .i64 x.f0) ∧ W.cell? ⟨b, 1, none⟩ = some (.int .i64 x.f1)
theorem SpBox.below {W W1 : World} {b : Nat} {x : Ln} (h : SpBox W b x) (hb : Below W.heap.size W W1) : SpBox W1 b x := by
  exact ⟨(hb.cell (World.block_lt_of_cell? W _ h.1)).trans h.1, (hb.cell (World.block_lt_of_cell? W _ h.2)).trans h.2⟩
end Go.Proofs.Ytjebkpcekkkbkaa.B
namespace Go.Proofs.Ytjebkpcekkkbkaa.B
open Go.RowKit Go.Shelf Go.Proofs Go.Proofs.YtjebkpcekkkbkaaW.PrintWords Go.Proofs.YtjebkpcekkkbkaaW.PrintLast Go.Proofs.YtjebkpcekkkbkaaW.PrintMore Go.Proofs.Ytjebkpcekkkbkaa.FBase
theorem bcell {W w1 : World} (hb : Below W.heap.size W w1) : (∀ b o, b < W.heap.size → w1.cell? ⟨b, o, none⟩ = W.cell? ⟨b, o, none⟩) ∧ (∀ b o, b < W.heap.size → w1.frozen? ⟨b, o, none⟩ = W.frozen? ⟨b, o, none⟩) :=
  ⟨fun b o h => hb.cell (p := ⟨b, o, none⟩) h, fun b o h => hb.frozen (p := ⟨b, o, none⟩) h⟩
theorem froz_alloc1 {W : World} {p : Addr} {v : Value} (hc : W.cell? p = some v) (h : W.frozen? p = false) (o : Obj) : (W.alloc o).frozen? p = false := ((below_alloc (Below.refl _ W) o).frozen (World.block_lt_of_cell? W _ hc)).trans h
theorem sp_two {W : World} {b : Nat} {u v p q : Value} (h0 : W.cell? ⟨b, 0, none⟩ = some u) (h1 : W.cell? ⟨b, 1, none⟩ = some v) :
    ((W.setCell ⟨b, 0, none⟩ p).setCell ⟨b, 1, none⟩ q).cell? ⟨b, 0, none⟩ = some p ∧ ((W.setCell ⟨b, 0, none⟩ p).setCell ⟨b, 1, none⟩ q).cell? ⟨b, 1, none⟩ = some q :=
  ⟨(World.cell?_setCell_other _ _ _ _ (by simp)).trans (World.cell?_setCell_same' _ _ _ (by rw [h0]; rfl)), World.cell?_setCell_same' _ _ _ (by rw [World.cell?_setCell_other _ _ _ _ (by simp), h1]; rfl)⟩
theorem keeps_sp (b : Nat) (x : Ln) : Keeps (fun W => SpBox W b x) := fun _ _ h hb => h.below hb
set_option maxRecDepth 100000 in
set_option maxHeartbeats 1000000 in
theorem MOffset_in (m : Nat) (l : List Int) (line char : Int) (w : World) (hM : IsMap w m l) (hs : l.length ≤ 1048576) (hB : Bytes l) (hv : V l) (h0 : 0 ≤ line) (h1 : 0 ≤ char) (h1b : char ≤ 9223372036854775807) (hlt : line < (lns l 0 0).length) :
    Calls Try.prog 62 #[.pointer (some ⟨m, 0, none⟩), .agg #[.int .i64 line, .int .i64 char]] w fun e w' => e = .returned (.tuple #[.int .i64 ((rdLn (lns l 0 0) line).f0 + off (chars (seg l (rdLn (lns l 0 0) line))) char), .int .i64 0]) ∧ Below w.heap.size w w' := by
  obtain ⟨a, A, c, hc, hA⟩ := hM.open
  have HC := Aside0.mk hc
  have hb1 := below_alloc (Below.refl _ w) (.cells #[.int .i64 line, .int .i64 char] 25)
  have HS : Aside0 (Sta w (w.alloc (.cells #[.int .i64 line, .int .i64 char] 25)) (fun W => IsBlk W w.heap.size (.cells #[.int .i64 line, .int .i64 char] 25) ∧ MapAt W m a A c l)) := ⟨⟨hb1, ⟨blk_new w _, keeps_mapAt m a A c l _ _ hA hb1⟩, keeps_and (keeps_blk _ _) (keeps_mapAt _ _ _ _ _)⟩⟩
  have cb : (w.alloc (.cells #[.int .i64 line, .int .i64 char] 25)).cell? ⟨w.heap.size, 0, none⟩ = some (.int .i64 line) := HS.out.now.1.cell 0
  have cc : (w.alloc (.cells #[.int .i64 line, .int .i64 char] 25)).cell? ⟨w.heap.size, 1, none⟩ = some (.int .i64 char) := HS.out.now.1.cell 1
  have cm : (w.alloc (.cells #[.int .i64 line, .int .i64 char] 25)).cell? ⟨m, 0, none⟩ = some (.pointer (some ⟨a, 0, none⟩)) := HS.out.now.2.2.2.cell 0
  clear hM hA hb1 hc
  have hch := lns_chain0 l
  have hln : (lns l 0 0).length ≤ 2097152 := by have := hch.length_le; omega
  have hpos := hch.pos
  have hat := hch.at line.toNat (by omega)
  rw [show ((line.toNat : Nat) : Int) = line by omega] at hat
  have hsv := line_V hB hv line.toNat (by omega)
  rw [show ((line.toNat : Nat) : Int) = line by omega] at hsv
  have hcs : Cs (seg l (rdLn (lns l 0 0) line)) (chars (seg l (rdLn (lns l 0 0) line))) := V.chars hsv
  have hsl : (seg l (rdLn (lns l 0 0) line)).length ≤ 1048576 := by unfold seg; rw [List.length_drop, List.length_take]; omega
  have hbs : Bytes (seg l (rdLn (lns l 0 0) line)) := fun y hy => hB y (List.mem_of_mem_take (List.mem_of_mem_drop hy))
  have hsgl : ((seg l (rdLn (lns l 0 0) line)).length : Int) = (rdLn (lns l 0 0) line).f1 - (rdLn (lns l 0 0) line).f0 := by unfold seg; rw [List.length_drop, List.length_take]; omega
  obtain ⟨g, hsz⟩ := hcs.good hbs
  have hor := off_range char g
  have x0 : 0 ≤ (rdLn (lns l 0 0) line).f0 := hat.1
  have x1 : (rdLn (lns l 0 0) line).f0 ≤ (rdLn (lns l 0 0) line).f1 := hat.2.1
  have x2 : (rdLn (lns l 0 0) line).f1 ≤ l.length := by have := hat.2.2.1; have := hat.2.2.2.1; omega
  rw [hsz, hsgl] at hor
  have hseg : seg l (rdLn (lns l 0 0) line) = (l.take (rdLn (lns l 0 0) line).f1.toNat).drop (rdLn (lns l 0 0) line).f0.toNat := rfl
  have HSEG := Aside0.mk hseg
  clear hat hsv hch hseg hsgl hsz g
  generalize chars (seg l (rdLn (lns l 0 0) line)) = r at *
  generalize seg l (rdLn (lns l 0 0) line) = sg at *
  obtain ⟨L, hL⟩ : ∃ L, L = lns l 0 0 := ⟨_, rfl⟩
  have HLE := Aside0.mk hL
  rw [← hL] at hln hpos hlt hor x0 x1 x2 HSEG ⊢
  clear hL
  have HCS := Aside0.mk hcs
  have HBS := Aside0.mk hbs
  clear hcs hbs
  have d0 : decide (line < 0) = false := decide_eq_false (by omega)
  have d1 : decide (char < 0) = false := decide_eq_false (by omega)
  have d2 : decide ((L.length : Int) ≤ line) = false := decide_eq_false (by omega)
  obtain ⟨x, hx⟩ : ∃ x, x = rdLn L line := ⟨_, rfl⟩
  have HX := Aside0.mk hx
  rw [← hx] at hor x0 x1 x2 HSEG ⊢
  clear hx
  go_enter Try.func62, Try.ntmps62
  go_upto_region 5 with (go_at_call 87; refine (none_map _ m l (MapAt.map (HS.out.step (by repeat (first | exact Below.refl _ _ | apply below_alloc | apply pw_below_drewN | apply below_drew1))).now.2 HC.out)).mono ?_; rintro e w' ⟨rfl, rfl⟩)
  go_region_held3 (fun wx => wx.cell? ⟨w.heap.size, 0, none⟩ = some (.int .i64 line) ∧ wx.cell? ⟨m, 0, none⟩ = some (.pointer (some ⟨a, 0, none⟩))) (go_keep) (first | (go_at_call 88; refine (Count_ok a L _ (HLE.out ▸ (HS.out.step (by repeat (first | exact Below.refl _ _ | apply below_alloc | apply pw_below_drewN | apply below_drew1))).now.2.1) hpos hln).mono ?_; rintro e w5 ⟨rfl, hb⟩; have m_ := Aside0.mk (HS.out.call (by repeat (first | exact Below.refl _ _ | apply below_alloc | apply pw_below_drewN | apply below_drew1)) hb); clear HS hb ; have HS := m_; clear m_; have cb : w5.cell? ⟨w.heap.size, 0, none⟩ = some (.int .i64 line) := HS.out.now.1.cell 0; have cm : w5.cell? ⟨m, 0, none⟩ = some (.pointer (some ⟨a, 0, none⟩)) := HS.out.now.2.2.2.cell 0))
  go_upto_region 7 with fail
  go_cut [6, 7, 8] from 10 (fun s6 s7 s8 W => ∃ b7, s7 = .pointer (some ⟨b7, 0, none⟩) ∧ s8 = .int .i64 0 ∧ Aside0 (Sta w W (fun W => SpBox W b7 x ∧ IsBlk W w.heap.size (.cells #[.int .i64 line, .int .i64 char] 25) ∧ MapAt W m a A c l)))
  case first =>
    have n1 := blk_lt HS.out.now.1
    have n2 := blk_lt HS.out.now.2.2.2
    have HS5 := HS
    have e1 : ¬ (w5.heap.size = w.heap.size) := by omega
    have e2 : ¬ (w.heap.size = w5.heap.size) := by omega
    have e3 : ¬ (w5.heap.size = m) := by omega
    have e4 : ¬ (m = w5.heap.size) := by omega
    have e5 : ¬ (w5.heap.size + 1 = w.heap.size) := by omega
    have e6 : ¬ (w.heap.size = w5.heap.size + 1) := by omega
    have e7 : ¬ (w5.heap.size + 1 = m) := by omega
    have e8 : ¬ (m = w5.heap.size + 1) := by omega
    go_region_held3 (fun wx => wx.cell? ⟨w.heap.size, 0, none⟩ = some (.int .i64 line) ∧ wx.cell? ⟨m, 0, none⟩ = some (.pointer (some ⟨a, 0, none⟩))) (go_keep) (first | (go_at_call 89; refine (Line_ok a L line _ (HLE.out ▸ (HS.out.step (by repeat (first | exact Below.refl _ _ | apply below_alloc | apply pw_below_drewN | apply below_drew1))).now.2.1) h0 hlt hln).mono ?_; rintro e w6 ⟨rfl, hb⟩; rw [← HX.out]; obtain ⟨hbc, hbf⟩ := bcell hb; have z0 := hbc w5.heap.size 0; have z1 := hbc w5.heap.size 1; have y0 := hbf w5.heap.size 0; have y1 := hbf w5.heap.size 1; have z2 := hbc (w5.heap.size + 1) 0; have z3 := hbc (w5.heap.size + 1) 1; have y2 := hbf (w5.heap.size + 1) 0; have y3 := hbf (w5.heap.size + 1) 1; simp at z0 z1 y0 y1 z2 z3 y2 y3; (try (have za0 := cell_alloc1 z0; have za1 := cell_alloc1 z1; have ya0 := froz_alloc1 z0 y0; have ya1 := froz_alloc1 z1 y1; have q0 := Nat.ne_of_lt (World.block_lt_of_cell? _ _ z0); have q1 := Ne.symm q0)); clear hbc hbf; have HBC := Aside0.mk hb; have HBZ := Aside0.mk hb.size; have m_ := Aside0.mk (HS.out.call (by repeat (first | exact Below.refl _ _ | apply below_alloc | apply pw_below_drewN | apply below_drew1)) hb); clear HS hb ; have HS := m_; clear m_; have cb : w6.cell? ⟨w.heap.size, 0, none⟩ = some (.int .i64 line) := HS.out.now.1.cell 0; have cm : w6.cell? ⟨m, 0, none⟩ = some (.pointer (some ⟨a, 0, none⟩)) := HS.out.now.2.2.2.cell 0; have cb1 := cell_alloc1 cb; have cb2 := cell_alloc2 cb; have cm1 := cell_alloc1 cm; have cm2 := cell_alloc2 cm; have qb := World.block_lt_of_cell? _ _ cb; have qm := World.block_lt_of_cell? _ _ cm; have qb1 := Nat.ne_of_lt qb; have qb2 := Ne.symm qb1; have qb3 := Nat.ne_of_lt (Nat.lt_succ_of_lt qb); have qb4 := Ne.symm qb3; have qm1 := Nat.ne_of_lt qm; have qm2 := Ne.symm qm1; have qm3 := Nat.ne_of_lt (Nat.lt_succ_of_lt qm); have qm4 := Ne.symm qm3))
    all_goals
      have hbz := HBZ.out
      simp at hbz
      clear HBZ HS
      go_wp2
      go_meet
      refine ⟨_, rfl, rfl, ⟨(HS5.out.step ?_).add ⟨?_, ?_⟩ (keeps_sp _ _)⟩⟩
      · repeat' (first | exact below_step (by repeat (first | exact Below.refl _ _ | apply below_alloc | apply pw_below_drewN | apply below_drew1)) HBC.out | apply below_alloc | apply below_drew1 | apply Below.setCell | (simp; done) | (simp; omega))
      · first | (go_simp; done) | (simp [*]; done) | exact (sp_two ((World.cell?_setCell_other _ _ _ _ (by simp)).trans ((World.cell?_setCell_other _ _ _ _ (by simp)).trans (z0 (Nat.lt_succ_of_lt (Nat.lt_succ_self _))))) ((World.cell?_setCell_other _ _ _ _ (by simp)).trans ((World.cell?_setCell_other _ _ _ _ (by simp)).trans (z1 (Nat.lt_succ_of_lt (Nat.lt_succ_self _)))))).1
      · first | (go_simp; done) | (simp [*]; done) | exact (sp_two ((World.cell?_setCell_other _ _ _ _ (by simp)).trans ((World.cell?_setCell_other _ _ _ _ (by simp)).trans (z0 (Nat.lt_succ_of_lt (Nat.lt_succ_self _))))) ((World.cell?_setCell_other _ _ _ _ (by simp)).trans ((World.cell?_setCell_other _ _ _ _ (by simp)).trans (z1 (Nat.lt_succ_of_lt (Nat.lt_succ_self _)))))).2
  case rest =>
    clear cb cc cm HS
    obtain ⟨b7, rfl, rfl, HS⟩ := hcut
    have cb : wc.cell? ⟨w.heap.size, 1, none⟩ = some (.int .i64 char) := HS.out.now.2.1.cell 1
    have cm : wc.cell? ⟨m, 1, none⟩ = some (.slice A l.length c) := HS.out.now.2.2.2.2.cell 1
    have s0 : wc.cell? ⟨b7, 0, none⟩ = some (.int .i64 x.f0) := HS.out.now.1.1
    have s1 : wc.cell? ⟨b7, 1, none⟩ = some (.int .i64 x.f1) := HS.out.now.1.2
    obtain ⟨B, d, hcut, hsg, hsd⟩ := cut_seg _ A c l x.f0 x.f1 HS.out.now.2.2.2.1 HC.out x0 x1 x2
    rw [← HSEG.out] at hcut hsg hsd
    have HSG := Aside0.mk hsg
    have HSD := Aside0.mk hsd
    clear hsg hsd
    have wr : wrap64 (x.f0 + off r char) = x.f0 + off r char := by unfold wrap64; omega
    go_upto_region 10 with fail
    go_cut [8, 9] from 10 (fun s8 s9 W => s8 = .int .i64 0 ∧ s9 = .int .i64 (off r char) ∧ Aside0 (Sta w W (fun W => SpBox W b7 x ∧ IsBlk W w.heap.size (.cells #[.int .i64 line, .int .i64 char] 25) ∧ MapAt W m a A c l)))
    case first =>
      go_region_held3 (fun wx => wx.cell? ⟨w.heap.size, 1, none⟩ = some (.int .i64 char) ∧ wx.cell? ⟨m, 1, none⟩ = some (.slice A l.length c) ∧ wx.cell? ⟨b7, 0, none⟩ = some (.int .i64 x.f0) ∧ wx.cell? ⟨b7, 1, none⟩ = some (.int .i64 x.f1)) (go_keep) (first | (go_at_call 90; refine (UOffset_ok B d sg r char _ (Kd.C_below HSG.out (by repeat (first | exact Below.refl _ _ | apply below_alloc | apply pw_below_drewN | apply below_drew1))) HSD.out HBS.out hsl HCS.out h1 h1b).mono ?_; rintro e w8 ⟨rfl, hb⟩; have m_ := Aside0.mk (HS.out.call (by repeat (first | exact Below.refl _ _ | apply below_alloc | apply pw_below_drewN | apply below_drew1)) hb); clear HS hb ; have HS := m_; clear m_; have cb : w8.cell? ⟨w.heap.size, 1, none⟩ = some (.int .i64 char) := HS.out.now.2.1.cell 1; have cm : w8.cell? ⟨m, 1, none⟩ = some (.slice A l.length c) := HS.out.now.2.2.2.2.cell 1; have s0 : w8.cell? ⟨b7, 0, none⟩ = some (.int .i64 x.f0) := HS.out.now.1.1; have s1 : w8.cell? ⟨b7, 1, none⟩ = some (.int .i64 x.f1) := HS.out.now.1.2))
      go_wp2
      go_meet
      exact ⟨rfl, rfl, HS⟩
    case rest =>
      clear cb cm s0 s1 HS
      obtain ⟨rfl, rfl, HS⟩ := hcut
      have s0 : wc.cell? ⟨b7, 0, none⟩ = some (.int .i64 x.f0) := HS.out.now.1.1
      go_wp2
      go_ret2
      exact ⟨rfl, HS.out.bel⟩
noncomputable def poff (l : List Int) (line char : Int) : Int := if ((lns l 0 0).length : Int) ≤ line then l.length else (rdLn (lns l 0 0) line).f0 + off (chars (seg l (rdLn (lns l 0 0) line))) char
noncomputable def fnd (l : List Int) (at_ : Int) : Nat := ((lns_chain0 l).find at_).choose
theorem fnd_is (l : List Int) (at_ : Int) : FindAt (lns l 0 0) at_ (fnd l at_) := ((lns_chain0 l).find at_).choose_spec
theorem fnd_eq {l : List Int} {at_ : Int} {r : Nat} (h : FindAt (lns l 0 0) at_ r) : fnd l at_ = r := (fnd_is l at_).uniq h
noncomputable def pch (l : List Int) (at_ : Int) : Int := ufl (chars (seg l (rdLn (lns l 0 0) (fnd l at_ : Nat)))) (at_ - (rdLn (lns l 0 0) (fnd l at_ : Nat)).f0)
theorem MOffset_is (m : Nat) (l : List Int) (line char : Int) (w : World) (hM : IsMap w m l) (hs : l.length ≤ 1048576) (hB : Bytes l) (hv : V l) (h0 : 0 ≤ line) (h1 : 0 ≤ char) (h1b : char ≤ 9223372036854775807) :
    Calls Try.prog 62 #[.pointer (some ⟨m, 0, none⟩), .agg #[.int .i64 line, .int .i64 char]] w fun e w' => e = .returned (.tuple #[.int .i64 (poff l line char), .int .i64 0]) ∧ Below w.heap.size w w' := by
  unfold poff
  by_cases h : ((lns l 0 0).length : Int) ≤ line
  · rw [if_pos h]
    exact MOffset_far m l line char w hM hs h0 h1 h
  · rw [if_neg h]
    exact MOffset_in m l line char w hM hs hB hv h0 h1 h1b (by omega)
end Go.Proofs.Ytjebkpcekkkbkaa.B
namespace Go.Proofs.Ytjebkpcekkkbkaa.B
open Go.RowKit Go.Proofs.YtjebkpcekkkbkaaW.PrintWords Go.Proofs.YtjebkpcekkkbkaaW.PrintLast Go.Proofs.YtjebkpcekkkbkaaW.PrintMore Go.Proofs.Ytjebkpcekkkbkaa.FBase
theorem line_is (l : List Int) (hB : Bytes l) (hv : V l) (j : Nat) (hj : j < (lns l 0 0).length) :
    0 ≤ (rdLn (lns l 0 0) j).f0 ∧ (rdLn (lns l 0 0) j).f0 ≤ (rdLn (lns l 0 0) j).f1 ∧ (rdLn (lns l 0 0) j).f1 ≤ l.length ∧ Cs (seg l (rdLn (lns l 0 0) j)) (chars (seg l (rdLn (lns l 0 0) j))) ∧
      Good (chars (seg l (rdLn (lns l 0 0) j))) ∧ sz (chars (seg l (rdLn (lns l 0 0) j))) = (rdLn (lns l 0 0) j).f1 - (rdLn (lns l 0 0) j).f0 := by
  have h := (lns_chain0 l).at j hj
  have hcs : Cs (seg l (rdLn (lns l 0 0) j)) (chars (seg l (rdLn (lns l 0 0) j))) := V.chars (line_V hB hv j hj)
  obtain ⟨g, hsz⟩ := hcs.good (fun y hy => hB y (List.mem_of_mem_take (List.mem_of_mem_drop hy)))
  have h1 := h.2.2.1
  have h2 := h.2.2.2.1
  refine ⟨h.1, h.2.1, by omega, hcs, g, ?_⟩
  rw [hsz]
  have := h.1
  have := h.2.1
  unfold seg
  rw [List.length_drop, List.length_take]
  omega
theorem fnd_in (l : List Int) (j : Nat) (hj : j < (lns l 0 0).length) (n : Int) (h0 : (rdLn (lns l 0 0) j).f0 ≤ n) (h1 : n ≤ (rdLn (lns l 0 0) j).f1) : fnd l n = j := by
  have hc := lns_chain0 l
  refine fnd_eq ⟨hj, fun t ht => ?_, fun h => ?_⟩
  · have h2 := (hc.at t (by omega)).2.2.2.2.2.1 (by omega)
    have h3 := (hc.step (t + 1) (j - (t + 1)) (by omega)).2
    rw [show t + 1 + (j - (t + 1)) = j by omega] at h3
    have h4 := (hc.at (t + 1) (by omega))
    rcases Nat.lt_or_eq_of_le (show t + 1 ≤ j by omega) with h5 | h5
    · have h6 := (hc.at (j - 1) (by omega)).2.2.2.2.2.1 (by omega)
      rw [show j - 1 + 1 = j by omega] at h6
      have h7 := (hc.step t (j - 1 - t) (by omega)).2
      rw [show t + (j - 1 - t) = j - 1 by omega] at h7
      have := h6.2.2
      omega
    · rw [h5] at h2
      have := h2.2.2
      omega
  · have h2 := (hc.at j hj).2.2.2.2.2.1 h
    have := h2.1
    omega
theorem poff_line (l : List Int) (j : Nat) (hj : j < (lns l 0 0).length) (ch : Int) : poff l j ch = (rdLn (lns l 0 0) j).f0 + off (chars (seg l (rdLn (lns l 0 0) j))) ch := by
  unfold poff
  rw [if_neg (by omega)]
theorem poff_far (l : List Int) (line ch : Int) (h : (lns l 0 0).length ≤ line) : poff l line ch = l.length := by
  unfold poff
  rw [if_pos h]
theorem pch_in (l : List Int) (j : Nat) (hj : j < (lns l 0 0).length) (n : Int) (h0 : (rdLn (lns l 0 0) j).f0 ≤ n) (h1 : n ≤ (rdLn (lns l 0 0) j).f1) : pch l n = ufl (chars (seg l (rdLn (lns l 0 0) j))) (n - (rdLn (lns l 0 0) j).f0) := by
  unfold pch
  rw [fnd_in l j hj n h0 h1]
theorem poff_range (l : List Int) (hB : Bytes l) (hv : V l) (line ch : Int) (h0 : 0 ≤ line) : 0 ≤ poff l line ch ∧ poff l line ch ≤ l.length := by
  by_cases h : ((lns l 0 0).length : Int) ≤ line
  · rw [poff_far l line ch h]; omega
  · obtain ⟨j, rfl⟩ := Int.eq_ofNat_of_zero_le h0
    have hj : j < (lns l 0 0).length := by omega
    obtain ⟨a, b, c, _, g, hsz⟩ := line_is l hB hv j hj
    rw [poff_line l j hj]
    have := off_range ch g
    omega
theorem last_is (l : List Int) : (rdLn (lns l 0 0) ((lns l 0 0).length - 1 : Nat)).f1 = l.length ∧ (lns l 0 0).length - 1 < (lns l 0 0).length := by
  have hc := lns_chain0 l
  have hp := hc.pos
  exact ⟨((hc.at ((lns l 0 0).length - 1) (by omega)).2.2.2.2.2.2.1 (by omega)).1, by omega⟩
theorem back_in (l : List Int) (hB : Bytes l) (hv : V l) (j : Nat) (hj : j < (lns l 0 0).length) (n : Int) (h0 : (rdLn (lns l 0 0) j).f0 ≤ n) (h1 : n ≤ (rdLn (lns l 0 0) j).f1)
    (hf : flo (chars (seg l (rdLn (lns l 0 0) j))) (n - (rdLn (lns l 0 0) j).f0) = n - (rdLn (lns l 0 0) j).f0) : poff l (fnd l n) (pch l n) = n := by
  obtain ⟨a, b, c, _, g, hsz⟩ := line_is l hB hv j hj
  rw [fnd_in l j hj n h0 h1, pch_in l j hj n h0 h1, poff_line l j hj, off_ufl _ g (by omega), hf]
  omega
theorem again_end (l : List Int) (hB : Bytes l) (hv : V l) : poff l (fnd l l.length) (pch l l.length) = l.length ∧ fnd l l.length = (lns l 0 0).length - 1 := by
  obtain ⟨h1, h2⟩ := last_is l
  obtain ⟨a, b, c, _, g, hsz⟩ := line_is l hB hv _ h2
  have i0 : (rdLn (lns l 0 0) ((lns l 0 0).length - 1 : Nat)).f0 ≤ (l.length : Int) := by omega
  refine ⟨back_in l hB hv _ h2 _ i0 (by omega) ?_, fnd_in l _ h2 _ i0 (by omega)⟩
  rw [h1] at hsz
  rw [← hsz]
  exact (ufl_sz _ g (Int.le_refl _)).2
theorem V.after {a b : List Int} (h : V a) (ha : Bytes a) (hab : V (a ++ b)) : V b := by
  induction h with
  | nil => simpa using hab
  | step y he h ih =>
    have hd := dec_ok ha he
    refine ih (ha.drop _) ?_
    generalize hyb : y ++ b = z at hab
    cases hab with
    | nil => exact absurd hyb (by cases y with | nil => simp [dec] at he | cons _ _ => simp)
    | step _ he2 h2 =>
      rw [← hyb, dec_append he, List.drop_append_of_le_length (by omega)] at h2
      exact h2
theorem V.cut {l : List Int} (h : V l) (hb : Bytes l) : ∀ p : Nat, p ≤ l.length → (p = 0 ∨ ∃ b, l[p - 1]? = some b ∧ b < 128) → V (l.take p) := by
  induction h with
  | nil => intro p hp _; simpa using V.nil
  | step y he h ih =>
    intro p hp hc
    obtain ⟨hd, z, e, hl, h0, hk, hs⟩ := dec_head hb he
    have e1 : dec y = dec hd := by rw [e]; exact dec_append h0
    have hz : y.drop (dec y).2.1.toNat = z := by rw [← hl, Int.toNat_natCast, e, List.drop_left' rfl]
    rw [hz] at ih
    have hdb : Bytes hd := fun x hx => hb x (by rw [e]; exact List.mem_append_left _ hx)
    have hzb : Bytes z := fun x hx => hb x (by rw [e]; exact List.mem_append_right _ hx)
    have hdV : V hd := V.take hb (z := []) h0 (by rw [hl, e1])
    by_cases hlt : p < hd.length
    · by_cases hp0 : p = 0
      · subst hp0; simpa using V.nil
      · rcases hc with hc | ⟨b, hb1, hb2⟩
        · exact absurd hc hp0
        · rw [e, List.getElem?_append_left (by omega)] at hb1
          have hm := List.mem_of_getElem? hb1
          rcases hs with ⟨c, rfl, _⟩ | ⟨_, hall⟩
          · simp at hlt; omega
          · have := hall b hm; omega
    · have hlen : y.length = hd.length + z.length := by rw [e, List.length_append]
      rw [e, List.take_append, List.take_of_length_le (by omega)]
      refine hdV.append hdb (ih hzb _ (by omega) ?_)
      by_cases hp0 : p - hd.length = 0
      · exact .inl hp0
      · rcases hc with rfl | ⟨b, hb1, hb2⟩
        · omega
        · refine .inr ⟨b, ?_, hb2⟩
          rw [e, List.getElem?_append_right (by omega)] at hb1
          rw [← hb1]
          congr 1
          omega
theorem lns_ahead (l : List Int) (n : Nat) : ∀ (fr : Int) (i : Nat), i ≤ l.length → l.length - i ≤ n → ∀ x ∈ lns (l.drop i) fr i, x.f0 = fr ∨ (1 ≤ x.f0 ∧ x.f0 ≤ l.length ∧ (rd l (x.f0 - 1) = 10 ∨ rd l (x.f0 - 1) = 13)) := by
  induction n with
  | zero =>
    intro fr i hi hn x hx
    rw [show l.drop i = [] by rw [List.drop_eq_nil_iff]; omega] at hx
    simp only [lns, List.mem_singleton] at hx
    subst hx
    exact .inl rfl
  | succ n ih =>
    intro fr i hi hn x hx
    by_cases hlt : i < l.length
    · have h5 := lns_drop l fr (i : Int) (by omega) (by omega)
      rw [Int.toNat_natCast, show ((i : Int) + 1).toNat = i + 1 by omega, show ((i : Int) + 2).toNat = i + 2 by omega, show ((i : Int) + 1) = ((i + 1 : Nat) : Int) by omega, show ((i : Int) + 2) = ((i + 2 : Nat) : Int) by omega] at h5
      rw [h5] at hx
      by_cases b10 : rd l i = 10
      · rw [if_pos b10] at hx
        rcases List.mem_cons.1 hx with rfl | hx
        · exact .inl rfl
        · rcases ih _ (i + 1) (by omega) (by omega) x hx with h | h
          · refine .inr ⟨by omega, by omega, .inl ?_⟩
            rw [h, show (((i + 1 : Nat) : Int) - 1) = i by omega]
            exact b10
          · exact .inr h
      · rw [if_neg b10] at hx
        by_cases b13 : rd l i = 13
        · rw [if_pos b13] at hx
          by_cases h6 : (((i + 1 : Nat) : Int) < l.length ∧ rd l ((i + 1 : Nat) : Int) = 10)
          · rw [if_pos h6] at hx
            rcases List.mem_cons.1 hx with rfl | hx
            · exact .inl rfl
            · rcases ih _ (i + 2) (by omega) (by omega) x hx with h | h
              · refine .inr ⟨by omega, by omega, .inl ?_⟩
                rw [h, show (((i + 2 : Nat) : Int) - 1) = ((i + 1 : Nat) : Int) by omega]
                exact h6.2
              · exact .inr h
          · rw [if_neg h6] at hx
            rcases List.mem_cons.1 hx with rfl | hx
            · exact .inl rfl
            · rcases ih _ (i + 1) (by omega) (by omega) x hx with h | h
              · refine .inr ⟨by omega, by omega, .inr ?_⟩
                rw [h, show (((i + 1 : Nat) : Int) - 1) = i by omega]
                exact b13
              · exact .inr h
        · rw [if_neg b13] at hx
          rcases ih _ (i + 1) (by omega) (by omega) x hx with h | h
          · exact .inl h
          · exact .inr h
    · rw [show l.drop i = [] by rw [List.drop_eq_nil_iff]; omega] at hx
      simp only [lns, List.mem_singleton] at hx
      subst hx
      exact .inl rfl
theorem ahead_V {l : List Int} (hb : Bytes l) (hv : V l) (t : Nat) (ht : t < (lns l 0 0).length) : V (l.take (rdLn (lns l 0 0) t).f0.toNat) := by
  have hm : rdLn (lns l 0 0) t ∈ lns (l.drop 0) 0 ((0 : Nat) : Int) := by
    have : rdLn (lns l 0 0) t = (lns l 0 0)[t] := by simp [rdLn, List.getD, ht]
    rw [this]
    exact List.getElem_mem _
  rcases lns_ahead l l.length 0 0 (Nat.zero_le _) (by omega) _ hm with h | ⟨h1, h2, h3⟩
  · rw [h]; simpa using V.nil
  · refine hv.cut hb _ (by omega) (.inr ⟨rd l ((rdLn (lns l 0 0) t).f0 - 1), ?_, by omega⟩)
    have hlt : (rdLn (lns l 0 0) t).f0.toNat - 1 < l.length := by omega
    rw [show (rd l ((rdLn (lns l 0 0) t).f0 - 1)) = l.getD ((rdLn (lns l 0 0) t).f0.toNat - 1) 0 by simp only [rd]; congr 1; omega]
    simp [List.getD, hlt]
theorem poff_V {l : List Int} (hB : Bytes l) (hv : V l) (line ch : Int) (h0 : 0 ≤ line) : V (l.take (poff l line ch).toNat) := by
  by_cases h : ((lns l 0 0).length : Int) ≤ line
  · rw [poff_far l line ch h]; simpa using hv
  · obtain ⟨j, rfl⟩ := Int.eq_ofNat_of_zero_le h0
    have hj : j < (lns l 0 0).length := by omega
    obtain ⟨a, b, c, hcs, g, hsz⟩ := line_is l hB hv j hj
    rw [poff_line l j hj]
    have ho := off_range ch g
    have hV0 := ahead_V hB hv j hj
    generalize rdLn (lns l 0 0) j = x at *
    have e1 : (x.f0 + off (chars (seg l x)) ch).toNat = x.f0.toNat + (off (chars (seg l x)) ch).toNat := by omega
    rw [e1, List.take_add]
    refine hV0.append (hB.take _) ?_
    have e2 : (l.drop x.f0.toNat).take (off (chars (seg l x)) ch).toNat = (seg l x).take (off (chars (seg l x)) ch).toNat := by
      generalize off (chars (seg l x)) ch = o at *
      unfold seg
      rw [List.drop_take, List.take_take]
      congr 1
      omega
    rw [e2]
    have hbs : Bytes (seg l x) := fun y hy => hB y (List.mem_of_mem_take (List.mem_of_mem_drop hy))
    by_cases hc : 0 ≤ ch
    · obtain ⟨q, hq, _⟩ := cs_take hcs hbs (off (chars (seg l x)) ch)
      rw [flo_off ch g hc] at hq
      exact hq.v
    · have : off (chars (seg l x)) ch = 0 := by
        cases hr : chars (seg l x) with
        | nil => rfl
        | cons y r =>
          rw [hr] at g
          have := g.head
          simp only [off]
          rw [if_pos (by omega)]
      rw [this]
      simpa using V.nil
def IsP (l : List Int) (n : Int) : Prop := poff l (fnd l n) (pch l n) = n
theorem IsP.cut {l : List Int} (hB : Bytes l) (hv : V l) {n : Nat} (h : IsP l n) : V (l.take n) := by
  have h1 := poff_V hB hv (fnd l n) (pch l n) (by omega)
  unfold IsP at h
  rw [h, Int.toNat_natCast] at h1
  exact h1
theorem isP_end {l : List Int} (hB : Bytes l) (hv : V l) : IsP l l.length := (again_end l hB hv).1
theorem isP_0 {l : List Int} (hB : Bytes l) (hv : V l) : IsP l 0 := by
  have hc := lns_chain0 l
  have hp := hc.pos
  obtain ⟨a, b, c, hcs, g, hsz⟩ := line_is l hB hv 0 hp
  have h1 := (hc.at 0 hp).2.2.2.2.1 rfl
  refine back_in l hB hv 0 hp 0 (by omega) (by omega) ?_
  rw [show ((0 : Nat) : Int) = 0 from rfl] at *
  rw [h1]
  generalize chars (seg l (rdLn (lns l 0 0) 0)) = r at *
  cases r with
  | nil => rfl
  | cons x r =>
    have := g.head
    simp only [flo]
    rw [if_pos (by omega)]
    omega
noncomputable def esp (l : List Int) (wh : Bool) (x0 x1 x2 x3 : Int) : Int × Int × Int :=
  if wh then (0, l.length, 0) else if x0 < 0 ∨ x1 < 0 then (0, 0, 9) else if x2 < 0 ∨ x3 < 0 then (0, 0, 9)
  else if poff l x2 x3 < poff l x0 x1 then (0, 0, 150) else (poff l x0 x1, poff l x2 x3, 0)
noncomputable def ech (l t : List Int) (wh : Bool) (x0 x1 x2 x3 : Int) : Int × Int × List Int × Int :=
  if (chk l).2 ≠ 0 then (0, 0, [], (chk l).2) else if (chk t).2 ≠ 0 then (0, 0, [], (chk t).2)
  else if (esp l wh x0 x1 x2 x3).2.2 ≠ 0 then (0, 0, [], (esp l wh x0 x1 x2 x3).2.2)
  else if 8192 < l.length - ((esp l wh x0 x1 x2 x3).2.1 - (esp l wh x0 x1 x2 x3).1) + t.length then (0, 0, [], 5)
  else ((esp l wh x0 x1 x2 x3).1, (esp l wh x0 x1 x2 x3).2.1, l.take (esp l wh x0 x1 x2 x3).1.toNat ++ t ++ l.drop (esp l wh x0 x1 x2 x3).2.1.toNat, 0)
theorem esp_range {l : List Int} (hB : Bytes l) (hv : V l) (wh : Bool) (x0 x1 x2 x3 : Int) : 0 ≤ (esp l wh x0 x1 x2 x3).1 ∧ (esp l wh x0 x1 x2 x3).1 ≤ (esp l wh x0 x1 x2 x3).2.1 ∧ (esp l wh x0 x1 x2 x3).2.1 ≤ l.length := by
  unfold esp
  cases wh with
  | true => simp
  | false =>
    by_cases h1 : x0 < 0 ∨ x1 < 0
    · simp [h1]
    · by_cases h2 : x2 < 0 ∨ x3 < 0
      · simp [h1, h2]
      · by_cases h3 : poff l x2 x3 < poff l x0 x1
        · simp [h1, h2, h3]
        · have a := poff_range l hB hv x0 x1 (by omega)
          have b := poff_range l hB hv x2 x3 (by omega)
          simp [h1, h2, h3]
          omega
theorem esp_cut {l : List Int} (hB : Bytes l) (hv : V l) (wh : Bool) (x0 x1 x2 x3 : Int) : V (l.take (esp l wh x0 x1 x2 x3).1.toNat) ∧ V (l.take (esp l wh x0 x1 x2 x3).2.1.toNat) := by
  unfold esp
  cases wh with
  | true => simpa using ⟨V.nil, hv⟩
  | false =>
    by_cases h1 : x0 < 0 ∨ x1 < 0
    · simp [h1]; exact V.nil
    · by_cases h2 : x2 < 0 ∨ x3 < 0
      · simp [h1, h2]; exact V.nil
      · by_cases h3 : poff l x2 x3 < poff l x0 x1
        · simp [h1, h2, h3]; exact V.nil
        · simp only [Bool.false_eq_true, if_false, if_neg h1, if_neg h2, if_neg h3]
          exact ⟨poff_V hB hv x0 x1 (by omega), poff_V hB hv x2 x3 (by omega)⟩
theorem drop_V {l : List Int} (hB : Bytes l) (hv : V l) {n : Nat} (h : V (l.take n)) : V (l.drop n) := by
  refine h.after (hB.take _) ?_
  rw [List.take_append_drop]
  exact hv
theorem ech_V {l t : List Int} (hB : Bytes l) (hT : Bytes t) (wh : Bool) (x0 x1 x2 x3 : Int) (h : (ech l t wh x0 x1 x2 x3).2.2.2 = 0) :
    V l ∧ V t ∧ V (ech l t wh x0 x1 x2 x3).2.2.1 ∧ Bytes (ech l t wh x0 x1 x2 x3).2.2.1 ∧ (ech l t wh x0 x1 x2 x3).2.2.1.length ≤ 8192 ∧
      (esp l wh x0 x1 x2 x3).2.2 = 0 ∧ (ech l t wh x0 x1 x2 x3).1 = (esp l wh x0 x1 x2 x3).1 ∧ (ech l t wh x0 x1 x2 x3).2.1 = (esp l wh x0 x1 x2 x3).2.1 ∧
      (ech l t wh x0 x1 x2 x3).2.2.1 = l.take (esp l wh x0 x1 x2 x3).1.toNat ++ t ++ l.drop (esp l wh x0 x1 x2 x3).2.1.toNat := by
  unfold ech at h ⊢
  by_cases c1 : (chk l).2 ≠ 0
  · rw [if_pos c1] at h; exact absurd h c1
  · rw [if_neg c1] at h ⊢
    by_cases c2 : (chk t).2 ≠ 0
    · rw [if_pos c2] at h; exact absurd h c2
    · rw [if_neg c2] at h ⊢
      by_cases c3 : (esp l wh x0 x1 x2 x3).2.2 ≠ 0
      · rw [if_pos c3] at h; exact absurd h c3
      · rw [if_neg c3] at h ⊢
        by_cases c4 : 8192 < l.length - ((esp l wh x0 x1 x2 x3).2.1 - (esp l wh x0 x1 x2 x3).1) + t.length
        · rw [if_pos c4] at h; simp at h
        · rw [if_neg c4]
          have hv : V l := (chk_V hB).1 (by omega)
          have ht : V t := (chk_V hT).1 (by omega)
          have hr := esp_range hB hv wh x0 x1 x2 x3
          have hc := esp_cut hB hv wh x0 x1 x2 x3
          have e3 : (esp l wh x0 x1 x2 x3).2.2 = 0 := by omega
          refine ⟨hv, ht, (hc.1.append (hB.take _) ht).append ((hB.take _).append hT) (drop_V hB hv hc.2), ((hB.take _).append hT).append (hB.drop _), ?_, e3, rfl, rfl, rfl⟩
          simp only [List.length_append, List.length_take, List.length_drop]
          omega
theorem ech_ok {l t : List Int} {wh : Bool} {x0 x1 x2 x3 a b : Int} (hl : (chk l).2 = 0) (ht : (chk t).2 = 0) (hs : esp l wh x0 x1 x2 x3 = (a, b, 0)) (hn : l.length - (b - a) + t.length ≤ 8192) :
    ech l t wh x0 x1 x2 x3 = (a, b, l.take a.toNat ++ t ++ l.drop b.toNat, 0) := by
  unfold ech
  rw [if_neg (by omega), if_neg (by omega), hs, if_neg (by simp), if_neg (by simp only []; omega)]
structure Ed where
  wh : Bool
  x0 : Int
  x1 : Int
  x2 : Int
  x3 : Int
  t : List Int
noncomputable def eone (l : List Int) (e : Ed) : List Int × Int := (ech l e.t e.wh e.x0 e.x1 e.x2 e.x3).2.2
noncomputable def eall : List Int → List Ed → List Int × Int
  | l, [] => (l, 0)
  | l, e :: r => if (eone l e).2 ≠ 0 then ([], (eone l e).2) else eall (eone l e).1 r
noncomputable def eapp (l : List Int) (es : List Ed) : List Int × Int := if (chk l).2 ≠ 0 then ([], (chk l).2) else if 32 < es.length then ([], 5) else eall l es
theorem eone_V {l : List Int} {e : Ed} (hB : Bytes l) (hT : Bytes e.t) (h : (eone l e).2 = 0) : V (eone l e).1 ∧ Bytes (eone l e).1 ∧ (eone l e).1.length ≤ 8192 := by
  have := ech_V hB hT e.wh e.x0 e.x1 e.x2 e.x3 h
  exact ⟨this.2.2.1, this.2.2.2.1, this.2.2.2.2.1⟩
theorem eall_app : ∀ (a b : List Ed) (l : List Int), eall l (a ++ b) = if (eall l a).2 ≠ 0 then ([], (eall l a).2) else eall (eall l a).1 b
  | [], b, l => by simp [eall]
  | e :: a, b, l => by
    simp only [List.cons_append, eall]
    by_cases h : (eone l e).2 ≠ 0
    · simp only [if_pos h]
    · simp only [if_neg h]
      exact eall_app a b _
theorem eall_V : ∀ (es : List Ed) (l : List Int), Bytes l → V l → (∀ e ∈ es, Bytes e.t) → (eall l es).2 = 0 → V (eall l es).1 ∧ Bytes (eall l es).1
  | [], l, hB, hv, _, _ => ⟨hv, hB⟩
  | e :: es, l, hB, hv, hT, h => by
    simp only [eall] at h ⊢
    by_cases h1 : (eone l e).2 ≠ 0
    · rw [if_pos h1] at h; exact absurd h h1
    · rw [if_neg h1] at h ⊢
      have h2 := eone_V hB (hT e List.mem_cons_self) (by omega)
      exact eall_V es _ h2.2.1 h2.1 (fun x hx => hT x (List.mem_cons_of_mem _ hx)) h
theorem eall_err : ∀ (es : List Ed) (l : List Int), (eall l es).2 ≠ 0 → (eall l es).1 = []
  | [], l, h => absurd rfl h
  | e :: es, l, h => by
    simp only [eall] at h ⊢
    by_cases h1 : (eone l e).2 ≠ 0
    · rw [if_pos h1]
    · rw [if_neg h1] at h ⊢
      exact eall_err es _ h
theorem eapp_err (l : List Int) (es : List Ed) (h : (eapp l es).2 ≠ 0) : (eapp l es).1 = [] := by
  unfold eapp at h ⊢
  split
  · rfl
  · rename_i c1
    rw [if_neg c1] at h
    split
    · rfl
    · rename_i c2
      rw [if_neg c2] at h
      exact eall_err es l h
structure IsDiff (a b : List Int) (from_ tail : Nat) : Prop where
  p : IsP a from_
  fa : from_ + tail ≤ a.length
  fb : from_ + tail ≤ b.length
  pre : a.take from_ = b.take from_
  most : ∀ n : Nat, from_ < n → n ≤ a.length → n ≤ b.length → a.take n = b.take n → ¬ IsP a n
  q : IsP a ((a.length - tail : Nat) : Int)
  suf : a.drop (a.length - tail) = b.drop (b.length - tail)
  far : ∀ n : Nat, tail < n → from_ + n ≤ a.length → from_ + n ≤ b.length → a.drop (a.length - n) = b.drop (b.length - n) → ¬ IsP a ((a.length - n : Nat) : Int)
theorem IsDiff.uniq {a b : List Int} {f t f' t' : Nat} (h : IsDiff a b f t) (h' : IsDiff a b f' t') : f = f' ∧ t = t' := by
  have e : f = f' := by
    rcases Nat.lt_trichotomy f f' with hlt | heq | hgt
    · exact absurd h'.p (h.most f' hlt (by have := h'.fa; omega) (by have := h'.fb; omega) h'.pre)
    · exact heq
    · exact absurd h.p (h'.most f hgt (by have := h.fa; omega) (by have := h.fb; omega) h.pre)
  subst e
  refine ⟨rfl, ?_⟩
  rcases Nat.lt_trichotomy t t' with hlt | heq | hgt
  · exact absurd h'.q (h.far t' hlt h'.fa h'.fb h'.suf)
  · exact heq
  · exact absurd h.q (h'.far t hgt h.fa h.fb h.suf)
end Go.Proofs.Ytjebkpcekkkbkaa.B
namespace Go.Proofs.Ytjebkpcekkkbkaa.B
open Go.RowKit Go.Shelf Go.Proofs Go.Proofs.YtjebkpcekkkbkaaW.PrintWords Go.Proofs.YtjebkpcekkkbkaaW.PrintLast Go.Proofs.YtjebkpcekkkbkaaW.PrintMore Go.Proofs.Ytjebkpcekkkbkaa.FBase
def Ap (e : TypeId) (W : World) (base : Nat) (v : Value) (xs : List Int) : Prop :=
  (∃ ad, v = .slice (some ad) xs.length xs.length ∧ Kd.C (Kd.int .u8) W (some ad) xs.length xs) ∨ Kd.R (Kd.int .u8) e W base (fun _ => True) v xs
theorem Ap.read {e : TypeId} {W : World} {base : Nat} {v : Value} {xs : List Int} (h : Ap e W base v xs) : ∃ A c, v = .slice A xs.length c ∧ xs.length ≤ c ∧ (A = none → c = 0) ∧ Kd.C (Kd.int .u8) W A xs.length xs := by
  rcases h with ⟨ad, rfl, hC⟩ | hR
  · exact ⟨some ad, xs.length, rfl, Nat.le_refl _, (fun e => by cases e), hC⟩
  · obtain ⟨A, c, rfl, hl, hC⟩ := Kd.R_reads hR
    refine ⟨A, c, rfl, hl, fun e => ?_, hC⟩
    subst e
    obtain ⟨inner, ho⟩ := Kd.R_own hR
    rcases ho.2 with ⟨hv, _⟩ | ⟨g, cap', cur, hv, _⟩
    · injection hv
    · injection hv with h1 _ _
      cases h1
theorem Ap.below {e : TypeId} {W W1 : World} {base : Nat} {v : Value} {xs : List Int} (h : Ap e W base v xs) (hb : Below W.heap.size W W1) : Ap e W1 base v xs := by
  rcases h with ⟨ad, rfl, hC⟩ | hR
  · exact .inl ⟨ad, rfl, Kd.C_below hC hb⟩
  · exact .inr (Kd.R_below hR hb)
theorem Ap.full {e : TypeId} {W : World} (base : Nat) {A : Option Addr} {xs : List Int} (h : Kd.C (Kd.int .u8) W A xs.length xs) : Ap e W base (.slice A xs.length xs.length) xs := by
  cases A with
  | some ad => exact .inl ⟨ad, rfl, h⟩
  | none =>
    have h0 : xs.length = 0 := by
      rcases Nat.eq_zero_or_pos xs.length with h0 | h0
      · exact h0
      · obtain ⟨ad, h, _⟩ := h.2.2 h0
        cases h
    obtain rfl : xs = [] := List.eq_nil_of_length_eq_zero h0
    exact .inr (Kd.R_nil _ _ _ _ _)
theorem reads_cells {W : World} {ad : Addr} {xs : List Int} (h : Kd.C (Kd.int .u8) W (some ad) xs.length xs) : ∀ j u, (nums .u8 xs)[j]? = some u → W.cell? (ad.add j) = some u := by
  intro j u hj
  have hr := Kd.reads_of_C (enc := Value.int .u8) (d := (0 : Int)) (h1 := fun _ => rfl) h
  have hlt : j < xs.length := by
    have := (List.getElem?_eq_some_iff.1 hj).1
    rwa [nums_length] at this
  obtain ⟨ad', e1, h1⟩ := hr.2.2 (by omega)
  injection e1 with e1
  subst e1
  have h2 := h1 j hlt
  rw [h2]
  simp only [nums, List.getElem?_map] at hj
  rw [← hj]
  simp [List.getD, hlt]
section
variable {P : Program}
theorem ap_run_slice {W : World} (base : Nat) (t ty e : TypeId) (ht : P.underlying t = some (.slice e)) (hinfo : (P.info? e).map (fun i => (i.zero, i.size, i.bytes)) = some (some (.int .u8 0), 1, 1))
    (v : Value) (xs ys : List Int) (A : Option Addr) (c : Nat) (HO : Ap e W base v xs) (HR : Kd.C (Kd.int .u8) W A ys.length ys) (hbase : base ≤ W.heap.size) (hl : xs.length + ys.length ≤ 140737488355328) :
    ∃ v1 w1, (Builtin.append_ #[t, t] ty #[v, .slice A ys.length c]).run P W = .ok v1 w1 ∧ Ap e w1 base v1 (xs ++ ys) ∧ ∃ row, W.grownBy w1 row ∧ ∀ k, row = some k → base ≤ k := by
  obtain ⟨i0, hi, hzz⟩ := Option.map_eq_some_iff.1 hinfo
  simp only [Prod.mk.injEq] at hzz
  obtain ⟨hz0, hz1, hz2⟩ := hzz
  by_cases hfull : ∃ ad, v = .slice (some ad) xs.length xs.length ∧ Kd.C (Kd.int .u8) W (some ad) xs.length xs
  · obtain ⟨ad, rfl, hC⟩ := hfull
    by_cases h0 : ys.length = 0
    · obtain rfl : ys = [] := List.eq_nil_of_length_eq_zero h0
      refine ⟨_, W, ?_, by rw [List.append_nil]; exact .inl ⟨ad, rfl, hC⟩, none, World.grownBy.refl W _, fun k hk => by cases hk⟩
      rcases A with _ | a2
      · simp [Builtin.append_, run_underlying ht, sizeOf, typeInfo, hi, Builtin.lenOf, Builtin.firstCells, storeCells]
      · have hfc := run_firstCells_some (P := P) W i0.size 0 a2 0 c [] (by simp) (by simp)
        simp [Builtin.append_, run_underlying ht, sizeOf, typeInfo, hi, Builtin.lenOf, hfc, storeCells]
    · obtain ⟨a2, rfl⟩ : ∃ a2, A = some a2 := by
        obtain ⟨a2, h, _⟩ := HR.2.2 (by omega)
        exact ⟨a2, h⟩
      obtain ⟨v1, w1, hrun, hown, hg⟩ := run_append_arg_grows (P := P) W t ty e i0 (.int .u8 0) 1 1 ht hi hz0 hz1 hz2 rfl (by decide) ad xs.length xs.length (nums .u8 xs) (by rw [nums_length, Nat.mul_one]) (reads_cells hC) a2 ys.length c (nums .u8 ys) (by rw [nums_length, Nat.mul_one]) (reads_cells HR) (by omega) (by unfold maxLen; omega) (by omega)
      refine ⟨v1, w1, hrun, .inr ?_, none, hg, fun k hk => by cases hk⟩
      rw [← nums_append, ← List.length_append] at hown
      exact Kd.R_of_own (enc := Value.int .u8) (h1 := fun _ => rfl) (own_less hown hbase) (fun _ _ => trivial)
  · have hR : Kd.R (Kd.int .u8) e W base (fun _ => True) v xs := by
      rcases HO with h | h
      · exact absurd h hfull
      · exact h
    have hown := Kd.own_of_R (enc := Value.int .u8) (h1 := fun _ => rfl) hR
    rcases A with _ | a2
    · have h0 : ys.length = 0 := by
        rcases Nat.eq_zero_or_pos ys.length with h0 | h0
        · exact h0
        · obtain ⟨ad, h, _⟩ := HR.2.2 h0
          cases h
      obtain rfl : ys = [] := List.eq_nil_of_length_eq_zero h0
      refine ⟨v, W, ?_, by rw [List.append_nil]; exact .inr hR, none, World.grownBy.refl W _, fun k hk => by cases hk⟩
      rcases hown.2 with ⟨rfl, hn⟩ | ⟨g, cap, cur, rfl, _, _, hnc, _⟩
      · simp [Builtin.append_, run_underlying ht, sizeOf, typeInfo, hi, Builtin.lenOf, Builtin.firstCells]
      · simp [Builtin.append_, run_underlying ht, sizeOf, typeInfo, hi, Builtin.lenOf, Builtin.firstCells, hnc, storeCells]
    · obtain ⟨v1, w1, hrun, ho1, hg1, _⟩ := run_append_own (P := P) W base t ty e i0 (.int .u8 0) 1 1 ht hi hz0 hz1 hz2 rfl (by decide) v xs.length (encs (Value.int .u8) xs) hown a2 ys.length c (nums .u8 ys) (by rw [nums_length, Nat.mul_one]) (reads_cells HR) (by intro u hu; simp only [nums, List.mem_map] at hu; obtain ⟨x, _, rfl⟩ := hu; rfl) (by unfold maxLen; omega) (by omega) hbase
      refine ⟨v1, w1, hrun, .inr ?_, _, hg1, fun k hk => own_base hown k hk⟩
      refine Kd.R_of_own (enc := Value.int .u8) (h1 := fun _ => rfl) ?_ (fun _ _ => trivial)
      have e1 : encs (Value.int .u8) (xs ++ ys) = encs (Value.int .u8) xs ++ nums .u8 ys := by simp [encs, nums]
      rw [e1, List.length_append]
      exact ho1
theorem ap_append {w0 W : World} {ops : Array Oper} {rest : List Oper} {o : Oper} {a : Act} {Q : Exit → Act → World → Prop} (base : Nat) (hgd : o.guard = none) (s x : Operand) (t e : TypeId)
    (ho : o.op = .call { callee := .builtin .append, args := #[s, x], argTypes := #[t, t] }) (ht : P.underlying t = some (.slice e)) (hinfo : (P.info? e).map (fun i => (i.zero, i.size, i.bytes)) = some (some (.int .u8 0), 1, 1))
    (v : Value) (xs ys : List Int) (A : Option Addr) (m c : Nat) (hs : a.eval s = v) (hx : a.eval x = .slice A m c) (hm : ys.length = m)
    (HO : Ap e W base v xs) (HR : Kd.C (Kd.int .u8) W A ys.length ys) (HB : Below base w0 W) (hbase : base ≤ W.heap.size) (hl : xs.length + ys.length ≤ 140737488355328)
    (h : ∀ v1 w1, Ap e w1 base v1 (xs ++ ys) → Below base w0 w1 → W.heap.size ≤ w1.heap.size → wpList P ops Q rest (a.put o.dst v1) w1) : wpList P ops Q (o :: rest) a W := by
  subst hm
  refine wpList_plain hgd fun K hK' => ?_
  obtain ⟨v1, w1, hrun, r1, row, r2, r3⟩ := ap_run_slice (P := P) base t o.type e ht hinfo v xs ys A c HO HR hbase hl
  unfold Oper.wp
  simp [execOp, ho, resolve, invoke, builtin, hs, hx, hrun, Result.andThen]
  exact hK' _ _ (h v1 w1 r1 (HB.grown r2 hbase r3) r2.size)
theorem ap_run_str {W : World} (base : Nat) (t u ty e : TypeId) (ht : P.underlying t = some (.slice e)) (hu : P.underlying u = some .string) (hinfo : (P.info? e).map (fun i => (i.zero, i.size, i.bytes)) = some (some (.int .u8 0), 1, 1))
    (v : Value) (xs : List Int) (y : ByteArray) (HO : Ap e W base v xs) (hbase : base ≤ W.heap.size) (hl : xs.length + y.size ≤ 140737488355328) :
    ∃ v1 w1, (Builtin.append_ #[t, u] ty #[v, .string y]).run P W = .ok v1 w1 ∧ Ap e w1 base v1 (xs ++ bytesOf y) ∧ ∃ row, W.grownBy w1 row ∧ ∀ k, row = some k → base ≤ k := by
  obtain ⟨i0, hi, hzz⟩ := Option.map_eq_some_iff.1 hinfo
  simp only [Prod.mk.injEq] at hzz
  obtain ⟨hz0, hz1, hz2⟩ := hzz
  have ecs : ∀ xs : List Int, nums .u8 (xs ++ bytesOf y) = nums .u8 xs ++ Lib.strCells y := fun xs => by
    rw [nums_append]
    congr 1
    simp [nums, bytesOf, Lib.strCells]
  by_cases hfull : ∃ ad, v = .slice (some ad) xs.length xs.length ∧ Kd.C (Kd.int .u8) W (some ad) xs.length xs
  · obtain ⟨ad, rfl, hC⟩ := hfull
    by_cases h0 : y.size = 0
    · have e0 : bytesOf y = [] := List.eq_nil_of_length_eq_zero (by rw [bytesOf_length]; exact h0)
      refine ⟨.slice (some ad) xs.length xs.length, W, ?_, by rw [e0, List.append_nil]; exact .inl ⟨ad, rfl, hC⟩, none, World.grownBy.refl W _, fun k hk => by cases hk⟩
      have hf := Lib.run_firstCells_string (P := P) W i0.size y
      have e1 : Lib.strCells y = [] := List.eq_nil_of_length_eq_zero (by rw [Lib.strCells_length]; exact h0)
      rw [e1, h0] at hf
      simp [Builtin.append_, run_underlying ht, run_underlying hu, sizeOf, typeInfo, hi, Builtin.lenOf, h0, hf, storeCells]
    · have hcm : grownCap W (xs.length + y.size) xs.length e ≤ maxLen := grownCap_le_maxLen W _ xs.length e (by unfold maxLen; omega)
      have hge := grownCap_ge W (xs.length + y.size) xs.length e
      have hrun := Lib.run_append_grow_string (P := P) W t u ty e i0 (.int .u8 0) ht hu hi hz0 ad xs.length xs.length (nums .u8 xs) (by rw [nums_length, hz1, Nat.mul_one]) (reads_cells hC) y (by omega) (by omega) (by rw [hz2]; exact growslice_fits (by omega) (by omega))
      refine ⟨_, _, hrun, .inr ?_, none, ⟨rfl, rfl, rfl, by simp, fun k hk _ => (below_alloc (Below.refl _ W.drew) _).block k hk⟩, fun k hk => by cases hk⟩
      refine Kd.R_of_own (enc := Value.int .u8) (h1 := fun _ => rfl) ?_ (fun _ _ => trivial)
      have e1 : encs (Value.int .u8) (xs ++ bytesOf y) = nums .u8 xs ++ Lib.strCells y := ecs xs
      have hlen : (xs ++ bytesOf y).length = xs.length + y.size := by rw [List.length_append, bytesOf_length]
      rw [e1, hlen]
      refine ⟨by rw [List.length_append, nums_length, Lib.strCells_length, Nat.mul_one], .inr ⟨W.heap.size, _, _, rfl, hbase, heap_alloc_new W.drew _, hge, hcm, ?_, ?_⟩⟩
      · simp only [Array.size_append, List.size_toArray, size_zeroCells, nums_length, Lib.strCells_length]
        show _ = _ * 1
        have : (Value.int IntKind.u8 0).cells.size = 1 := rfl
        rw [this]
        omega
      · simp only [Array.toList_append, List.append_assoc]
        rw [← List.append_assoc, Nat.mul_one, show xs.length + y.size = (nums .u8 xs ++ Lib.strCells y).length by rw [List.length_append, nums_length, Lib.strCells_length]]
        exact List.take_left
  · have hR : Kd.R (Kd.int .u8) e W base (fun _ => True) v xs := by
      rcases HO with h | h
      · exact absurd h hfull
      · exact h
    have hown := Kd.own_of_R (enc := Value.int .u8) (h1 := fun _ => rfl) hR
    obtain ⟨v1, w1, hrun, ho1, hg1, _⟩ := Lib.run_append_own_string (P := P) W base t u ty e i0 ht hu hi hz0 hz1 hz2 v xs.length (nums .u8 xs) hown y (by unfold maxLen; omega) (by omega) hbase
    refine ⟨v1, w1, hrun, .inr ?_, _, hg1, fun k hk => own_base hown k hk⟩
    refine Kd.R_of_own (enc := Value.int .u8) (h1 := fun _ => rfl) ?_ (fun _ _ => trivial)
    have e1 : encs (Value.int .u8) (xs ++ bytesOf y) = nums .u8 xs ++ Lib.strCells y := ecs xs
    rw [e1, List.length_append, bytesOf_length]
    exact ho1
theorem ap_append_str {w0 W : World} {ops : Array Oper} {rest : List Oper} {o : Oper} {a : Act} {Q : Exit → Act → World → Prop} (base : Nat) (hgd : o.guard = none) (s x : Operand) (t u e : TypeId)
    (ho : o.op = .call { callee := .builtin .append, args := #[s, x], argTypes := #[t, u] }) (ht : P.underlying t = some (.slice e)) (hu : P.underlying u = some .string) (hinfo : (P.info? e).map (fun i => (i.zero, i.size, i.bytes)) = some (some (.int .u8 0), 1, 1))
    (v : Value) (xs : List Int) (y : ByteArray) (hs : a.eval s = v) (hx : a.eval x = .string y)
    (HO : Ap e W base v xs) (HB : Below base w0 W) (hbase : base ≤ W.heap.size) (hl : xs.length + y.size ≤ 140737488355328)
    (h : ∀ v1 w1, Ap e w1 base v1 (xs ++ bytesOf y) → Below base w0 w1 → W.heap.size ≤ w1.heap.size → wpList P ops Q rest (a.put o.dst v1) w1) : wpList P ops Q (o :: rest) a W := by
  refine wpList_plain hgd fun K hK' => ?_
  obtain ⟨v1, w1, hrun, r1, row, r2, r3⟩ := ap_run_str (P := P) base t u o.type e ht hu hinfo v xs y HO hbase hl
  unfold Oper.wp
  simp [execOp, ho, resolve, invoke, builtin, hs, hx, hrun, Result.andThen]
  exact hK' _ _ (h v1 w1 r1 (HB.grown r2 hbase r3) r2.size)
end
theorem bytes_C (W : World) (e : TypeId) (s : ByteArray) (hs : s.size ≤ 9223372036854775807) : Kd.C (Kd.int .u8) (Lib.bytesWorld W e s) (some ⟨W.heap.size, 0, none⟩) s.size (bytesOf s) :=
  Kd.C_of_reads (enc := Value.int .u8) (d := (0 : Int)) (h1 := fun _ => rfl) (bytes_reads W e s hs)
theorem bytesOf_B (s : ByteArray) : Bytes (bytesOf s) := by
  intro x hx
  simp only [bytesOf, List.mem_map] at hx
  obtain ⟨b, _, rfl⟩ := hx
  have := b.toNat_lt
  omega
end Go.Proofs.Ytjebkpcekkkbkaa.B
namespace Go.Proofs.Ytjebkpcekkkbkaa.B
open Go.RowKit Go.Shelf Go.Proofs Go.Proofs.YtjebkpcekkkbkaaW.PrintWords Go.Proofs.YtjebkpcekkkbkaaW.PrintLast Go.Proofs.YtjebkpcekkkbkaaW.PrintMore Go.Proofs.Ytjebkpcekkkbkaa.FBase
theorem texts1_f (l : List Int) (hl : Bytes l) (h1 : l.length ≤ 1048576) : edit_texts.f (l.length + 12) [l] = some (chk l).2 := by
  unfold edit_texts.f
  show edit_texts.l0 (l.length + 11 + 1) [l] 1 0 = _
  rw [edit_texts.l0, if_pos (by decide), if_pos (by decide), if_pos (by simp), show rd_L3 [l] 0 = l from rfl, Check_f l hl h1 (by omega)]
  simp only [Option.bind_some]
  by_cases h : (chk l).2 = 0
  · rw [if_pos h, show wrap64 (0 + 1) = 1 from by unfold wrap64; omega]
    show edit_texts.l0 (l.length + 10 + 1) [l] 1 1 = _
    rw [edit_texts.l0, if_neg (by decide), h]
  · rw [if_neg h]
theorem texts2_f (l t : List Int) (hl : Bytes l) (ht : Bytes t) (h1 : l.length ≤ 1048576) (h2 : t.length ≤ 140737488351232) : edit_texts.f (l.length + t.length + 12) [l, t] = some (if (chk l).2 ≠ 0 then (chk l).2 else (chk t).2) := by
  unfold edit_texts.f
  show edit_texts.l0 (l.length + t.length + 11 + 1) [l, t] 2 0 = _
  rw [edit_texts.l0, if_pos (by decide), if_pos (by decide), if_pos (by simp), show rd_L3 [l, t] 0 = l from rfl, Check_f l hl h1 (by omega)]
  simp only [Option.bind_some]
  by_cases h : (chk l).2 = 0
  · rw [if_pos h, show wrap64 (0 + 1) = 1 from by unfold wrap64; omega, if_neg (by omega)]
    show edit_texts.l0 (l.length + t.length + 10 + 1) [l, t] 2 1 = _
    rw [edit_texts.l0, if_pos (by decide), if_pos (by decide), if_pos (by simp), show rd_L3 [l, t] 1 = t from rfl, Check_F t ht (by omega) (by omega)]
    simp only [Option.bind_some]
    by_cases h' : (chk t).2 = 0
    · rw [if_pos h', show wrap64 (1 + 1) = 2 from by unfold wrap64; omega]
      show edit_texts.l0 (l.length + t.length + 9 + 1) [l, t] 2 2 = _
      rw [edit_texts.l0, if_neg (by decide), h']
    · rw [if_neg h']
  · rw [if_neg h, if_pos h]
theorem row1_C (W : World) (A : Option Addr) (c : Nat) (l : List Int) (hr : Kd.C (Kd.int .u8) W A l.length l) (hc : l.length ≤ c) (o : TypeId) :
    Kd.C (Kd.slice 5 (Kd.int .u8)) (W.alloc (.cells #[.slice A l.length c] o)) (some ⟨W.heap.size, 0, none⟩) 1 [l] := by
  refine ⟨rfl, by decide, fun _ => ⟨_, rfl, fun j p hj => ?_⟩⟩
  have hj0 : j = 0 := by
    have := (List.getElem?_eq_some_iff.1 hj).1
    simp at this
    omega
  subst hj0
  simp only [List.getElem?_cons_zero, Option.some.injEq] at hj
  subst hj
  refine ⟨[.slice A l.length c], rfl, ⟨A, c, rfl, hc, Kd.C_below hr (below_alloc (Below.refl _ _) _)⟩, fun i u hi => ?_⟩
  have hi0 : i = 0 := by
    have := (List.getElem?_eq_some_iff.1 hi).1
    simp at this
    omega
  subst hi0
  simp only [List.getElem?_cons_zero, Option.some.injEq] at hi
  subst hi
  rw [show (0 : Nat) * (Kd.slice 5 (Kd.int .u8)).sz + 0 = 0 from rfl, add_plain]
  exact (blk_cell (blk_new W _) 0).trans rfl
theorem row2_C (W : World) (A B : Option Addr) (c d : Nat) (l t : List Int) (hr : Kd.C (Kd.int .u8) W A l.length l) (hc : l.length ≤ c) (hr2 : Kd.C (Kd.int .u8) W B t.length t) (hd : t.length ≤ d) (o : TypeId) :
    Kd.C (Kd.slice 5 (Kd.int .u8)) (W.alloc (.cells #[.slice A l.length c, .slice B t.length d] o)) (some ⟨W.heap.size, 0, none⟩) 2 [l, t] := by
  refine ⟨rfl, by decide, fun _ => ⟨_, rfl, fun j p hj => ?_⟩⟩
  have hj0 : j = 0 ∨ j = 1 := by
    have := (List.getElem?_eq_some_iff.1 hj).1
    simp at this
    omega
  rcases hj0 with rfl | rfl
  · simp only [List.getElem?_cons_zero, Option.some.injEq] at hj
    subst hj
    refine ⟨[.slice A l.length c], rfl, ⟨A, c, rfl, hc, Kd.C_below hr (below_alloc (Below.refl _ _) _)⟩, fun i u hi => ?_⟩
    have hi0 : i = 0 := by
      have := (List.getElem?_eq_some_iff.1 hi).1
      simp at this
      omega
    subst hi0
    simp only [List.getElem?_cons_zero, Option.some.injEq] at hi
    subst hi
    rw [show (0 : Nat) * (Kd.slice 5 (Kd.int .u8)).sz + 0 = 0 from rfl, add_plain]
    exact (blk_cell (blk_new W _) 0).trans rfl
  · simp only [List.getElem?_cons_succ, List.getElem?_cons_zero, Option.some.injEq] at hj
    subst hj
    refine ⟨[.slice B t.length d], rfl, ⟨B, d, rfl, hd, Kd.C_below hr2 (below_alloc (Below.refl _ _) _)⟩, fun i u hi => ?_⟩
    have hi0 : i = 0 := by
      have := (List.getElem?_eq_some_iff.1 hi).1
      simp at this
      omega
    subst hi0
    simp only [List.getElem?_cons_zero, Option.some.injEq] at hi
    subst hi
    rw [show (1 : Nat) * (Kd.slice 5 (Kd.int .u8)).sz + 0 = 1 from rfl, add_plain]
    exact (blk_cell (blk_new W _) 1).trans rfl
set_option maxRecDepth 100000 in
set_option maxHeartbeats 1000000 in
theorem BClone_ok (A : Option Addr) (c : Nat) (l : List Int) (w : World) (hr : Kd.C (Kd.int .u8) w A l.length l) (hc : l.length ≤ c) (hn : A = none → c = 0) (hs : l.length ≤ 140737488355328) :
    Calls Try.prog 63 #[.slice A l.length c] w fun e w' => ∃ v : Value, e = .returned v ∧ Kd.R (Kd.int .u8) 5 w' w.heap.size (fun _ => True) v l ∧ Below w.heap.size w w' := by
  have HR := Aside0.mk hr
  have HC := Aside0.mk hc
  clear hr
  cases A with
  | none =>
    obtain rfl := hn rfl
    obtain rfl : l = [] := by cases l with | nil => rfl | cons _ _ => simp at hc
    have e0 := fun (w : World) (a : Option Addr) (n c n2 c2 : Nat) => Lib.run_eql_slice_nil (P := Try.prog) w 22 5 a n c n2 c2 Try.underlying22
    go_enter Try.func63, Try.ntmps63
    go_wp2
    go_ret
    exact ⟨_, rfl, Kd.R_nil _ _ _ _ _, Below.refl _ _⟩
  | some ad =>
    clear hc
    have e0 := fun (w : World) (a : Option Addr) (n c n2 c2 : Nat) => Lib.run_eql_slice_nil (P := Try.prog) w 22 5 a n c n2 c2 Try.underlying22
    go_enter Try.func63, Try.ntmps63
    go_wp2_with (first | ((with_reducible refine gate_dst (N := 5) rfl ?_); refine Kd.R_lit (Kd.int .u8) _ 5 ?hg (N := 5) ?hd (xs := ([] : List Int)) (inner := []) (ok := fun _ => True) (okp := fun _ => True) ?hr ?hp (fun _ hk => hk) trivial (Below.refl _ _) (Nat.le_refl _) (by simp) ?_; (case hd => rfl); (case hg => rfl); (case hr => first | (go_simp; done) | (go_simp; rfl)); (case hp => exact (Reps.none _ _)); intro v1 w5 ho hb hg_ hnew_; clear hg_ hnew_; have HO := Aside0.mk ho; have HB := Aside0.mk hb; clear hb ho) | ((with_reducible refine gate_builtin (b := .append) (xs := #[.tmp 5, .tmp 6]) rfl ?_); at_builtin; refine Kd.R_append_rows (Kd.int .u8) (w0 := w) w.heap.size rfl (.tmp 5) (.tmp 6) 22 5 (.int .u8 0) 1 rfl Try.underlying22 info5 rfl (by decide) (by omega) v1 [] l _ _ _ (fun _ => True) (fun _ => False) rfl rfl ?aO ?aR (fun _ _ h => h) (fun _ h => h.elim) ?aF ?aB ?aS ?aL ?_; (case aR => exact Kd.C_below HR.out (by repeat (first | exact HB.out | apply below_alloc | apply pw_below_drewN | apply below_drew1))); (case aB => exact (by repeat (first | exact HB.out | apply below_alloc | apply pw_below_drewN | apply below_drew1))); (case aF => exact (fun _ _ => trivial)); (case aO => exact HO.out); (case aS => exact below_size (by repeat (first | exact HB.out | apply below_alloc | apply pw_below_drewN | apply below_drew1))); (case aL => simp; omega); intro v2 w7 ho hb hg hat; have HB2 := Aside0.mk hb; have HO2 := Aside0.mk ho; clear ho hb hg hat))
    go_ret
    exact ⟨_, rfl, HO2.out, HB2.out⟩
end Go.Proofs.Ytjebkpcekkkbkaa.B
