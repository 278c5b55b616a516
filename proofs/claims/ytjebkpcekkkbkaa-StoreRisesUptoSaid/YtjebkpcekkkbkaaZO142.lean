/-
  Texts of this session, one behind the other: O0, O1, O2, O3, O4, N4, K0, K1, R0, R1, R2, PC, N5.
-/
import Derived.Test.YtjebkpcekkkbkaaZO141
set_option linter.unusedSimpArgs false
set_option linter.unusedVariables false
namespace Go.Proofs.Ytjebkpcekkkbkaa.B
open Go.RowKit Go.Shelf Go.ChangeMaps Go.Proofs Go.Proofs.YtjebkpcekkkbkaaW.PrintWords Go.Proofs.YtjebkpcekkkbkaaW.PrintLast Go.Proofs.YtjebkpcekkkbkaaW.PrintMore Go.Proofs.Ytjebkpcekkkbkaa.FBase
structure Dc where
  g : Nat
  ver : Int
  ser : Int
  A : Option Addr
  c : Nat
  txt : List Int
abbrev DL := List (List UInt8 × Dc)
def lk (L : DL) (k : List UInt8) : Option Dc := (L.find? (fun p => p.1 == k)).map (·.2)
def rm (L : DL) (k : List UInt8) : DL := L.filter (fun p => !(p.1 == k))
def docEnt (p : List UInt8 × Dc) : Lit × DataW Unit := (.string p.1, .lit (.int .i64 p.2.g))
def Rep (D : DataW Unit) (L : DL) : Prop := ∃ es, D = .map es ∧ es.Perm (L.map docEnt) ∧ (L.map (·.1)).Nodup
theorem docEnt_is (k : List UInt8) (p : List UInt8 × Dc) : (docEnt p).1.sameKey (.string k) = (p.1 == k) := by
  have h := @WideAt.sameKey_iff (.string p.1) (.string k) trivial
  cases hs : (docEnt p).1.sameKey (.string k) with
  | true =>
    have := h.1 hs
    injection this with this
    rw [this]
    simp
  | false =>
    cases hq : p.1 == k with
    | false => rfl
    | true =>
      rw [beq_iff_eq] at hq
      have := h.2 (by rw [hq])
      rw [show (docEnt p).1 = .string p.1 from rfl] at hs
      rw [hs] at this
      cases this
theorem find_perm {α : Type} {f : α → Bool} {l1 l2 : List α} (hp : l1.Perm l2) (hu : ∀ a ∈ l2, ∀ b ∈ l2, f a = true → f b = true → a = b) : l1.find? f = l2.find? f := by
  cases h1 : l1.find? f with
  | none =>
    rw [List.find?_eq_none] at h1
    exact (List.find?_eq_none.2 fun x hx => h1 x (hp.mem_iff.2 hx)).symm
  | some a =>
    have ha := List.find?_some h1
    have hm := hp.mem_iff.1 (List.mem_of_find?_eq_some h1)
    cases h2 : l2.find? f with
    | none => exact absurd ha (List.find?_eq_none.1 h2 a hm)
    | some b => rw [hu a hm b (List.mem_of_find?_eq_some h2) ha (List.find?_some h2)]
theorem nodup_fst : ∀ {L : DL}, (L.map (·.1)).Nodup → ∀ p ∈ L, ∀ q ∈ L, p.1 = q.1 → p = q
  | [], _ => fun p hp => nomatch hp
  | x :: L, h => by
    rw [List.map_cons, List.nodup_cons] at h
    intro p hp q hq e
    rcases List.mem_cons.1 hp with h1 | h1
    · rcases List.mem_cons.1 hq with h2 | h2
      · rw [h1, h2]
      · exact absurd (List.mem_map.2 ⟨q, h2, by rw [← e, h1]⟩) h.1
    · rcases List.mem_cons.1 hq with h2 | h2
      · exact absurd (List.mem_map.2 ⟨p, h1, by rw [e, h2]⟩) h.1
      · exact nodup_fst h.2 p h1 q h2 e
theorem Rep.find {es : List (Lit × DataW Unit)} {L : DL} (hp : es.Perm (L.map docEnt)) (hn : (L.map (·.1)).Nodup) (k : List UInt8) : es.find? (fun p => p.1.sameKey (.string k)) = (L.find? (fun p => p.1 == k)).map docEnt := by
  rw [find_perm hp, List.find?_map]
  · rw [show ((fun p : Lit × DataW Unit => p.1.sameKey (.string k)) ∘ docEnt) = fun p => p.1 == k from funext fun p => docEnt_is k p]
  · intro a ha b hb h1 h2
    obtain ⟨p, hp, rfl⟩ := List.mem_map.1 ha
    obtain ⟨q, hq, rfl⟩ := List.mem_map.1 hb
    rw [docEnt_is, beq_iff_eq] at h1 h2
    rw [nodup_fst hn p hp q hq (h1.trans h2.symm)]
theorem Rep.at {D : DataW Unit} {L : DL} (h : Rep D L) (k : List UInt8) (z : DataW Unit) : D.atKey (.string k) z = match lk L k with | some d => .lit (.int .i64 d.g) | none => z := by
  obtain ⟨es, rfl, hp, hn⟩ := h
  simp only [DataW.atKey]
  rw [Rep.find hp hn k]
  unfold lk
  cases L.find? (fun p => p.1 == k) <;> rfl
theorem Rep.has {D : DataW Unit} {L : DL} (h : Rep D L) (k : List UInt8) : Maps.has D (.string k) = (lk L k).isSome := by
  obtain ⟨es, rfl, hp, hn⟩ := h
  rw [Maps.has_eq]
  have h1 := Rep.find hp hn k
  unfold lk
  cases h2 : L.find? (fun p => p.1 == k) with
  | none =>
    rw [h2] at h1
    rw [List.any_eq_false.2 fun x hx => by have := List.find?_eq_none.1 h1 x hx; simpa using this]
    rfl
  | some a =>
    rw [h2] at h1
    rw [List.any_eq_true.2 ⟨_, List.mem_of_find?_eq_some h1, List.find?_some h1⟩]
    rfl
theorem Rep.size {D : DataW Unit} {L : DL} (h : Rep D L) : Maps.size D = L.length := by
  obtain ⟨es, rfl, hp, hn⟩ := h
  rw [Maps.size_eq, hp.length_eq, List.length_map]
theorem Rep.keys {D : DataW Unit} {L : DL} (h : Rep D L) : (strKeys D).Perm (L.map (·.1)) := by
  obtain ⟨es, rfl, hp, hn⟩ := h
  have h1 := hp.map (fun p : Lit × DataW Unit => strOf p.1)
  rw [List.map_map] at h1
  exact h1
theorem insert_perm (x : Lit × DataW Unit) : ∀ l : List (Lit × DataW Unit), (DataW.insert x l).Perm (x :: l)
  | [] => List.Perm.refl _
  | y :: r => by
    unfold DataW.insert
    split
    · exact List.Perm.refl _
    · exact ((insert_perm x r).cons y).trans (List.Perm.swap x y r)
theorem Rep.fil {es : List (Lit × DataW Unit)} {L : DL} (hp : es.Perm (L.map docEnt)) (k : List UInt8) : (es.filter fun p => !p.1.sameKey (.string k)).Perm ((rm L k).map docEnt) := by
  have h1 := hp.filter (fun p : Lit × DataW Unit => !p.1.sameKey (.string k))
  rw [List.filter_map] at h1
  have h2 : L.filter ((fun p : Lit × DataW Unit => !p.1.sameKey (.string k)) ∘ docEnt) = rm L k := by
    unfold rm
    rw [show ((fun p : Lit × DataW Unit => !p.1.sameKey (.string k)) ∘ docEnt) = fun p => !(p.1 == k) from funext fun p => congrArg Bool.not (docEnt_is k p)]
  rw [h2] at h1
  exact h1
theorem rm_nodup {L : DL} (h : (L.map (·.1)).Nodup) (k : List UInt8) : ((rm L k).map (·.1)).Nodup := h.sublist (List.filter_sublist.map _)
theorem rm_not {L : DL} (k : List UInt8) : k ∉ (rm L k).map (·.1) := by
  intro h
  obtain ⟨p, hp, rfl⟩ := List.mem_map.1 h
  have := (List.mem_filter.1 hp).2
  simp at this
theorem rm_mem {L : DL} {k : List UInt8} {p : List UInt8 × Dc} (h : p ∈ rm L k) : p ∈ L := (List.mem_filter.1 h).1
theorem Rep.put {D : DataW Unit} {L : DL} (h : Rep D L) (k : List UInt8) (d : Dc) : Rep (D.put (.string k) (.lit (.int .i64 d.g))) ((k, d) :: rm L k) := by
  obtain ⟨es, rfl, hp, hn⟩ := h
  refine ⟨_, rfl, (insert_perm _ _).trans ?_, ?_⟩
  · rw [List.map_cons]
    exact (Rep.fil hp k).cons _
  · rw [List.map_cons, List.nodup_cons]
    exact ⟨rm_not k, rm_nodup hn k⟩
theorem Rep.del {D : DataW Unit} {L : DL} (h : Rep D L) (k : List UInt8) : Rep (D.del (.string k)) (rm L k) := by
  obtain ⟨es, rfl, hp, hn⟩ := h
  exact ⟨_, rfl, Rep.fil hp k, rm_nodup hn k⟩
theorem Rep.nil : Rep (.map []) [] := ⟨[], rfl, List.Perm.refl _, List.nodup_nil⟩
def upd (L : DL) (k : List UInt8) (ver : Int) (A : Option Addr) (c : Nat) (txt : List Int) : DL := L.map fun p => if p.1 == k then (p.1, { p.2 with ver := ver, A := A, c := c, txt := txt }) else p
theorem Rep.upd {D : DataW Unit} {L : DL} (h : Rep D L) (k : List UInt8) (ver : Int) (A : Option Addr) (c : Nat) (txt : List Int) : Rep D (upd L k ver A c txt) := by
  obtain ⟨es, rfl, hp, hn⟩ := h
  refine ⟨es, rfl, ?_, ?_⟩
  · have : (B.upd L k ver A c txt).map docEnt = L.map docEnt := by
      unfold B.upd
      rw [List.map_map]
      refine List.map_congr_left fun p _ => ?_
      show docEnt (if p.1 == k then _ else p) = docEnt p
      split <;> rfl
    rw [this]; exact hp
  · have : (B.upd L k ver A c txt).map (·.1) = L.map (·.1) := by
      unfold B.upd
      rw [List.map_map]
      refine List.map_congr_left fun p _ => ?_
      show (if p.1 == k then _ else p).1 = p.1
      split <;> rfl
    rw [this]; exact hn
theorem lk_cons (k k' : List UInt8) (d : Dc) (L : DL) : lk ((k, d) :: L) k' = if k = k' then some d else lk L k' := by
  unfold lk
  rw [List.find?_cons]
  by_cases h : k = k'
  · rw [if_pos h]; simp [h]
  · rw [if_neg h]
    have : (k == k') = false := by simpa using h
    simp only [this]
theorem lk_rm_ne (L : DL) {k k' : List UInt8} (h : k ≠ k') : lk (rm L k) k' = lk L k' := by
  unfold lk rm
  rw [Maps.find_filter_keep]
  intro p hp
  simp only [beq_iff_eq] at hp
  simp only [Bool.not_eq_true', beq_eq_false_iff_ne, ne_eq]
  rw [hp]; exact fun e => h e.symm
theorem lk_rm (L : DL) (k : List UInt8) : lk (rm L k) k = none := by
  unfold lk
  rw [Option.map_eq_none_iff, List.find?_eq_none]
  intro p hp
  have := (List.mem_filter.1 hp).2
  simpa using this
theorem lk_mem {L : DL} {k : List UInt8} {d : Dc} (h : lk L k = some d) : (k, d) ∈ L := by
  unfold lk at h
  obtain ⟨p, hp, rfl⟩ := Option.map_eq_some_iff.1 h
  have h1 := List.find?_some hp
  rw [beq_iff_eq] at h1
  rw [← h1]
  exact List.mem_of_find?_eq_some hp
theorem lk_none {L : DL} {k : List UInt8} (h : lk L k = none) : ∀ p ∈ L, p.1 ≠ k := by
  intro p hp e
  unfold lk at h
  rw [Option.map_eq_none_iff, List.find?_eq_none] at h
  exact h p hp (by simpa using e)
theorem lk_upd (L : DL) (k k' : List UInt8) (ver : Int) (A : Option Addr) (c : Nat) (txt : List Int) : lk (upd L k ver A c txt) k' = if k = k' then (lk L k).map (fun d => { d with ver := ver, A := A, c := c, txt := txt }) else lk L k' := by
  unfold lk upd
  rw [List.find?_map]
  have he : ((fun p : List UInt8 × Dc => p.1 == k') ∘ fun p : List UInt8 × Dc => if p.1 == k then (p.1, { p.2 with ver := ver, A := A, c := c, txt := txt }) else p) = fun p => p.1 == k' := by
    funext p
    show ((if p.1 == k then _ else p).1 == k') = _
    split <;> rfl
  rw [he, Option.map_map]
  by_cases h : k = k'
  · subst h
    rw [if_pos rfl]
    cases hf : L.find? (fun p => p.1 == k) with
    | none => rfl
    | some p =>
      have := List.find?_some hf
      simp only [Option.map_some, Function.comp]
      rw [if_pos this]
  · rw [if_neg h]
    cases hf : L.find? (fun p => p.1 == k') with
    | none => rfl
    | some p =>
      have := List.find?_some hf
      rw [beq_iff_eq] at this
      simp only [Option.map_some, Function.comp]
      rw [if_neg (by rw [this]; simpa using fun e => h e.symm)]
theorem rm_len {L : DL} (hn : (L.map (·.1)).Nodup) {k : List UInt8} {d : Dc} (h : lk L k = some d) : (rm L k).length + 1 = L.length := by
  induction L with
  | nil => cases h
  | cons p L ih =>
    rw [List.map_cons, List.nodup_cons] at hn
    rw [show (p :: L) = (p.1, p.2) :: L from rfl, lk_cons] at h
    by_cases e : p.1 = k
    · have : rm (p :: L) k = L := by
        unfold rm
        rw [List.filter_cons, if_neg (by simp [e]), List.filter_eq_self.2]
        intro q hq
        simp only [Bool.not_eq_true', beq_eq_false_iff_ne, ne_eq]
        exact fun e2 => hn.1 (List.mem_map.2 ⟨q, hq, e2.trans e.symm⟩)
      rw [this, List.length_cons]
    · rw [if_neg e] at h
      have : rm (p :: L) k = p :: rm L k := by
        unfold rm
        rw [List.filter_cons, if_pos (by simpa using e)]
      rw [this, List.length_cons, List.length_cons, ih hn.2 h]
theorem upd_len (L : DL) (k : List UInt8) (ver : Int) (A : Option Addr) (c : Nat) (txt : List Int) : (upd L k ver A c txt).length = L.length := by
  unfold upd
  rw [List.length_map]
theorem rm_none {L : DL} {k : List UInt8} (h : lk L k = none) : rm L k = L := by
  unfold rm
  rw [List.filter_eq_self.2]
  intro q hq
  simp only [Bool.not_eq_true', beq_eq_false_iff_ne, ne_eq]
  exact lk_none h q hq
theorem own_from {base e c : Nat} {W : World} {A : Option Addr} {l : List Int} {ok : Nat → Prop} (hR : Kd.R (Kd.int .u8) e W base ok (.slice A l.length c) l) : FromBase base W (fun W => Kd.C (Kd.int .u8) W A l.length l) := fun W1 hW1 =>
  (Kd.R_reads' (Kd.R_move (Kd.R_bound hR) (fun k hk => hW1 k hk.2.1 hk.2.2.1))).2.2
theorem own_none {k : IntKind} {e base n cap : Nat} {ok : Nat → Prop} {W : World} {A : Option Addr} {xs : List Int} (h : Kd.R (Kd.int k) e W base ok (.slice A n cap) xs) : A = none → cap = 0 := by
  intro hA
  subst hA
  obtain ⟨inner, ho⟩ := Kd.R_own h
  rcases ho.2 with ⟨hv, _⟩ | ⟨g, cap', cur, hv, hg, hh, _⟩
  · injection hv with _ _ h3
  · injection hv with h1 _ _
    cases h1
structure Same (M : Nat → Prop) (W W2 : World) : Prop where
  os : W2.os = W.os
  tape : W2.tape = W.tape
  output : W2.output = W.output
  size : W.heap.size ≤ W2.heap.size
  blk : ∀ k, k < W.heap.size → ¬ M k → W2.heap[k]? = W.heap[k]?
def Out (M : Nat → Prop) (W : World) (F : World → Prop) : Prop := ∀ W2 : World, Same M W W2 → F W2
def In (T : Nat → Prop) (W : World) (F : World → Prop) : Prop := ∀ W2 : World, (∀ k, k < W.heap.size → T k → W2.heap[k]? = W.heap[k]?) → F W2
structure Grow (M M' : Nat → Prop) (W W' : World) : Prop where
  same : Same M W W'
  more : ∀ k, M' k → M k ∨ W.heap.size ≤ k
theorem Same.refl (M : Nat → Prop) (W : World) : Same M W W := ⟨rfl, rfl, rfl, Nat.le_refl _, fun _ _ _ => rfl⟩
theorem Same.of_below {M : Nat → Prop} {W W' : World} (h : Below W.heap.size W W') : Same M W W' := ⟨h.os, h.tape, h.output, h.size, fun k hk _ => h.block k hk⟩
theorem Same.below {M : Nat → Prop} {W W' : World} (h : Same M W W') {n : Nat} (hn : n ≤ W.heap.size) (hM : ∀ k, M k → n ≤ k) : Below n W W' := ⟨h.os, h.tape, h.output, h.size, fun k hk => h.blk k (by omega) (fun hm => by have := hM k hm; omega)⟩
theorem Same.mono {M M' : Nat → Prop} {W W' : World} (h : Same M W W') (hm : ∀ k, M k → M' k) : Same M' W W' := ⟨h.os, h.tape, h.output, h.size, fun k hk hn => h.blk k hk (fun hq => hn (hm k hq))⟩
theorem Same.trans {M M1 : Nat → Prop} {W W1 W2 : World} (h : Same M W W1) (hm : ∀ k, M1 k → M k ∨ W.heap.size ≤ k) (h2 : Same M1 W1 W2) : Same M W W2 :=
  ⟨h2.os.trans h.os, h2.tape.trans h.tape, h2.output.trans h.output, Nat.le_trans h.size h2.size, fun k hk hn => by
    have : ¬ M1 k := fun h1 => (hm k h1).elim hn (fun h3 => by omega)
    rw [h2.blk k (Nat.lt_of_lt_of_le hk h.size) this, h.blk k hk hn]⟩
theorem heap_setBlock_other_ (W : World) (g : Nat) (o : Obj) (k : Nat) (h : k ≠ g) : (setBlock W g o).heap[k]? = W.heap[k]? := by
  simp only [setBlock, Array.getElem?_setIfInBounds]
  rw [if_neg (fun e : g = k => h e.symm)]
theorem Same.block {M : Nat → Prop} {W : World} {g : Nat} (o : Obj) (hg : M g) : Same M W (setBlock W g o) := ⟨rfl, rfl, rfl, by simp [setBlock], fun k hk hn => heap_setBlock_other_ W g o k (fun e => hn (e ▸ hg))⟩
theorem Same.cell {M : Nat → Prop} {W : World} {p : Addr} (v : Value) (hg : M p.block) : Same M W (W.setCell p v) := by
  have hb : Below p.block W (W.setCell p v) := Below.setCell (Below.refl _ _) (Nat.le_refl _) v
  exact ⟨hb.os, hb.tape, hb.output, hb.size, fun k hk hn => Below.heap_setCell W p v k (fun e => hn (e ▸ hg))⟩
theorem Grow.refl (M : Nat → Prop) (W : World) : Grow M M W W := ⟨Same.refl M W, fun _ h => .inl h⟩
theorem Grow.of_below {M : Nat → Prop} {W W' : World} (h : Below W.heap.size W W') : Grow M M W W' := ⟨Same.of_below h, fun _ h => .inl h⟩
theorem Grow.trans {M M1 M2 : Nat → Prop} {W W1 W2 : World} (h : Grow M M1 W W1) (h2 : Grow M1 M2 W1 W2) : Grow M M2 W W2 :=
  ⟨h.same.trans h.more h2.same, fun k h3 => (h2.more k h3).elim (h.more k) (fun h4 => .inr (Nat.le_trans h.same.size h4))⟩
theorem Out.now {M : Nat → Prop} {W : World} {F : World → Prop} (h : Out M W F) : F W := h W (Same.refl M W)
theorem Out.grow {M M' : Nat → Prop} {W W' : World} {F : World → Prop} (h : Out M W F) (g : Grow M M' W W') : Out M' W' F := fun W2 h2 => h W2 (g.same.trans g.more h2)
theorem Out.and {M : Nat → Prop} {W : World} {F G : World → Prop} (h : Out M W F) (k : Out M W G) : Out M W (fun W => F W ∧ G W) := fun W1 h1 => ⟨h W1 h1, k W1 h1⟩
theorem Out.mono {M : Nat → Prop} {W : World} {F G : World → Prop} (h : Out M W F) (k : ∀ W, F W → G W) : Out M W G := fun W1 h1 => k _ (h W1 h1)
theorem Out.true (M : Nat → Prop) (W : World) : Out M W (fun _ => True) := fun _ _ => trivial
theorem Out.of_from {M : Nat → Prop} {base : Nat} {W : World} {F : World → Prop} (h : FromBase base W F) (hM : ∀ k, M k → k < base) : Out M W F := fun W2 h2 => h W2 (fun k h1 h3 => h2.blk k h3 (fun hm => by have := hM k hm; omega))
theorem Out.of_keeps {M : Nat → Prop} {w W : World} {F : World → Prop} (h : F w) (k : Keeps F) (hb : Below w.heap.size w W) (hM : ∀ k, M k → w.heap.size ≤ k) : Out M W F := fun W2 h2 =>
  k w W2 h (hb.trans (h2.below hb.size hM))
theorem In.now {T : Nat → Prop} {W : World} {F : World → Prop} (h : In T W F) : F W := h W (fun _ _ _ => rfl)
theorem In.step {T T' : Nat → Prop} {W W' : World} {F : World → Prop} (h : In T W F) (hT : ∀ k, k < W.heap.size → T k → T' k) (hs : W.heap.size ≤ W'.heap.size) (hk : ∀ k, k < W.heap.size → T k → W'.heap[k]? = W.heap[k]?) : In T' W' F := fun W2 h2 =>
  h W2 (fun k h1 h3 => by rw [h2 k (by omega) (hT k h1 h3), hk k h1 h3])
theorem In.of_from {T : Nat → Prop} {base : Nat} {W : World} {F : World → Prop} (h : FromBase base W F) (hT : ∀ k, base ≤ k → k < W.heap.size → T k) : In T W F := fun W2 h2 => h W2 (fun k h1 h3 => h2 k h3 (hT k h1 h3))
end Go.Proofs.Ytjebkpcekkkbkaa.B
namespace Go.Proofs.Ytjebkpcekkkbkaa.B
open Go.RowKit Go.Shelf Go.Proofs Go.Proofs.YtjebkpcekkkbkaaW.PrintWords Go.Proofs.YtjebkpcekkkbkaaW.PrintLast Go.Proofs.YtjebkpcekkkbkaaW.PrintMore Go.Proofs.Ytjebkpcekkkbkaa.FBase
def docElem : Value → Option (DataW Unit × List MemPlace)
  | .pointer none => some (.lit (.int .i64 (-1)), [])
  | .pointer (some a) => if a = ⟨a.block, 0, none⟩ then some (.lit (.int .i64 a.block), []) else none
  | _ => none
theorem docElem_none {v : Value} {ps : List MemPlace} (h : docElem v = some (.lit (.int .i64 (-1)), ps)) : v = .pointer none := by
  unfold docElem at h
  split at h
  · rfl
  · split at h
    · injection h with h
      injection h with h _
      injection h with h
      injection h with _ h
      omega
    · cases h
  · cases h
theorem docElem_inv {v : Value} {g : Nat} {ps : List MemPlace} (h : docElem v = some (.lit (.int .i64 g), ps)) : v = .pointer (some ⟨g, 0, none⟩) := by
  unfold docElem at h
  split at h
  · injection h with h
    injection h with h _
    injection h with h
    injection h with _ h
    omega
  · rename_i a
    split at h
    · rename_i ha
      injection h with h
      injection h with h _
      injection h with h
      injection h with _ h
      have : a.block = g := by omega
      rw [ha, this]
    · cases h
  · cases h
theorem docElem_mk (g : Nat) : docElem (.pointer (some ⟨g, 0, none⟩)) = some (.lit (.int .i64 g), []) := if_pos rfl
theorem law_str : Maps.Keyed Try.prog 9 := Maps.string_keyed Try.underlying9
theorem zeroDoc (w : World) : (zeroValue 122).run Try.prog w = .ok (.pointer none) w := by kernel_rfl
theorem eqlMap (m : Nat) (w : World) : (binOp .eql 84 (.map (some m)) (.map none)).run Try.prog w = .ok (.bool false) w := by kernel_rfl
theorem neqDoc (a : Addr) (w : World) : (binOp .neq 122 (.pointer (some a)) (.pointer none)).run Try.prog w = .ok (.bool true) w := by kernel_rfl
theorem neqDoc0 (w : World) : (binOp .neq 122 (.pointer none) (.pointer none)).run Try.prog w = .ok (.bool false) w := by kernel_rfl
abbrev key (s : ByteArray) : List UInt8 := s.data.toList
theorem key_of (s : ByteArray) (h : s.size ≤ maxLen) : keyOf Try.prog 9 (.string s) = some (.string (key s)) := Go.WideMaps.keyOf_string_mk Try.underlying9 h
abbrev docBlk (d : Dc) : Obj := .cells #[.int .i64 d.ver, .int .i64 d.ser, .slice d.A d.txt.length d.c] 124 (0, 0)
abbrev stBlk (m : Nat) (many : Int) : Obj := .cells #[.map (some m), .int .i64 many] 86 (0, 0)
structure StAt (W : World) (s m : Nat) (P T : Nat → Prop) (D : DataW Unit) (L : DL) (many : Int) : Prop where
  st : IsBlk W s (stBlk m many)
  mp : W.ownsMap Try.prog 9 docElem m L.length D
  rep : Rep D L
  docs : ∀ p ∈ L, IsBlk W p.2.g (docBlk p.2)
  txts : ∀ p ∈ L, In T W (fun W => Kd.C (Kd.int .u8) W p.2.A p.2.txt.length p.2.txt)
  caps : ∀ p ∈ L, p.2.txt.length ≤ p.2.c ∧ (p.2.A = none → p.2.c = 0) ∧ Bytes p.2.txt ∧ p.2.txt.length ≤ 8192 ∧ p.1.length ≤ 256
  ne : s ≠ m
  nes : ∀ p ∈ L, p.2.g ≠ s ∧ p.2.g ≠ m
  nep : L.Pairwise (fun p q => p.2.g ≠ q.2.g)
  pP : P s ∧ P m ∧ ∀ p ∈ L, P p.2.g
  pt : ∀ k, T k → ¬ P k
  lt : ∀ k, P k ∨ T k → k < W.heap.size
def IsStore (M : Nat → Prop) (W : World) (s : Nat) (L : DL) (many : Int) : Prop := ∃ m P T D, StAt W s m P T D L many ∧ ∀ k, M k ↔ P k ∨ T k
theorem owns_same {W W2 : World} {P : Program} {k : TypeId} {R : Value → Option (DataW Unit × List MemPlace)} {b n : Nat} {D : DataW Unit} (h : W.ownsMap P k R b n D) (e : W2.heap[b]? = W.heap[b]?) : W2.ownsMap P k R b n D := by
  obtain ⟨es, clock, hb, r⟩ := h
  exact ⟨es, clock, e.trans hb, r⟩
theorem owns_less {W : World} {P : Program} {k : TypeId} {R : Value → Option (DataW Unit × List MemPlace)} {b n n' : Nat} {D : DataW Unit} (h : W.ownsMap P k R b n D) (e : Maps.size D ≤ n') : W.ownsMap P k R b n' D := by
  obtain ⟨es, clock, hb, F, hs, rfl⟩ := h
  refine ⟨es, clock, hb, F, ?_, rfl⟩
  simpa [Maps.size, length_sorted] using e
theorem IsStore.lt {M : Nat → Prop} {W : World} {s : Nat} {L : DL} {many : Int} (h : IsStore M W s L many) {k : Nat} (hk : M k) : k < W.heap.size := by
  obtain ⟨m, P, T, D, h, hM⟩ := h
  exact h.lt k ((hM k).1 hk)
theorem IsStore.keep {M : Nat → Prop} {W W2 : World} {s : Nat} {L : DL} {many : Int} (h : IsStore M W s L many) (hs : W.heap.size ≤ W2.heap.size) (hk : ∀ k, k < W.heap.size → M k → W2.heap[k]? = W.heap[k]?) : IsStore M W2 s L many := by
  obtain ⟨m, P, T, D, h, hM⟩ := h
  have hP : ∀ k, P k → W2.heap[k]? = W.heap[k]? := fun k h1 => hk k (h.lt k (.inl h1)) ((hM k).2 (.inl h1))
  have hT : ∀ k, k < W.heap.size → T k → W2.heap[k]? = W.heap[k]? := fun k hlt h1 => hk k hlt ((hM k).2 (.inr h1))
  exact ⟨m, P, T, D, ⟨(hP s h.pP.1).trans h.st, owns_same h.mp (hP m h.pP.2.1), h.rep, fun p hp => (hP _ (h.pP.2.2 p hp)).trans (h.docs p hp), fun p hp => (h.txts p hp).step (fun _ _ h => h) hs hT, h.caps, h.ne, h.nes, h.nep, h.pP, h.pt, fun k h1 => Nat.lt_of_lt_of_le (h.lt k h1) hs⟩, hM⟩
theorem IsStore.below {M : Nat → Prop} {W W2 : World} {s : Nat} {L : DL} {many : Int} (h : IsStore M W s L many) (hb : Below W.heap.size W W2) : IsStore M W2 s L many := h.keep hb.size (fun k hk _ => hb.block k hk)
set_option maxRecDepth 100000 in
set_option maxHeartbeats 1000000 in
theorem SNew_ok (w : World) : Calls Try.prog 33 #[] w fun e w' => ∃ s M, e = .returned (.pointer (some ⟨s, 0, none⟩)) ∧ IsStore M w' s [] 0 ∧ (∀ k, M k → w.heap.size ≤ k) ∧ Below w.heap.size w w' := by
  have hmm := @run_makeMap Try.prog
  go_enter Try.func33, Try.ntmps33
  go_wp2
  go_ret
  have b1 := below_alloc (Below.refl _ w) (.map #[] 0)
  have b2 := below_alloc (Below.refl _ (w.alloc (.map #[] 0))) (stBlk w.heap.size 0)
  have hz : (w.alloc (.map #[] 0)).heap.size = w.heap.size + 1 := World.size_alloc ..
  have hz2 : ((w.alloc (.map #[] 0)).alloc (stBlk w.heap.size 0)).heap.size = w.heap.size + 1 + 1 := by rw [World.size_alloc, World.size_alloc]
  have hs : IsBlk ((w.alloc (.map #[] 0)).alloc (stBlk w.heap.size 0)) (w.heap.size + 1) (stBlk w.heap.size 0) := by
    have h := blk_new (w.alloc (.map #[] 0)) (stBlk w.heap.size 0)
    rw [hz] at h
    exact h
  have no : ∀ p : List UInt8 × Dc, p ∈ ([] : DL) → False := fun p hp => nomatch hp
  refine ⟨w.heap.size + 1, fun k => k = w.heap.size ∨ k = w.heap.size + 1, by simp, ⟨w.heap.size, fun k => k = w.heap.size ∨ k = w.heap.size + 1, fun _ => False, .map [], ⟨hs, ?_, Rep.nil, fun p hp => (no p hp).elim, fun p hp => (no p hp).elim, fun p hp => (no p hp).elim, by omega, fun p hp => (no p hp).elim, List.Pairwise.nil, ⟨.inr rfl, .inl rfl, fun p hp => (no p hp).elim⟩, fun _ h => h.elim, fun k h => ?_⟩, fun k => ?_⟩, fun k h => ?_, below_step b1 b2⟩
  · exact (World.ownsMap_made w Try.prog 9 docElem).alloc _
  · rw [hz2]
    rcases h with (rfl | rfl) | h
    · omega
    · omega
    · exact h.elim
  · simp
  · rcases h with rfl | rfl <;> omega
section
variable {M : Nat → Prop} {W : World} {s : Nat} {L : DL} {many : Int}
set_option maxRecDepth 100000 in
set_option maxHeartbeats 1000000 in
theorem doc_yes (h : IsStore M W s L many) (u : ByteArray) (hu : u.size ≤ maxLen) (d : Dc) (hd : lk L (key u) = some d) :
    Calls Try.prog 72 #[.pointer (some ⟨s, 0, none⟩), .string u] W fun e W' => e = .returned (.tuple #[.pointer (some ⟨d.g, 0, none⟩), .int .i64 0]) ∧ Below W.heap.size W W' := by
  obtain ⟨m, P, T, D, h, hM⟩ := h
  have c0 : W.cell? ⟨s, 0, none⟩ = some (.map (some m)) := h.st.cell 0
  obtain ⟨v, ps, hrun, hv⟩ := h.mp.look_ok law_str Try.underlying84 (zeroDoc W) (zd := .lit (.int .i64 (-1))) (zp := []) rfl (key_of u hu)
  rw [h.rep.at, hd] at hv
  obtain rfl := docElem_inv hv
  rw [h.rep.has, hd] at hrun
  simp only [Option.isSome_some] at hrun
  clear hv hd h hM
  have q0 := eqlMap m
  go_enter Try.func72, Try.ntmps72
  go_wp2
  go_ret2
  exact ⟨rfl, Below.refl _ _⟩
set_option maxRecDepth 100000 in
set_option maxHeartbeats 1000000 in
theorem doc_no (h : IsStore M W s L many) (u : ByteArray) (hu : u.size ≤ maxLen) (hd : lk L (key u) = none) :
    Calls Try.prog 72 #[.pointer (some ⟨s, 0, none⟩), .string u] W fun e W' => ∃ g, e = .returned (.tuple #[.pointer (some ⟨g, 0, none⟩), .int .i64 161]) ∧ IsBlk W' g (.cells #[.int .i64 0, .int .i64 0, .slice none 0 0] 124 (0, 0)) ∧ Below W.heap.size W W' := by
  obtain ⟨m, P, T, D, h, hM⟩ := h
  have c0 : W.cell? ⟨s, 0, none⟩ = some (.map (some m)) := h.st.cell 0
  obtain ⟨v, ps, hrun, hv⟩ := h.mp.look_ok law_str Try.underlying84 (zeroDoc W) (zd := .lit (.int .i64 (-1))) (zp := []) rfl (key_of u hu)
  rw [h.rep.at, hd] at hv
  obtain rfl := docElem_none hv
  rw [h.rep.has, hd] at hrun
  simp only [Option.isSome_none] at hrun
  clear hv hd h hM
  have q0 := eqlMap m
  go_enter Try.func72, Try.ntmps72
  go_wp2
  go_ret2
  exact ⟨_, rfl, blk_new _ _, below_alloc (Below.refl _ _) _⟩
end
end Go.Proofs.Ytjebkpcekkkbkaa.B
namespace Go.Proofs.Ytjebkpcekkkbkaa.B
open Go.RowKit Go.Shelf Go.ChangeMaps Go.Proofs Go.Proofs.YtjebkpcekkkbkaaW.PrintWords Go.Proofs.YtjebkpcekkkbkaaW.PrintLast Go.Proofs.YtjebkpcekkkbkaaW.PrintMore Go.Proofs.Ytjebkpcekkkbkaa.FBase
theorem look1_no {W : World} {s m : Nat} {P T : Nat → Prop} {D : DataW Unit} {L : DL} {many : Int} (h : StAt W s m P T D L many) (u : ByteArray) (hu : u.size ≤ maxLen) (hd : lk L (key u) = none) :
    (Instr.lookup 84 (.map (some m)) (.string u) false).run Try.prog W = .ok (.pointer none) W := by
  obtain ⟨v, ps, hrun, hv⟩ := h.mp.lookup law_str Try.underlying84 (zeroDoc W) (zd := .lit (.int .i64 (-1))) (zp := []) rfl (key_of u hu)
  rw [h.rep.at, hd] at hv
  obtain rfl := docElem_none hv
  exact hrun
theorem look1_yes {W : World} {s m : Nat} {P T : Nat → Prop} {D : DataW Unit} {L : DL} {many : Int} (h : StAt W s m P T D L many) (u : ByteArray) (hu : u.size ≤ maxLen) (d : Dc) (hd : lk L (key u) = some d) :
    (Instr.lookup 84 (.map (some m)) (.string u) false).run Try.prog W = .ok (.pointer (some ⟨d.g, 0, none⟩)) W := by
  obtain ⟨v, ps, hrun, hv⟩ := h.mp.lookup law_str Try.underlying84 (zeroDoc W) (zd := .lit (.int .i64 (-1))) (zp := []) rfl (key_of u hu)
  rw [h.rep.at, hd] at hv
  obtain rfl := docElem_inv hv
  exact hrun
theorem StAt.keep {W W2 : World} {s m : Nat} {P T : Nat → Prop} {D : DataW Unit} {L : DL} {many : Int} (h : StAt W s m P T D L many) (hs : W.heap.size ≤ W2.heap.size) (hk : ∀ k, k < W.heap.size → P k ∨ T k → W2.heap[k]? = W.heap[k]?) : StAt W2 s m P T D L many := by
  have hP : ∀ k, P k → W2.heap[k]? = W.heap[k]? := fun k h1 => hk k (h.lt k (.inl h1)) (.inl h1)
  have hT : ∀ k, k < W.heap.size → T k → W2.heap[k]? = W.heap[k]? := fun k hlt h1 => hk k hlt (.inr h1)
  exact ⟨(hP s h.pP.1).trans h.st, owns_same h.mp (hP m h.pP.2.1), h.rep, fun p hp => (hP _ (h.pP.2.2 p hp)).trans (h.docs p hp), fun p hp => (h.txts p hp).step (fun _ _ h => h) hs hT, h.caps, h.ne, h.nes, h.nep, h.pP, h.pt, fun k h1 => Nat.lt_of_lt_of_le (h.lt k h1) hs⟩
theorem StAt.below {W W2 : World} {s m : Nat} {P T : Nat → Prop} {D : DataW Unit} {L : DL} {many : Int} (h : StAt W s m P T D L many) (hb : Below W.heap.size W W2) : StAt W2 s m P T D L many := h.keep hb.size (fun k hk _ => hb.block k hk)
theorem StAt.len {W : World} {s m : Nat} {P T : Nat → Prop} {D : DataW Unit} {L : DL} {many : Int} (h : StAt W s m P T D L many) (ty : TypeId) : (Builtin.len_ #[84] ty #[.map (some m)]).run Try.prog W = .ok (.int .i64 (L.length : Nat)) W := by
  have := h.mp.len Try.underlying84 ty
  rw [h.rep.size] at this
  exact this
section
variable {M : Nat → Prop} {W : World} {s : Nat} {L : DL} {many : Int}
set_option maxRecDepth 100000 in
set_option maxHeartbeats 2000000 in
theorem Open_c (h : IsStore M W s L many) (u : ByteArray) (ver : Int) (A : Option Addr) (c : Nat) (l : List Int) (hu : u.size ≤ maxLen) (hr : Kd.C (Kd.int .u8) W A l.length l) (hc : l.length ≤ c) (hn : A = none → c = 0) (hB : Bytes l) (hl : l.length ≤ 140737488351232) (h1 : 1 ≤ u.size ∧ u.size ≤ 256) (h2 : 0 ≤ ver ∧ ver ≤ 9007199254740991) (h3 : (chk l).2 ≠ 0) :
    Calls Try.prog 35 #[.pointer (some ⟨s, 0, none⟩), .string u, .int .i64 ver, .slice A l.length c] W fun e W' => e = .returned (.int .i64 (chk l).2) ∧ Below W.heap.size W W' := by
  obtain ⟨m, P, T, D, h, hM⟩ := h
  have c0 : W.cell? ⟨s, 0, none⟩ = some (.map (some m)) := h.st.cell 0
  have q0 := eqlMap m
  have hk := Check_F l hB (by omega) (Nat.lt_succ_self _)
  have HK : Aside0 (runes_Check.f (l.length + 9) l = some ((chk l).1, (chk l).2)) := ⟨hk⟩
  have HR := Aside0.mk hr
  have HC := Aside0.mk hc
  clear hk hr hc
  have g1 : decide (u.size < 1) = false := decide_eq_false (by omega)
  have g1' : decide ((u.size : Int) < 1) = false := decide_eq_false (by omega)
  have g2 : decide (256 < u.size) = false := decide_eq_false (by omega)
  have g2' : decide ((256 : Int) < (u.size : Int)) = false := decide_eq_false (by omega)
  have g3 : decide (ver < 0) = false := decide_eq_false (by omega)
  have g4 : decide (9007199254740991 < ver) = false := decide_eq_false (by omega)
  have g5 : ((chk l).2 != 0) = true := bne_iff_ne.mpr h3
  clear hB hn h hM h1 h2 h3
  go_enter Try.func35, Try.ntmps35
  go_wp2_with (go_at_call 58; refine (runes_Check.calls (l.length + 9) A c l _ _ _ (Kd.C_below HR.out (by repeat (first | exact Below.refl _ _ | apply below_alloc | apply pw_below_drewN | apply below_drew1))) HC.out HK.out).mono ?_; rintro e w1 ⟨rfl, nc, rfl⟩)
  all_goals
    go_ret
    exact ⟨rfl, (by repeat (first | exact Below.refl _ _ | apply below_alloc | apply pw_below_drewN | apply below_drew1))⟩
set_option maxRecDepth 100000 in
set_option maxHeartbeats 2000000 in
theorem Open_l (h : IsStore M W s L many) (u : ByteArray) (ver : Int) (A : Option Addr) (c : Nat) (l : List Int) (hu : u.size ≤ maxLen) (hr : Kd.C (Kd.int .u8) W A l.length l) (hc : l.length ≤ c) (hn : A = none → c = 0) (hB : Bytes l) (hl : l.length ≤ 140737488351232) (h1 : 1 ≤ u.size ∧ u.size ≤ 256) (h2 : 0 ≤ ver ∧ ver ≤ 9007199254740991) (h3 : (chk l).2 = 0) (h4 : 8192 < l.length) :
    Calls Try.prog 35 #[.pointer (some ⟨s, 0, none⟩), .string u, .int .i64 ver, .slice A l.length c] W fun e W' => e = .returned (.int .i64 5) ∧ Below W.heap.size W W' := by
  obtain ⟨m, P, T, D, h, hM⟩ := h
  have c0 : W.cell? ⟨s, 0, none⟩ = some (.map (some m)) := h.st.cell 0
  have q0 := eqlMap m
  have hk := Check_F l hB (by omega) (Nat.lt_succ_self _)
  have HK : Aside0 (runes_Check.f (l.length + 9) l = some ((chk l).1, (chk l).2)) := ⟨hk⟩
  have HR := Aside0.mk hr
  have HC := Aside0.mk hc
  clear hk hr hc
  have g1 : decide (u.size < 1) = false := decide_eq_false (by omega)
  have g1' : decide ((u.size : Int) < 1) = false := decide_eq_false (by omega)
  have g2 : decide (256 < u.size) = false := decide_eq_false (by omega)
  have g2' : decide ((256 : Int) < (u.size : Int)) = false := decide_eq_false (by omega)
  have g3 : decide (ver < 0) = false := decide_eq_false (by omega)
  have g4 : decide (9007199254740991 < ver) = false := decide_eq_false (by omega)
  have g5 : ((chk l).2 != 0) = false := by rw [h3]; rfl
  have g6 : decide (8192 < l.length) = true := decide_eq_true h4
  have g6' : decide ((8192 : Int) < (l.length : Int)) = true := decide_eq_true (by omega)
  clear hB hn h hM h1 h2 h3 h4
  go_enter Try.func35, Try.ntmps35
  go_wp2_with (go_at_call 58; refine (runes_Check.calls (l.length + 9) A c l _ _ _ (Kd.C_below HR.out (by repeat (first | exact Below.refl _ _ | apply below_alloc | apply pw_below_drewN | apply below_drew1))) HC.out HK.out).mono ?_; rintro e w1 ⟨rfl, nc, rfl⟩)
  all_goals
    go_ret
    exact ⟨rfl, (by repeat (first | exact Below.refl _ _ | apply below_alloc | apply pw_below_drewN | apply below_drew1))⟩
set_option maxRecDepth 100000 in
set_option maxHeartbeats 2000000 in
theorem Open_y (h : IsStore M W s L many) (u : ByteArray) (ver : Int) (A : Option Addr) (c : Nat) (l : List Int) (hu : u.size ≤ maxLen) (hr : Kd.C (Kd.int .u8) W A l.length l) (hc : l.length ≤ c) (hn : A = none → c = 0) (hB : Bytes l) (hl : l.length ≤ 140737488351232) (h1 : 1 ≤ u.size ∧ u.size ≤ 256) (h2 : 0 ≤ ver ∧ ver ≤ 9007199254740991) (h3 : (chk l).2 = 0) (h4 : l.length ≤ 8192) (d : Dc) (h5 : lk L (key u) = some d) :
    Calls Try.prog 35 #[.pointer (some ⟨s, 0, none⟩), .string u, .int .i64 ver, .slice A l.length c] W fun e W' => e = .returned (.int .i64 160) ∧ Below W.heap.size W W' := by
  obtain ⟨m, P, T, D, h, hM⟩ := h
  have c0 : W.cell? ⟨s, 0, none⟩ = some (.map (some m)) := h.st.cell 0
  have q0 := eqlMap m
  have hk := Check_F l hB (by omega) (Nat.lt_succ_self _)
  have HK : Aside0 (runes_Check.f (l.length + 9) l = some ((chk l).1, (chk l).2)) := ⟨hk⟩
  have HR := Aside0.mk hr
  have HC := Aside0.mk hc
  clear hk hr hc
  have g1 : decide (u.size < 1) = false := decide_eq_false (by omega)
  have g1' : decide ((u.size : Int) < 1) = false := decide_eq_false (by omega)
  have g2 : decide (256 < u.size) = false := decide_eq_false (by omega)
  have g2' : decide ((256 : Int) < (u.size : Int)) = false := decide_eq_false (by omega)
  have g3 : decide (ver < 0) = false := decide_eq_false (by omega)
  have g4 : decide (9007199254740991 < ver) = false := decide_eq_false (by omega)
  have g5 : ((chk l).2 != 0) = false := by rw [h3]; rfl
  have g6 : decide (8192 < l.length) = false := decide_eq_false (by omega)
  have g6' : decide ((8192 : Int) < (l.length : Int)) = false := decide_eq_false (by omega)
  have hlo := fun n => look1_yes (h.below (pw_below_drewN (Below.refl _ W) n)) u hu d h5
  have q1 := neqDoc
  clear hB hn h hM h1 h2 h3 h4 h5
  go_enter Try.func35, Try.ntmps35
  go_wp2_with (go_at_call 58; refine (runes_Check.calls (l.length + 9) A c l _ _ _ (Kd.C_below HR.out (by repeat (first | exact Below.refl _ _ | apply below_alloc | apply pw_below_drewN | apply below_drew1))) HC.out HK.out).mono ?_; rintro e w1 ⟨rfl, nc, rfl⟩)
  all_goals
    go_ret
    exact ⟨rfl, (by repeat (first | exact Below.refl _ _ | apply below_alloc | apply pw_below_drewN | apply below_drew1))⟩
set_option maxRecDepth 100000 in
set_option maxHeartbeats 2000000 in
theorem Open_f (h : IsStore M W s L many) (u : ByteArray) (ver : Int) (A : Option Addr) (c : Nat) (l : List Int) (hu : u.size ≤ maxLen) (hr : Kd.C (Kd.int .u8) W A l.length l) (hc : l.length ≤ c) (hn : A = none → c = 0) (hB : Bytes l) (hl : l.length ≤ 140737488351232) (h1 : 1 ≤ u.size ∧ u.size ≤ 256) (h2 : 0 ≤ ver ∧ ver ≤ 9007199254740991) (h3 : (chk l).2 = 0) (h4 : l.length ≤ 8192) (h5 : lk L (key u) = none) (h6 : 8 ≤ L.length) :
    Calls Try.prog 35 #[.pointer (some ⟨s, 0, none⟩), .string u, .int .i64 ver, .slice A l.length c] W fun e W' => e = .returned (.int .i64 7) ∧ Below W.heap.size W W' := by
  obtain ⟨m, P, T, D, h, hM⟩ := h
  have c0 : W.cell? ⟨s, 0, none⟩ = some (.map (some m)) := h.st.cell 0
  have q0 := eqlMap m
  have hk := Check_F l hB (by omega) (Nat.lt_succ_self _)
  have HK : Aside0 (runes_Check.f (l.length + 9) l = some ((chk l).1, (chk l).2)) := ⟨hk⟩
  have HR := Aside0.mk hr
  have HC := Aside0.mk hc
  clear hk hr hc
  have g1 : decide (u.size < 1) = false := decide_eq_false (by omega)
  have g1' : decide ((u.size : Int) < 1) = false := decide_eq_false (by omega)
  have g2 : decide (256 < u.size) = false := decide_eq_false (by omega)
  have g2' : decide ((256 : Int) < (u.size : Int)) = false := decide_eq_false (by omega)
  have g3 : decide (ver < 0) = false := decide_eq_false (by omega)
  have g4 : decide (9007199254740991 < ver) = false := decide_eq_false (by omega)
  have g5 : ((chk l).2 != 0) = false := by rw [h3]; rfl
  have g6 : decide (8192 < l.length) = false := decide_eq_false (by omega)
  have g6' : decide ((8192 : Int) < (l.length : Int)) = false := decide_eq_false (by omega)
  have hlo := fun n => look1_no (h.below (pw_below_drewN (Below.refl _ W) n)) u hu h5
  have q1 := neqDoc0
  have hle := fun n ty => (h.below (pw_below_drewN (Below.refl _ W) n)).len ty
  have g7 : decide (8 ≤ L.length) = true := decide_eq_true h6
  have g7' : decide ((8 : Int) ≤ (L.length : Int)) = true := decide_eq_true (by omega)
  clear hB hn h hM h1 h2 h3 h4 h5 h6
  go_enter Try.func35, Try.ntmps35
  go_wp2_with (go_at_call 58; refine (runes_Check.calls (l.length + 9) A c l _ _ _ (Kd.C_below HR.out (by repeat (first | exact Below.refl _ _ | apply below_alloc | apply pw_below_drewN | apply below_drew1))) HC.out HK.out).mono ?_; rintro e w1 ⟨rfl, nc, rfl⟩)
  all_goals
    go_ret
    exact ⟨rfl, (by repeat (first | exact Below.refl _ _ | apply below_alloc | apply pw_below_drewN | apply below_drew1))⟩
end
end Go.Proofs.Ytjebkpcekkkbkaa.B
namespace Go.Proofs.Ytjebkpcekkkbkaa.B
open Go.RowKit Go.Shelf Go.ChangeMaps Go.Proofs Go.Proofs.YtjebkpcekkkbkaaW.PrintWords Go.Proofs.YtjebkpcekkkbkaaW.PrintLast Go.Proofs.YtjebkpcekkkbkaaW.PrintMore Go.Proofs.Ytjebkpcekkkbkaa.FBase
section
variable {W : World} {s m : Nat} {P T : Nat → Prop} {D : DataW Unit} {L : DL} {many : Int}
theorem StAt.count (h : StAt W s m P T D L many) (x : Int) : StAt (W.setCell ⟨s, 1, none⟩ (.int .i64 x)) s m P T D L x := by
  have hot : ∀ k, k ≠ s → (W.setCell ⟨s, 1, none⟩ (.int .i64 x)).heap[k]? = W.heap[k]? := fun k hk => Below.heap_setCell W ⟨s, 1, none⟩ _ k hk
  have hsz : (W.setCell ⟨s, 1, none⟩ (.int .i64 x)).heap.size = W.heap.size := by simp
  exact ⟨(blk_set h.st 1 (.int .i64 x)).trans rfl, owns_same h.mp (hot m (Ne.symm h.ne)), h.rep, fun p hp => (hot _ (h.nes p hp).1).trans (h.docs p hp),
    fun p hp => (h.txts p hp).step (fun _ _ h => h) (by rw [hsz]; exact Nat.le_refl _) (fun k hk ht => hot k (fun e => h.pt k ht (e ▸ h.pP.1))), h.caps, h.ne, h.nes, h.nep, h.pP, h.pt, fun k hk => by rw [hsz]; exact h.lt k hk⟩
theorem open_in {W4 : World} (h : StAt W s m P T D L many) (hb4 : Below W.heap.size W W4) {u : ByteArray} {ver : Int} {l : List Int} {v : Value} {w5 : World} (hb : Below W4.heap.size W4 w5) (hR : Kd.R (Kd.int .u8) 5 w5 W4.heap.size (fun _ => True) v l)
    (hu : u.size ≤ 256) (hB : Bytes l) (hl : l.length ≤ 8192) (hn : lk L (key u) = none) (h8 : L.length < 8) :
    ∃ (A2 : Option Addr) (c2 : Nat) (w6 : World), v = .slice A2 l.length c2 ∧
      (Instr.mapUpdate 84 (.map (some m)) (.string u) (.pointer (some ⟨w5.heap.size, 0, none⟩))).run Try.prog (w5.alloc (.cells #[.int .i64 ver, .int .i64 many, .slice A2 l.length c2] 124)) = .ok () w6 ∧
      ∃ P' T' D', StAt w6 s m P' T' D' ((key u, ⟨w5.heap.size, ver, many, A2, c2, l⟩) :: L) many ∧ Same P W w6 ∧ (∀ k, P' k → P k ∨ W.heap.size ≤ k) ∧ (∀ k, T' k → T k ∨ W.heap.size ≤ k) := by
  obtain ⟨A2, c2, rfl, hcap, hC⟩ := Kd.R_reads hR
  have hfrom := own_from hR
  have hnone := own_none hR
  refine ⟨A2, c2, ?_⟩
  obtain ⟨o, ho⟩ : ∃ o, o = (.cells #[.int .i64 ver, .int .i64 many, .slice A2 l.length c2] 124 : Obj) := ⟨_, rfl⟩
  rw [← ho]
  have h5 := (h.below hb4).below hb
  have b6 := below_alloc (Below.refl w5.heap.size w5) o
  have h6 := h5.below b6
  have hlt := h.lt
  have s4 := hb4.size
  have s5 := hb.size
  have hsz : (w5.alloc o).heap.size = w5.heap.size + 1 := World.size_alloc ..
  obtain ⟨w6, hrun, hown, hturn⟩ := h6.mp.store law_str Try.underlying84 (by unfold maxLen; omega) (key_of u (by unfold maxLen; omega)) (docElem_mk w5.heap.size)
  refine ⟨w6, rfl, hrun, fun k => P k ∨ k = w5.heap.size, fun k => T k ∨ (W4.heap.size ≤ k ∧ k < w5.heap.size), D.put (.string (key u)) (.lit (.int .i64 w5.heap.size)), ?_, ?_, ?_, ?_⟩
  · obtain ⟨es, clock, es', clock', hbm, rfl⟩ := hturn
    have hot : ∀ k, k ≠ m → (setBlock (w5.alloc o) m (.map es' clock')).heap[k]? = (w5.alloc o).heap[k]? := fun k hk => heap_setBlock_other_ _ _ _ _ hk
    have hs2 : (setBlock (w5.alloc o) m (.map es' clock')).heap.size = w5.heap.size + 1 := by rw [← hsz]; simp [setBlock]
    have hrep := h.rep.put (key u) ⟨w5.heap.size, ver, many, A2, c2, l⟩
    have hlen : (rm L (key u)) = L := rm_none hn
    rw [hlen] at hrep
    refine ⟨(hot s h.ne).trans h6.st, owns_less hown (by rw [hrep.size]; exact Nat.le_refl _), hrep, ?_, ?_, ?_, h.ne, ?_, ?_, ?_, ?_, ?_⟩
    · intro p hp
      rcases List.mem_cons.1 hp with rfl | hp
      · refine (hot _ (fun e => ?_)).trans ?_
        · have := h5.lt m (.inl h.pP.2.1); simp only at e; omega
        · have hnew := blk_new w5 o
          rw [ho] at hnew ⊢
          exact hnew
      · exact (hot _ (h.nes p hp).2).trans (h6.docs p hp)
    · intro p hp
      rcases List.mem_cons.1 hp with rfl | hp
      · exact (In.of_from hfrom (T := fun k => W4.heap.size ≤ k ∧ k < w5.heap.size) (fun k h1 h2 => ⟨h1, h2⟩)).step (fun _ _ h => .inr h) (by rw [hs2]; omega) (fun k hk ht => (hot k (fun e => by have := hlt m (.inl h.pP.2.1); omega)).trans (b6.block k hk))
      · exact (h6.txts p hp).step (fun _ _ h => .inl h) (by rw [hs2, hsz]; exact Nat.le_refl _) (fun k hk ht => hot k (fun e => h.pt k ht (e ▸ h.pP.2.1)))
    · intro p hp
      rcases List.mem_cons.1 hp with rfl | hp
      · exact ⟨hcap, hnone, hB, hl, by show (key u).length ≤ 256; rw [show (key u).length = u.size from Array.length_toList]; exact hu⟩
      · exact h.caps p hp
    · intro p hp
      rcases List.mem_cons.1 hp with rfl | hp
      · have h1 := hlt s (.inl h.pP.1); have h2 := hlt m (.inl h.pP.2.1)
        exact ⟨by simp only; omega, by simp only; omega⟩
      · exact h.nes p hp
    · refine List.Pairwise.cons (fun q hq => ?_) h.nep
      have h1 := hlt _ (.inl (h.pP.2.2 q hq))
      simp only; omega
    · refine ⟨.inl h.pP.1, .inl h.pP.2.1, fun p hp => ?_⟩
      rcases List.mem_cons.1 hp with rfl | hp
      · exact .inr rfl
      · exact .inl (h.pP.2.2 p hp)
    · intro k ht hp
      rcases ht with ht | ht
      · rcases hp with hp | hp
        · exact h.pt k ht hp
        · have := hlt k (.inr ht); omega
      · rcases hp with hp | hp
        · have := hlt k (.inl hp); omega
        · omega
    · intro k hk
      rw [hs2]
      rcases hk with (hk | hk) | (hk | hk)
      · have := hlt k (.inl hk); omega
      · omega
      · have := hlt k (.inr hk); omega
      · omega
  · obtain ⟨es, clock, es', clock', hbm, rfl⟩ := hturn
    exact (((Same.of_below hb4).trans (fun k hk => .inl hk) (Same.of_below hb)).trans (fun k hk => .inl hk) (Same.of_below b6)).trans (fun k hk => .inl hk) (Same.block _ h.pP.2.1)
  · rintro k (hk | rfl)
    · exact .inl hk
    · exact .inr (by omega)
  · rintro k (hk | hk)
    · exact .inl hk
    · exact .inr (by omega)
end
section
variable {M : Nat → Prop} {W : World} {s : Nat} {L : DL} {many : Int}
set_option maxRecDepth 100000 in
set_option maxHeartbeats 4000000 in
theorem Open_ok (h : IsStore M W s L many) (u : ByteArray) (ver : Int) (A : Option Addr) (c : Nat) (l : List Int) (hu : u.size ≤ maxLen) (hro : Out M W (fun W => Kd.C (Kd.int .u8) W A l.length l)) (hc : l.length ≤ c) (hn : A = none → c = 0) (hB : Bytes l)
    (h1 : 1 ≤ u.size ∧ u.size ≤ 256) (h2 : 0 ≤ ver ∧ ver ≤ 9007199254740991) (h3 : (chk l).2 = 0) (h4 : l.length ≤ 8192) (h5 : lk L (key u) = none) (h6 : L.length < 8) (hmn : 0 ≤ many ∧ many ≤ 1000000) :
    Calls Try.prog 35 #[.pointer (some ⟨s, 0, none⟩), .string u, .int .i64 ver, .slice A l.length c] W fun e W' => e = .returned (.int .i64 0) ∧
      ∃ M' g A2 c2, IsStore M' W' s ((key u, ⟨g, ver, many + 1, A2, c2, l⟩) :: L) (many + 1) ∧ Grow M M' W W' := by
  obtain ⟨m, P, T, D, h, hM⟩ := h
  have c0 : W.cell? ⟨s, 0, none⟩ = some (.map (some m)) := h.st.cell 0
  have c1 : W.cell? ⟨s, 1, none⟩ = some (.int .i64 many) := h.st.cell 1
  have f1 : W.frozen? ⟨s, 1, none⟩ = false := h.st.frozen 1
  have q0 := eqlMap m
  have hk := Check_F l hB (by omega) (Nat.lt_succ_self _)
  have HK : Aside0 (runes_Check.f (l.length + 9) l = some ((chk l).1, (chk l).2)) := ⟨hk⟩
  have hr := hro.now
  have HR := Aside0.mk hr
  have HRO := Aside0.mk hro
  have HC := Aside0.mk hc
  have hl2 : l.length ≤ 1048576 := by omega
  have hu2 : u.size ≤ 256 := h1.2
  have g1 : decide (u.size < 1) = false := decide_eq_false (by omega)
  have g1' : decide ((u.size : Int) < 1) = false := decide_eq_false (by omega)
  have g2 : decide (256 < u.size) = false := decide_eq_false (by omega)
  have g2' : decide ((256 : Int) < (u.size : Int)) = false := decide_eq_false (by omega)
  have g3 : decide (ver < 0) = false := decide_eq_false (by omega)
  have g4 : decide (9007199254740991 < ver) = false := decide_eq_false (by omega)
  have g5 : ((chk l).2 != 0) = false := by rw [h3]; rfl
  have g6 : decide (8192 < l.length) = false := decide_eq_false (by omega)
  have g6' : decide ((8192 : Int) < (l.length : Int)) = false := decide_eq_false (by omega)
  have hlo := fun n => look1_no (h.below (pw_below_drewN (Below.refl _ W) n)) u hu h5
  have q1 := neqDoc0
  have hle := fun n ty => (h.below (pw_below_drewN (Below.refl _ W) n)).len ty
  have g7 : decide (8 ≤ L.length) = false := decide_eq_false (by omega)
  have g7' : decide ((8 : Int) ≤ (L.length : Int)) = false := decide_eq_false (by omega)
  have g8 : wrap64 (many + 1) = many + 1 := by unfold wrap64; omega
  have H2 : Aside0 (∀ n : Nat, StAt ((W.drewN n).setCell ⟨s, 1, none⟩ (.int .i64 (many + 1))) s m P T D L (many + 1)) := ⟨fun n => (h.below (pw_below_drewN (Below.refl _ W) n)).count _⟩
  have hPM : ∀ k, P k → M k := fun k hk => (hM k).2 (.inl hk)
  have HB2 : Aside0 (∀ n : Nat, Same P W ((W.drewN n).setCell ⟨s, 1, none⟩ (.int .i64 (many + 1)))) := ⟨fun n => (Same.of_below (pw_below_drewN (Below.refl _ W) n)).trans (fun k hk => .inl hk) (Same.cell _ h.pP.1)⟩
  have hP0 := h.pP.1
  clear hk hr hc h3 h hro
  go_enter Try.func35, Try.ntmps35
  go_upto_region 17 with (go_at_call 58; refine (runes_Check.calls (l.length + 9) A c l _ _ _ (Kd.C_below HR.out (by repeat (first | exact Below.refl _ _ | apply below_alloc | apply pw_below_drewN | apply below_drew1))) HC.out HK.out).mono ?_; rintro e w1 ⟨rfl, nc, rfl⟩)
  have H3 := Aside0.mk (H2.out nc)
  have HB3 := Aside0.mk (HB2.out nc)
  clear H2 HB2 c0 c1 f1 hlo q1 hle g7 g7' g6 g6' g5 g4 g3 g2 g2' g1 g1' g8
  generalize (W.drewN nc).setCell ⟨s, 1, none⟩ (.int .i64 (many + 1)) = W2 at H3 HB3 ⊢
  have HR2 := Aside0.mk (HRO.out W2 (HB3.out.mono hPM))
  have H2 := H3
  clear HR HRO
  have c0 : W2.cell? ⟨s, 0, none⟩ = some (.map (some m)) := H3.out.st.cell 0
  have c1 : W2.cell? ⟨s, 1, none⟩ = some (.int .i64 (many + 1)) := H3.out.st.cell 1
  go_region_held3 (fun wx => wx.cell? ⟨s, 0, none⟩ = some (.map (some m)) ∧ wx.cell? ⟨s, 1, none⟩ = some (.int .i64 (many + 1))) (go_keep) (first | (go_at_call 61; refine (Clone_ok A c l _ (Kd.C_below (HR2.out) (by repeat (first | exact Below.refl _ _ | apply below_alloc | apply pw_below_drewN | apply below_drew1))) HC.out hn hl2).mono ?_; rintro e w5 ⟨v, rfl, hR, hb⟩; have hx := (H2.out.below (by repeat (first | exact Below.refl _ _ | apply below_alloc | apply pw_below_drewN | apply below_drew1))).below hb; have d0 := hx.st.cell 0; have d1 := hx.st.cell 1; clear hx; have h5 := open_in H2.out (by repeat (first | exact Below.refl _ _ | apply below_alloc | apply pw_below_drewN | apply below_drew1)) hb hR hu2 hB h4 h5 h6 (ver := ver); clear hb hR; obtain ⟨A2, c2, w6, rfl, hupd, hP⟩ := h5; have HP := Aside0.mk hP; obtain ⟨P9, T9, D9, hS9, -⟩ := hP; have x0 := hS9.st.cell 0; have x1 := hS9.st.cell 1; clear hS9))
  go_wp2
  go_ret
  obtain ⟨P', T', D', hS, hsame, h7, h8⟩ := HP.out
  have hz := HB3.out.size
  refine ⟨rfl, fun k => P' k ∨ T' k, _, A2, c2, ⟨m, P', T', D', hS, fun k => Iff.rfl⟩, ⟨(HB3.out.trans (fun k hk => .inl hk) hsame).mono hPM, fun k hk => ?_⟩⟩
  rcases hk with hk | hk
  · rcases h7 k hk with h9 | h9
    · exact .inl ((hM k).2 (.inl h9))
    · exact .inr (by omega)
  · rcases h8 k hk with h9 | h9
    · exact .inl ((hM k).2 (.inr h9))
    · exact .inr (by omega)
end
end Go.Proofs.Ytjebkpcekkkbkaa.B
namespace Go.Proofs.Ytjebkpcekkkbkaa.B
open Go.RowKit Go.Shelf Go.ChangeMaps Go.Proofs Go.Proofs.YtjebkpcekkkbkaaW.PrintWords Go.Proofs.YtjebkpcekkkbkaaW.PrintLast Go.Proofs.YtjebkpcekkkbkaaW.PrintMore Go.Proofs.Ytjebkpcekkkbkaa.FBase
def lver (L : DL) (k : List UInt8) : Int := match lk L k with | some d => d.ver | none => 0
def lser (L : DL) (k : List UInt8) : Int := match lk L k with | some d => d.ser | none => 0
def lcode (L : DL) (k : List UInt8) : Int := match lk L k with | some d => 0 | none => 161
def ltxt (L : DL) (k : List UInt8) : List Int := match lk L k with | some d => d.txt | none => []
section
variable {M : Nat → Prop} {W : World} {s : Nat} {L : DL} {many : Int}
theorem doc_at (h : IsStore M W s L many) {k : List UInt8} {d : Dc} (hd : lk L k = some d) :
    W.cell? ⟨d.g, 0, none⟩ = some (.int .i64 d.ver) ∧ W.cell? ⟨d.g, 1, none⟩ = some (.int .i64 d.ser) ∧ W.cell? ⟨d.g, 2, none⟩ = some (.slice d.A d.txt.length d.c) ∧ Kd.C (Kd.int .u8) W d.A d.txt.length d.txt ∧
    d.txt.length ≤ d.c ∧ (d.A = none → d.c = 0) ∧ Bytes d.txt ∧ d.txt.length ≤ 8192 := by
  obtain ⟨m, P, T, D, h, hM⟩ := h
  have hm := lk_mem hd
  have hc := h.caps _ hm
  exact ⟨(h.docs _ hm).cell 0, (h.docs _ hm).cell 1, (h.docs _ hm).cell 2, (h.txts _ hm).now, hc.1, hc.2.1, hc.2.2.1, hc.2.2.2.1⟩
set_option maxRecDepth 100000 in
set_option maxHeartbeats 4000000 in
theorem Version_is (h : IsStore M W s L many) (u : ByteArray) (hu : u.size ≤ maxLen) :
    Calls Try.prog 44 #[.pointer (some ⟨s, 0, none⟩), .string u] W fun e W' => e = .returned (.tuple #[.int .i64 (lver L (key u)), .int .i64 (lcode L (key u))]) ∧ Below W.heap.size W W' := by
  have H := Aside0.mk h
  unfold lver lcode
  cases hd : lk L (key u) with
  | some d =>
    have HD := Aside0.mk hd
    clear h hd
    go_enter Try.func44, Try.ntmps44
    go_wp2_with (go_at_call 72; refine (doc_yes H.out u hu d HD.out).mono ?_; rintro e w1 ⟨rfl, hb⟩; have hd1 := doc_at (H.out.below hb) HD.out; have c0 := hd1.1; have c1 := hd1.2.1; have c2 := hd1.2.2.1; have HC2 := Aside0.mk hd1.2.2.2.1; have HB := Aside0.mk hb; clear hd1 hb)
    go_ret2
    exact ⟨rfl, HB.out⟩
  | none =>
    have HD := Aside0.mk hd
    clear h hd
    go_enter Try.func44, Try.ntmps44
    go_wp2_with (go_at_call 72; refine (doc_no H.out u hu HD.out).mono ?_; rintro e w1 ⟨g, rfl, hg, hb⟩; have c0 := hg.cell 0; have c1 := hg.cell 1; have c2 := hg.cell 2; have HB := Aside0.mk hb; clear hg hb)
    go_ret2
    exact ⟨rfl, HB.out⟩
set_option maxRecDepth 100000 in
set_option maxHeartbeats 4000000 in
theorem Serial_is (h : IsStore M W s L many) (u : ByteArray) (hu : u.size ≤ maxLen) :
    Calls Try.prog 46 #[.pointer (some ⟨s, 0, none⟩), .string u] W fun e W' => e = .returned (.tuple #[.int .i64 (lser L (key u)), .int .i64 (lcode L (key u))]) ∧ Below W.heap.size W W' := by
  have H := Aside0.mk h
  unfold lser lcode
  cases hd : lk L (key u) with
  | some d =>
    have HD := Aside0.mk hd
    clear h hd
    go_enter Try.func46, Try.ntmps46
    go_wp2_with (go_at_call 72; refine (doc_yes H.out u hu d HD.out).mono ?_; rintro e w1 ⟨rfl, hb⟩; have hd1 := doc_at (H.out.below hb) HD.out; have c0 := hd1.1; have c1 := hd1.2.1; have c2 := hd1.2.2.1; have HC2 := Aside0.mk hd1.2.2.2.1; have HB := Aside0.mk hb; clear hd1 hb)
    go_ret2
    exact ⟨rfl, HB.out⟩
  | none =>
    have HD := Aside0.mk hd
    clear h hd
    go_enter Try.func46, Try.ntmps46
    go_wp2_with (go_at_call 72; refine (doc_no H.out u hu HD.out).mono ?_; rintro e w1 ⟨g, rfl, hg, hb⟩; have c0 := hg.cell 0; have c1 := hg.cell 1; have c2 := hg.cell 2; have HB := Aside0.mk hb; clear hg hb)
    go_ret2
    exact ⟨rfl, HB.out⟩
set_option maxRecDepth 100000 in
set_option maxHeartbeats 4000000 in
theorem Text_is (h : IsStore M W s L many) (u : ByteArray) (hu : u.size ≤ maxLen) :
    Calls Try.prog 47 #[.pointer (some ⟨s, 0, none⟩), .string u] W fun e W' => ∃ v : Value, e = .returned (.tuple #[v, .int .i64 (lcode L (key u))]) ∧ Kd.R (Kd.int .u8) 5 W' W.heap.size (fun _ => True) v (ltxt L (key u)) ∧ Below W.heap.size W W' := by
  have H := Aside0.mk h
  unfold ltxt lcode
  cases hd : lk L (key u) with
  | some d =>
    obtain ⟨-, -, -, -, hcp, hn, -, hl⟩ := doc_at h hd
    have HD := Aside0.mk hd
    have HCP := Aside0.mk hcp
    have hl : d.txt.length ≤ 1048576 := by omega
    clear h hd hcp
    go_enter Try.func47, Try.ntmps47
    go_wp2_with (first | (go_at_call 72; refine (doc_yes H.out u hu d HD.out).mono ?_; rintro e w1 ⟨rfl, hb⟩; have hd1 := doc_at (H.out.below hb) HD.out; have c0 := hd1.1; have c1 := hd1.2.1; have c2 := hd1.2.2.1; have HC2 := Aside0.mk hd1.2.2.2.1; have HB := Aside0.mk hb; clear hd1 hb) | (go_at_call 61; refine (Clone_ok d.A d.c d.txt _ (Kd.C_below HC2.out (by repeat (first | exact Below.refl _ _ | apply below_alloc | apply pw_below_drewN | apply below_drew1))) HCP.out hn hl).mono ?_; rintro e w2 ⟨v, rfl, hR, hb⟩; have HR := Aside0.mk hR; have HB2 := Aside0.mk hb; clear hR hb))
    go_ret2
    exact ⟨_, rfl, Kd.R_lower HR.out HB.out.size, below_step HB.out HB2.out⟩
  | none =>
    have HD := Aside0.mk hd
    clear h hd
    go_enter Try.func47, Try.ntmps47
    go_wp2_with (first | (go_at_call 72; refine (doc_no H.out u hu HD.out).mono ?_; rintro e w1 ⟨g, rfl, hg, hb⟩; have c0 := hg.cell 0; have c1 := hg.cell 1; have c2 := hg.cell 2; have HB := Aside0.mk hb; clear hg hb) | (go_at_call 61; refine (Clone_ok none 0 [] _ (Kd.C_nil _ _) (Nat.zero_le _) (fun _ => rfl) (by decide)).mono ?_; rintro e w2 ⟨v, rfl, hR, hb⟩; have HR := Aside0.mk hR; have HB2 := Aside0.mk hb; clear hR hb))
    go_ret2
    exact ⟨_, rfl, Kd.R_lower HR.out HB.out.size, below_step HB.out HB2.out⟩
theorem close_in {m : Nat} {P T : Nat → Prop} {D : DataW Unit} (h : StAt W s m P T D L many) {u : ByteArray} (hu : u.size ≤ maxLen) {d : Dc} (hd : lk L (key u) = some d) :
    ∃ w6, (Builtin.delete_ #[84, 9] 0 #[.map (some m), .string u]).run Try.prog W = .ok (.tuple #[]) w6 ∧ StAt w6 s m P T (D.del (.string (key u))) (rm L (key u)) many ∧ Same P W w6 := by
  obtain ⟨w6, hrun, hown, hturn⟩ := h.mp.drop law_str Try.underlying84 (key_of u hu) 0
  refine ⟨w6, hrun, ?_, ?_⟩
  · obtain ⟨es, clock, es', clock', hbm, rfl⟩ := hturn
    have hot : ∀ k, k ≠ m → (setBlock W m (.map es' clock')).heap[k]? = W.heap[k]? := fun k hk => heap_setBlock_other_ _ _ _ _ hk
    have hs2 : (setBlock W m (.map es' clock')).heap.size = W.heap.size := by simp [setBlock]
    have hrep := h.rep.del (key u)
    exact ⟨(hot s h.ne).trans h.st, owns_less hown (by rw [hrep.size]; exact Nat.le_refl _), hrep, fun p hp => (hot _ (h.nes p (rm_mem hp)).2).trans (h.docs p (rm_mem hp)),
      fun p hp => (h.txts p (rm_mem hp)).step (fun _ _ h => h) (by rw [hs2]; exact Nat.le_refl _) (fun k hk ht => hot k (fun e => h.pt k ht (e ▸ h.pP.2.1))), fun p hp => h.caps p (rm_mem hp), h.ne, fun p hp => h.nes p (rm_mem hp), h.nep.sublist List.filter_sublist,
      ⟨h.pP.1, h.pP.2.1, fun p hp => h.pP.2.2 p (rm_mem hp)⟩, h.pt, fun k hk => by rw [hs2]; exact h.lt k hk⟩
  · obtain ⟨es, clock, es', clock', hbm, rfl⟩ := hturn
    exact Same.block _ h.pP.2.1
theorem IsStore.ofSame {M : Nat → Prop} {W' : World} {s : Nat} {L' : DL} {many : Int} {m : Nat} {P T : Nat → Prop} {D : DataW Unit} (hM : ∀ k, M k ↔ P k ∨ T k) (h : StAt W' s m P T D L' many) : IsStore M W' s L' many := ⟨m, P, T, D, h, hM⟩
set_option maxRecDepth 100000 in
set_option maxHeartbeats 4000000 in
theorem Close_yes (h : IsStore M W s L many) (u : ByteArray) (hu : u.size ≤ maxLen) (d : Dc) (hd : lk L (key u) = some d) :
    Calls Try.prog 39 #[.pointer (some ⟨s, 0, none⟩), .string u] W fun e W' => e = .returned (.int .i64 0) ∧ IsStore M W' s (rm L (key u)) many ∧ Grow M M W W' := by
  have H := Aside0.mk h
  have HD := Aside0.mk hd
  clear h hd
  go_enter Try.func39, Try.ntmps39
  go_wp2_with (go_at_call 72; refine (doc_yes H.out u hu d HD.out).mono ?_; rintro e w1 ⟨rfl, hb⟩; have h1 := H.out.below hb; obtain ⟨m, P, T, D, h1, hM⟩ := h1; have c0 := h1.st.cell 0; obtain ⟨w6, hrun, hS⟩ := close_in h1 hu HD.out; have HS := Aside0.mk hS; have HM := Aside0.mk hM; have HB := Aside0.mk hb; clear h1 hb hS hM)
  go_ret
  have hM := HM.out
  exact ⟨rfl, IsStore.ofSame hM HS.out.1, ⟨(Same.of_below HB.out).trans (fun k hk => .inl hk) (HS.out.2.mono fun k hk => (hM k).2 (.inl hk)), fun k hk => .inl hk⟩⟩
set_option maxRecDepth 100000 in
set_option maxHeartbeats 4000000 in
theorem Close_no (h : IsStore M W s L many) (u : ByteArray) (hu : u.size ≤ maxLen) (hd : lk L (key u) = none) :
    Calls Try.prog 39 #[.pointer (some ⟨s, 0, none⟩), .string u] W fun e W' => e = .returned (.int .i64 161) ∧ Below W.heap.size W W' := by
  have H := Aside0.mk h
  have HD := Aside0.mk hd
  clear h hd
  go_enter Try.func39, Try.ntmps39
  go_wp2_with (go_at_call 72; refine (doc_no H.out u hu HD.out).mono ?_; rintro e w1 ⟨g, rfl, hg, hb⟩; have c0 := hg.cell 0; have c1 := hg.cell 1; have c2 := hg.cell 2; have HB := Aside0.mk hb; clear hg hb)
  go_ret
  exact ⟨rfl, HB.out⟩
end
end Go.Proofs.Ytjebkpcekkkbkaa.B
namespace Go.Proofs.Ytjebkpcekkkbkaa.B
open Go.RowKit Go.Shelf Go.Proofs Go.Proofs.YtjebkpcekkkbkaaW.PrintWords Go.Proofs.YtjebkpcekkkbkaaW.PrintLast Go.Proofs.YtjebkpcekkkbkaaW.PrintMore Go.Proofs.Ytjebkpcekkkbkaa.FBase
theorem cut_hm (W : World) (A : Option Addr) (c : Nat) (l : List Int) (x1 : Int) (hC : Kd.C (Kd.int .u8) W A l.length l) (hc : l.length ≤ c) (h0 : 0 ≤ x1) (h2 : x1 ≤ l.length) :
    (∀ W1 : World, (Instr.slice 22 (.slice A l.length c) none (some (.int .i64 x1)) (some (.int .i64 x1))).run Try.prog W1 = .ok (.slice A (l.take x1.toNat).length (l.take x1.toNat).length) W1) ∧
      Kd.C (Kd.int .u8) W A (l.take x1.toNat).length (l.take x1.toNat) := by
  obtain ⟨i0, hi0, _, hsz, _⟩ := info_parts info5
  have hml : (l.take x1.toNat).length = x1.toNat := by rw [List.length_take]; omega
  refine ⟨fun W1 => ?_, Kd.C_take hC (m := x1.toNat) (by omega)⟩
  have hel : Try.prog.elem 22 = 5 := by simp [Program.elem, Try.underlying22]
  have hu : Try.prog.underlying 22 = some (.slice (Try.prog.elem 22)) := by rw [hel]; exact Try.underlying22
  have ha : (A.map fun x => x.add 0) = A := by cases A <;> simp [Addr.add]
  rw [run_slice_hm W1 22 A l.length c hu .i64 .i64 x1 x1 h0 (Int.le_refl _) (by omega), hel, hml]
  simp [sizeOf, typeInfo, hi0, sliced, Result.andThen, ha]
theorem cut_suf (W : World) (A : Option Addr) (c : Nat) (l : List Int) (x0 : Int) (hC : Kd.C (Kd.int .u8) W A l.length l) (hc : l.length ≤ c) (h0 : 0 ≤ x0) (h2 : x0 ≤ l.length) :
    ∃ B d, (∀ W1 : World, (Instr.slice 22 (.slice A l.length c) (some (.int .i64 x0)) none none).run Try.prog W1 = .ok (.slice B (l.drop x0.toNat).length d) W1) ∧
      Kd.C (Kd.int .u8) W B (l.drop x0.toNat).length (l.drop x0.toNat) ∧ (l.drop x0.toNat).length ≤ d := by
  obtain ⟨i0, hi0, _, hsz, _⟩ := info_parts info5
  have hcut := cut_from (P := Try.prog) 22 5 .i64 Try.underlying22 hi0 1 hsz A l.length c x0 h0 h2
  have hmid := Kd.C_mid hC (lo := x0.toNat) (hi := l.length) (by omega) (by omega) hc
  have hml : (l.drop x0.toNat).length = l.length - x0.toNat := by rw [List.length_drop]
  rw [List.take_length] at hmid
  refine ⟨_, c - x0.toNat, fun W1 => ?_, by rw [hml]; rw [hml] at hmid; exact hmid, ?_⟩
  · rw [hml]; exact hcut W1
  · rw [hml]; omega
set_option maxRecDepth 100000 in
set_option maxHeartbeats 4000000 in
theorem joined_ok (A : Option Addr) (c : Nat) (l : List Int) (x0 x1 : Int) (s : ByteArray) (w : World) (hr : Kd.C (Kd.int .u8) w A l.length l) (hc : l.length ≤ c) (h0 : 0 ≤ x0) (h1 : x0 ≤ x1) (h2 : x1 ≤ l.length) (hs : l.length + s.size ≤ 140737488355328) :
    Calls Try.prog 86 #[.slice A l.length c, .agg #[.int .i64 x0, .int .i64 x1], .string s] w fun e w' => ∃ v : Value, e = .returned v ∧ Kd.R (Kd.int .u8) 5 w' w.heap.size (fun _ => True) v (l.take x0.toNat ++ bytesOf s ++ l.drop x1.toNat) ∧ Below w.heap.size w w' := by
  have hrb : Kd.C (Kd.int .u8) (w.alloc (.cells #[.int .i64 x0, .int .i64 x1] 44)) A l.length l := Kd.C_below hr (below_alloc (Below.refl _ _) _)
  have c0 : (w.alloc (.cells #[.int .i64 x0, .int .i64 x1] 44)).cell? ⟨w.heap.size, 0, none⟩ = some (.int .i64 x0) := (blk_cell (blk_new w _) 0).trans rfl
  have c1 : (w.alloc (.cells #[.int .i64 x0, .int .i64 x1] 44)).cell? ⟨w.heap.size, 1, none⟩ = some (.int .i64 x1) := (blk_cell (blk_new w _) 1).trans rfl
  obtain ⟨E1, hC1⟩ := cut_hm _ A c l x0 hrb hc h0 (by omega)
  obtain ⟨B, d, E2, hC2, hd2⟩ := cut_suf _ A c l x1 hrb hc (by omega) h2
  have k1 : (l.take x0.toNat).length ≤ l.length := by rw [List.length_take]; omega
  have k2 : (l.take x0.toNat).length + (l.drop x1.toNat).length ≤ l.length := by rw [List.length_take, List.length_drop]; omega
  generalize l.take x0.toNat = hd at *
  generalize l.drop x1.toNat = tl at *
  have HL1 : Aside0 (hd.length + s.size ≤ 140737488355328) := ⟨by omega⟩
  have HL2 : Aside0 ((hd ++ bytesOf s).length + tl.length ≤ 140737488355328) := ⟨by rw [List.length_append, bytesOf_length]; omega⟩
  obtain ⟨out, hout⟩ : ∃ out, hd ++ bytesOf s ++ tl = out := ⟨_, rfl⟩
  have HLO : Aside0 (out.length ≤ 140737488355328) := ⟨by rw [← hout, List.length_append]; exact HL2.out⟩
  rw [hout]
  have HOUT := Aside0.mk hout
  have HC1 := Aside0.mk hC1
  have HC2 := Aside0.mk hC2
  clear hout hC1 hC2 hr hrb k1 k2 hd2
  go_enter Try.func86, Try.ntmps86
  go_wp2_with (first | ((with_reducible refine gate_builtin (b := .append) (xs := #[.tmp 13, .tmp 14]) rfl ?_); at_builtin; refine ap_append_str (w0 := (w.alloc (.cells #[.int .i64 x0, .int .i64 x1] 44))) (w.alloc (.cells #[.int .i64 x0, .int .i64 x1] 44)).heap.size rfl (.tmp 13) (.tmp 14) 22 9 5 rfl Try.underlying22 Try.underlying9 info5 _ hd s rfl rfl ?bO ?bB ?bS ?bL ?_; (case bO => exact Ap.full _ HC1.out); (case bB => exact Below.refl _ _); (case bS => exact Nat.le_refl _); (case bL => exact HL1.out); intro v1 w1 hA hb hsz; have HA1 := Aside0.mk hA; have HB1 := Aside0.mk hb; have c0' : w1.cell? ⟨w.heap.size, 0, none⟩ = some (.int .i64 x0) := cell_below c0 hb; have c1' : w1.cell? ⟨w.heap.size, 1, none⟩ = some (.int .i64 x1) := cell_below c1 hb; clear hA hb hsz) | ((with_reducible refine gate_builtin (b := .append) (xs := #[.tmp 16, .tmp 20]) rfl ?_); at_builtin; refine ap_append (w0 := (w.alloc (.cells #[.int .i64 x0, .int .i64 x1] 44))) (w.alloc (.cells #[.int .i64 x0, .int .i64 x1] 44)).heap.size rfl (.tmp 16) (.tmp 20) 22 5 rfl Try.underlying22 info5 v1 (hd ++ bytesOf s) tl B tl.length d rfl rfl rfl HA1.out ?eR HB1.out HB1.out.size ?eL ?_; (case eR => exact Kd.C_below HC2.out HB1.out); (case eL => exact HL2.out); intro v2 w2 hA hb hsz; rw [HOUT.out] at hA; obtain ⟨A3, c3, rfl, hl3, hn3, hC3⟩ := hA.read; have HB2 := Aside0.mk hb; have HC3 := Aside0.mk hC3; have HL3 := Aside0.mk hl3; have HN3 := Aside0.mk hn3; clear hA hb hsz hl3 hn3 hC3) | (go_at_call 63; refine (BClone_ok A3 c3 out _ HC3.out HL3.out HN3.out HLO.out).mono ?_; rintro e w3 ⟨v3, rfl, hR, hb⟩; have HR3 := Aside0.mk hR; have HB3 := Aside0.mk hb; clear hR hb))
  go_ret
  have hB2 : Below w.heap.size w w2 := below_step (below_alloc (Below.refl _ _) _) HB2.out
  exact ⟨_, rfl, Kd.R_lower HR3.out hB2.size, below_step hB2 HB3.out⟩
set_option maxRecDepth 100000 in
set_option maxHeartbeats 1000000 in
theorem MSpan_e1 (p : Option Addr) (x0 x1 x2 x3 va ea : Int) (w : World) (h1 : ∀ W, Below w.heap.size w W → Calls Try.prog 62 #[.pointer p, .agg #[.int .i64 x0, .int .i64 x1]] W fun e W' => e = .returned (.tuple #[.int .i64 va, .int .i64 ea]) ∧ Below W.heap.size W W') (hz : ea ≠ 0) : Calls Try.prog 26 #[.pointer p, .agg #[.int .i64 x0, .int .i64 x1, .int .i64 x2, .int .i64 x3]] w fun e w' => e = .returned (.tuple #[.agg #[.int .i64 0, .int .i64 0], .int .i64 ea]) ∧ Below w.heap.size w w' := by
  have hb1 := below_alloc (Below.refl _ w) (.cells #[.int .i64 x0, .int .i64 x1, .int .i64 x2, .int .i64 x3] 27)
  have hb2 : Below (w.alloc (.cells #[.int .i64 x0, .int .i64 x1, .int .i64 x2, .int .i64 x3] 27)).heap.size (w.alloc (.cells #[.int .i64 x0, .int .i64 x1, .int .i64 x2, .int .i64 x3] 27)) ((w.alloc (.cells #[.int .i64 x0, .int .i64 x1, .int .i64 x2, .int .i64 x3] 27)).alloc (.cells #[.int .i64 0, .int .i64 0] 44)) := below_alloc (Below.refl _ _) _
  have hg : IsBlk ((w.alloc (.cells #[.int .i64 x0, .int .i64 x1, .int .i64 x2, .int .i64 x3] 27)).alloc (.cells #[.int .i64 0, .int .i64 0] 44)) (w.alloc (.cells #[.int .i64 x0, .int .i64 x1, .int .i64 x2, .int .i64 x3] 27)).heap.size (.cells #[.int .i64 0, .int .i64 0] 44) := blk_new _ _
  rw [World.size_alloc] at hg
  have HS : Aside0 (Sta w ((w.alloc (.cells #[.int .i64 x0, .int .i64 x1, .int .i64 x2, .int .i64 x3] 27)).alloc (.cells #[.int .i64 0, .int .i64 0] 44)) (fun W => IsBlk W w.heap.size (.cells #[.int .i64 x0, .int .i64 x1, .int .i64 x2, .int .i64 x3] 27) ∧ IsBlk W (w.heap.size + 1) (.cells #[.int .i64 0, .int .i64 0] 44))) := ⟨⟨below_step hb1 hb2, ⟨IsBlk.below (blk_new w _) hb2, hg⟩, keeps_and (keeps_blk _ _) (keeps_blk _ _)⟩⟩
  clear hb1 hb2 hg
  have n1 := blk_lt HS.out.now.1
  have n2 := blk_lt HS.out.now.2
  have c0 : ((w.alloc (.cells #[.int .i64 x0, .int .i64 x1, .int .i64 x2, .int .i64 x3] 27)).alloc (.cells #[.int .i64 0, .int .i64 0] 44)).cell? ⟨w.heap.size, 0, none⟩ = some (.int .i64 x0) := HS.out.now.1.cell 0
  have c1 : ((w.alloc (.cells #[.int .i64 x0, .int .i64 x1, .int .i64 x2, .int .i64 x3] 27)).alloc (.cells #[.int .i64 0, .int .i64 0] 44)).cell? ⟨w.heap.size, 1, none⟩ = some (.int .i64 x1) := HS.out.now.1.cell 1
  have c2 : ((w.alloc (.cells #[.int .i64 x0, .int .i64 x1, .int .i64 x2, .int .i64 x3] 27)).alloc (.cells #[.int .i64 0, .int .i64 0] 44)).cell? ⟨w.heap.size, 2, none⟩ = some (.int .i64 x2) := HS.out.now.1.cell 2
  have c3 : ((w.alloc (.cells #[.int .i64 x0, .int .i64 x1, .int .i64 x2, .int .i64 x3] 27)).alloc (.cells #[.int .i64 0, .int .i64 0] 44)).cell? ⟨w.heap.size, 3, none⟩ = some (.int .i64 x3) := HS.out.now.1.cell 3
  have k0 : ((w.alloc (.cells #[.int .i64 x0, .int .i64 x1, .int .i64 x2, .int .i64 x3] 27)).alloc (.cells #[.int .i64 0, .int .i64 0] 44)).cell? ⟨w.heap.size + 1, 0, none⟩ = some (.int .i64 0) := HS.out.now.2.cell 0
  have f0 := HS.out.now.2.frozen 0
  have k1 : ((w.alloc (.cells #[.int .i64 x0, .int .i64 x1, .int .i64 x2, .int .i64 x3] 27)).alloc (.cells #[.int .i64 0, .int .i64 0] 44)).cell? ⟨w.heap.size + 1, 1, none⟩ = some (.int .i64 0) := HS.out.now.2.cell 1
  have f1 := HS.out.now.2.frozen 1
  have H1 := Aside0.mk h1
  clear h1
  have hz1 : (ea != 0) = true := bne_iff_ne.mpr hz
  clear hz
  have t1 := True.intro
  have t2 := True.intro
  go_enter Try.func26, Try.ntmps26
  go_wp2_with (have _t := t1; go_at_call 62; refine (H1.out _ (HS.out.step (by repeat (first | exact Below.refl _ _ | apply below_alloc | apply pw_below_drewN | apply below_drew1))).bel).mono ?_; rintro e w1 ⟨rfl, hb⟩; have m_ := Aside0.mk (HS.out.call (by repeat (first | exact Below.refl _ _ | apply below_alloc | apply pw_below_drewN | apply below_drew1)) hb); clear HS hb; have HS := m_; clear m_; have n1 := blk_lt HS.out.now.1; have n2 := blk_lt HS.out.now.2; have c0 : w1.cell? ⟨w.heap.size, 0, none⟩ = some (.int .i64 x0) := HS.out.now.1.cell 0; have c1 : w1.cell? ⟨w.heap.size, 1, none⟩ = some (.int .i64 x1) := HS.out.now.1.cell 1; have c2 : w1.cell? ⟨w.heap.size, 2, none⟩ = some (.int .i64 x2) := HS.out.now.1.cell 2; have c3 : w1.cell? ⟨w.heap.size, 3, none⟩ = some (.int .i64 x3) := HS.out.now.1.cell 3; have k0 : w1.cell? ⟨w.heap.size + 1, 0, none⟩ = some (.int .i64 0) := HS.out.now.2.cell 0; have f0 := HS.out.now.2.frozen 0; have k1 : w1.cell? ⟨w.heap.size + 1, 1, none⟩ = some (.int .i64 0) := HS.out.now.2.cell 1; have f1 := HS.out.now.2.frozen 1; clear t1 _t)
  all_goals try (go_step3; go_wp2)
  first | rw [Exit.noGoto_ret] | skip
  refine bodyPost_ret (v := .tuple #[.agg #[.int .i64 0, .int .i64 0], .int .i64 ea]) (by simp [results, Try.results26, go_sem, *]) rfl ⟨rfl, ?_⟩
  have hS := HS.out.bel
  repeat (first | exact hS | apply below_alloc | apply pw_below_drewN | apply below_drew1 | refine Below.setCell ?_ (by simp) _)
set_option maxRecDepth 100000 in
set_option maxHeartbeats 1000000 in
theorem MSpan_e2 (p : Option Addr) (x0 x1 x2 x3 va vb eb : Int) (w : World) (h1 : ∀ W, Below w.heap.size w W → Calls Try.prog 62 #[.pointer p, .agg #[.int .i64 x0, .int .i64 x1]] W fun e W' => e = .returned (.tuple #[.int .i64 va, .int .i64 0]) ∧ Below W.heap.size W W') (h2 : ∀ W, Below w.heap.size w W → Calls Try.prog 62 #[.pointer p, .agg #[.int .i64 x2, .int .i64 x3]] W fun e W' => e = .returned (.tuple #[.int .i64 vb, .int .i64 eb]) ∧ Below W.heap.size W W') (hz : eb ≠ 0) : Calls Try.prog 26 #[.pointer p, .agg #[.int .i64 x0, .int .i64 x1, .int .i64 x2, .int .i64 x3]] w fun e w' => e = .returned (.tuple #[.agg #[.int .i64 0, .int .i64 0], .int .i64 eb]) ∧ Below w.heap.size w w' := by
  have hb1 := below_alloc (Below.refl _ w) (.cells #[.int .i64 x0, .int .i64 x1, .int .i64 x2, .int .i64 x3] 27)
  have hb2 : Below (w.alloc (.cells #[.int .i64 x0, .int .i64 x1, .int .i64 x2, .int .i64 x3] 27)).heap.size (w.alloc (.cells #[.int .i64 x0, .int .i64 x1, .int .i64 x2, .int .i64 x3] 27)) ((w.alloc (.cells #[.int .i64 x0, .int .i64 x1, .int .i64 x2, .int .i64 x3] 27)).alloc (.cells #[.int .i64 0, .int .i64 0] 44)) := below_alloc (Below.refl _ _) _
  have hg : IsBlk ((w.alloc (.cells #[.int .i64 x0, .int .i64 x1, .int .i64 x2, .int .i64 x3] 27)).alloc (.cells #[.int .i64 0, .int .i64 0] 44)) (w.alloc (.cells #[.int .i64 x0, .int .i64 x1, .int .i64 x2, .int .i64 x3] 27)).heap.size (.cells #[.int .i64 0, .int .i64 0] 44) := blk_new _ _
  rw [World.size_alloc] at hg
  have HS : Aside0 (Sta w ((w.alloc (.cells #[.int .i64 x0, .int .i64 x1, .int .i64 x2, .int .i64 x3] 27)).alloc (.cells #[.int .i64 0, .int .i64 0] 44)) (fun W => IsBlk W w.heap.size (.cells #[.int .i64 x0, .int .i64 x1, .int .i64 x2, .int .i64 x3] 27) ∧ IsBlk W (w.heap.size + 1) (.cells #[.int .i64 0, .int .i64 0] 44))) := ⟨⟨below_step hb1 hb2, ⟨IsBlk.below (blk_new w _) hb2, hg⟩, keeps_and (keeps_blk _ _) (keeps_blk _ _)⟩⟩
  clear hb1 hb2 hg
  have n1 := blk_lt HS.out.now.1
  have n2 := blk_lt HS.out.now.2
  have c0 : ((w.alloc (.cells #[.int .i64 x0, .int .i64 x1, .int .i64 x2, .int .i64 x3] 27)).alloc (.cells #[.int .i64 0, .int .i64 0] 44)).cell? ⟨w.heap.size, 0, none⟩ = some (.int .i64 x0) := HS.out.now.1.cell 0
  have c1 : ((w.alloc (.cells #[.int .i64 x0, .int .i64 x1, .int .i64 x2, .int .i64 x3] 27)).alloc (.cells #[.int .i64 0, .int .i64 0] 44)).cell? ⟨w.heap.size, 1, none⟩ = some (.int .i64 x1) := HS.out.now.1.cell 1
  have c2 : ((w.alloc (.cells #[.int .i64 x0, .int .i64 x1, .int .i64 x2, .int .i64 x3] 27)).alloc (.cells #[.int .i64 0, .int .i64 0] 44)).cell? ⟨w.heap.size, 2, none⟩ = some (.int .i64 x2) := HS.out.now.1.cell 2
  have c3 : ((w.alloc (.cells #[.int .i64 x0, .int .i64 x1, .int .i64 x2, .int .i64 x3] 27)).alloc (.cells #[.int .i64 0, .int .i64 0] 44)).cell? ⟨w.heap.size, 3, none⟩ = some (.int .i64 x3) := HS.out.now.1.cell 3
  have k0 : ((w.alloc (.cells #[.int .i64 x0, .int .i64 x1, .int .i64 x2, .int .i64 x3] 27)).alloc (.cells #[.int .i64 0, .int .i64 0] 44)).cell? ⟨w.heap.size + 1, 0, none⟩ = some (.int .i64 0) := HS.out.now.2.cell 0
  have f0 := HS.out.now.2.frozen 0
  have k1 : ((w.alloc (.cells #[.int .i64 x0, .int .i64 x1, .int .i64 x2, .int .i64 x3] 27)).alloc (.cells #[.int .i64 0, .int .i64 0] 44)).cell? ⟨w.heap.size + 1, 1, none⟩ = some (.int .i64 0) := HS.out.now.2.cell 1
  have f1 := HS.out.now.2.frozen 1
  have H1 := Aside0.mk h1
  clear h1
  have H2 := Aside0.mk h2
  clear h2
  have hz1 : (eb != 0) = true := bne_iff_ne.mpr hz
  clear hz
  have t1 := True.intro
  have t2 := True.intro
  go_enter Try.func26, Try.ntmps26
  go_wp2_with (first | (have _t := t1; go_at_call 62; refine (H1.out _ (HS.out.step (by repeat (first | exact Below.refl _ _ | apply below_alloc | apply pw_below_drewN | apply below_drew1))).bel).mono ?_; rintro e w1 ⟨rfl, hb⟩; have m_ := Aside0.mk (HS.out.call (by repeat (first | exact Below.refl _ _ | apply below_alloc | apply pw_below_drewN | apply below_drew1)) hb); clear HS hb; have HS := m_; clear m_; have n1 := blk_lt HS.out.now.1; have n2 := blk_lt HS.out.now.2; have c0 : w1.cell? ⟨w.heap.size, 0, none⟩ = some (.int .i64 x0) := HS.out.now.1.cell 0; have c1 : w1.cell? ⟨w.heap.size, 1, none⟩ = some (.int .i64 x1) := HS.out.now.1.cell 1; have c2 : w1.cell? ⟨w.heap.size, 2, none⟩ = some (.int .i64 x2) := HS.out.now.1.cell 2; have c3 : w1.cell? ⟨w.heap.size, 3, none⟩ = some (.int .i64 x3) := HS.out.now.1.cell 3; have k0 : w1.cell? ⟨w.heap.size + 1, 0, none⟩ = some (.int .i64 0) := HS.out.now.2.cell 0; have f0 := HS.out.now.2.frozen 0; have k1 : w1.cell? ⟨w.heap.size + 1, 1, none⟩ = some (.int .i64 0) := HS.out.now.2.cell 1; have f1 := HS.out.now.2.frozen 1; clear t1 _t) | (have _t := t2; go_at_call 62; refine (H2.out _ (HS.out.step (by repeat (first | exact Below.refl _ _ | apply below_alloc | apply pw_below_drewN | apply below_drew1))).bel).mono ?_; rintro e w2 ⟨rfl, hb⟩; have m_ := Aside0.mk (HS.out.call (by repeat (first | exact Below.refl _ _ | apply below_alloc | apply pw_below_drewN | apply below_drew1)) hb); clear HS hb; have HS := m_; clear m_; have n1 := blk_lt HS.out.now.1; have n2 := blk_lt HS.out.now.2; have c0 : w2.cell? ⟨w.heap.size, 0, none⟩ = some (.int .i64 x0) := HS.out.now.1.cell 0; have c1 : w2.cell? ⟨w.heap.size, 1, none⟩ = some (.int .i64 x1) := HS.out.now.1.cell 1; have c2 : w2.cell? ⟨w.heap.size, 2, none⟩ = some (.int .i64 x2) := HS.out.now.1.cell 2; have c3 : w2.cell? ⟨w.heap.size, 3, none⟩ = some (.int .i64 x3) := HS.out.now.1.cell 3; have k0 : w2.cell? ⟨w.heap.size + 1, 0, none⟩ = some (.int .i64 0) := HS.out.now.2.cell 0; have f0 := HS.out.now.2.frozen 0; have k1 : w2.cell? ⟨w.heap.size + 1, 1, none⟩ = some (.int .i64 0) := HS.out.now.2.cell 1; have f1 := HS.out.now.2.frozen 1; clear t2 _t))
  all_goals try (go_step3; go_wp2)
  first | rw [Exit.noGoto_ret] | skip
  refine bodyPost_ret (v := .tuple #[.agg #[.int .i64 0, .int .i64 0], .int .i64 eb]) (by simp [results, Try.results26, go_sem, *]) rfl ⟨rfl, ?_⟩
  have hS := HS.out.bel
  repeat (first | exact hS | apply below_alloc | apply pw_below_drewN | apply below_drew1 | refine Below.setCell ?_ (by simp) _)
set_option maxRecDepth 100000 in
set_option maxHeartbeats 1000000 in
theorem MSpan_rev (p : Option Addr) (x0 x1 x2 x3 va vb : Int) (w : World) (h1 : ∀ W, Below w.heap.size w W → Calls Try.prog 62 #[.pointer p, .agg #[.int .i64 x0, .int .i64 x1]] W fun e W' => e = .returned (.tuple #[.int .i64 va, .int .i64 0]) ∧ Below W.heap.size W W') (h2 : ∀ W, Below w.heap.size w W → Calls Try.prog 62 #[.pointer p, .agg #[.int .i64 x2, .int .i64 x3]] W fun e W' => e = .returned (.tuple #[.int .i64 vb, .int .i64 0]) ∧ Below W.heap.size W W') (hlt : vb < va) : Calls Try.prog 26 #[.pointer p, .agg #[.int .i64 x0, .int .i64 x1, .int .i64 x2, .int .i64 x3]] w fun e w' => e = .returned (.tuple #[.agg #[.int .i64 0, .int .i64 0], .int .i64 2]) ∧ Below w.heap.size w w' := by
  have hb1 := below_alloc (Below.refl _ w) (.cells #[.int .i64 x0, .int .i64 x1, .int .i64 x2, .int .i64 x3] 27)
  have hb2 : Below (w.alloc (.cells #[.int .i64 x0, .int .i64 x1, .int .i64 x2, .int .i64 x3] 27)).heap.size (w.alloc (.cells #[.int .i64 x0, .int .i64 x1, .int .i64 x2, .int .i64 x3] 27)) ((w.alloc (.cells #[.int .i64 x0, .int .i64 x1, .int .i64 x2, .int .i64 x3] 27)).alloc (.cells #[.int .i64 0, .int .i64 0] 44)) := below_alloc (Below.refl _ _) _
  have hg : IsBlk ((w.alloc (.cells #[.int .i64 x0, .int .i64 x1, .int .i64 x2, .int .i64 x3] 27)).alloc (.cells #[.int .i64 0, .int .i64 0] 44)) (w.alloc (.cells #[.int .i64 x0, .int .i64 x1, .int .i64 x2, .int .i64 x3] 27)).heap.size (.cells #[.int .i64 0, .int .i64 0] 44) := blk_new _ _
  rw [World.size_alloc] at hg
  have HS : Aside0 (Sta w ((w.alloc (.cells #[.int .i64 x0, .int .i64 x1, .int .i64 x2, .int .i64 x3] 27)).alloc (.cells #[.int .i64 0, .int .i64 0] 44)) (fun W => IsBlk W w.heap.size (.cells #[.int .i64 x0, .int .i64 x1, .int .i64 x2, .int .i64 x3] 27) ∧ IsBlk W (w.heap.size + 1) (.cells #[.int .i64 0, .int .i64 0] 44))) := ⟨⟨below_step hb1 hb2, ⟨IsBlk.below (blk_new w _) hb2, hg⟩, keeps_and (keeps_blk _ _) (keeps_blk _ _)⟩⟩
  clear hb1 hb2 hg
  have n1 := blk_lt HS.out.now.1
  have n2 := blk_lt HS.out.now.2
  have c0 : ((w.alloc (.cells #[.int .i64 x0, .int .i64 x1, .int .i64 x2, .int .i64 x3] 27)).alloc (.cells #[.int .i64 0, .int .i64 0] 44)).cell? ⟨w.heap.size, 0, none⟩ = some (.int .i64 x0) := HS.out.now.1.cell 0
  have c1 : ((w.alloc (.cells #[.int .i64 x0, .int .i64 x1, .int .i64 x2, .int .i64 x3] 27)).alloc (.cells #[.int .i64 0, .int .i64 0] 44)).cell? ⟨w.heap.size, 1, none⟩ = some (.int .i64 x1) := HS.out.now.1.cell 1
  have c2 : ((w.alloc (.cells #[.int .i64 x0, .int .i64 x1, .int .i64 x2, .int .i64 x3] 27)).alloc (.cells #[.int .i64 0, .int .i64 0] 44)).cell? ⟨w.heap.size, 2, none⟩ = some (.int .i64 x2) := HS.out.now.1.cell 2
  have c3 : ((w.alloc (.cells #[.int .i64 x0, .int .i64 x1, .int .i64 x2, .int .i64 x3] 27)).alloc (.cells #[.int .i64 0, .int .i64 0] 44)).cell? ⟨w.heap.size, 3, none⟩ = some (.int .i64 x3) := HS.out.now.1.cell 3
  have k0 : ((w.alloc (.cells #[.int .i64 x0, .int .i64 x1, .int .i64 x2, .int .i64 x3] 27)).alloc (.cells #[.int .i64 0, .int .i64 0] 44)).cell? ⟨w.heap.size + 1, 0, none⟩ = some (.int .i64 0) := HS.out.now.2.cell 0
  have f0 := HS.out.now.2.frozen 0
  have k1 : ((w.alloc (.cells #[.int .i64 x0, .int .i64 x1, .int .i64 x2, .int .i64 x3] 27)).alloc (.cells #[.int .i64 0, .int .i64 0] 44)).cell? ⟨w.heap.size + 1, 1, none⟩ = some (.int .i64 0) := HS.out.now.2.cell 1
  have f1 := HS.out.now.2.frozen 1
  have H1 := Aside0.mk h1
  clear h1
  have H2 := Aside0.mk h2
  clear h2
  have t1 := True.intro
  have t2 := True.intro
  go_enter Try.func26, Try.ntmps26
  go_wp2_with (first | (have _t := t1; go_at_call 62; refine (H1.out _ (HS.out.step (by repeat (first | exact Below.refl _ _ | apply below_alloc | apply pw_below_drewN | apply below_drew1))).bel).mono ?_; rintro e w1 ⟨rfl, hb⟩; have m_ := Aside0.mk (HS.out.call (by repeat (first | exact Below.refl _ _ | apply below_alloc | apply pw_below_drewN | apply below_drew1)) hb); clear HS hb; have HS := m_; clear m_; have n1 := blk_lt HS.out.now.1; have n2 := blk_lt HS.out.now.2; have c0 : w1.cell? ⟨w.heap.size, 0, none⟩ = some (.int .i64 x0) := HS.out.now.1.cell 0; have c1 : w1.cell? ⟨w.heap.size, 1, none⟩ = some (.int .i64 x1) := HS.out.now.1.cell 1; have c2 : w1.cell? ⟨w.heap.size, 2, none⟩ = some (.int .i64 x2) := HS.out.now.1.cell 2; have c3 : w1.cell? ⟨w.heap.size, 3, none⟩ = some (.int .i64 x3) := HS.out.now.1.cell 3; have k0 : w1.cell? ⟨w.heap.size + 1, 0, none⟩ = some (.int .i64 0) := HS.out.now.2.cell 0; have f0 := HS.out.now.2.frozen 0; have k1 : w1.cell? ⟨w.heap.size + 1, 1, none⟩ = some (.int .i64 0) := HS.out.now.2.cell 1; have f1 := HS.out.now.2.frozen 1; clear t1 _t) | (have _t := t2; go_at_call 62; refine (H2.out _ (HS.out.step (by repeat (first | exact Below.refl _ _ | apply below_alloc | apply pw_below_drewN | apply below_drew1))).bel).mono ?_; rintro e w2 ⟨rfl, hb⟩; have m_ := Aside0.mk (HS.out.call (by repeat (first | exact Below.refl _ _ | apply below_alloc | apply pw_below_drewN | apply below_drew1)) hb); clear HS hb; have HS := m_; clear m_; have n1 := blk_lt HS.out.now.1; have n2 := blk_lt HS.out.now.2; have c0 : w2.cell? ⟨w.heap.size, 0, none⟩ = some (.int .i64 x0) := HS.out.now.1.cell 0; have c1 : w2.cell? ⟨w.heap.size, 1, none⟩ = some (.int .i64 x1) := HS.out.now.1.cell 1; have c2 : w2.cell? ⟨w.heap.size, 2, none⟩ = some (.int .i64 x2) := HS.out.now.1.cell 2; have c3 : w2.cell? ⟨w.heap.size, 3, none⟩ = some (.int .i64 x3) := HS.out.now.1.cell 3; have k0 : w2.cell? ⟨w.heap.size + 1, 0, none⟩ = some (.int .i64 0) := HS.out.now.2.cell 0; have f0 := HS.out.now.2.frozen 0; have k1 : w2.cell? ⟨w.heap.size + 1, 1, none⟩ = some (.int .i64 0) := HS.out.now.2.cell 1; have f1 := HS.out.now.2.frozen 1; clear t2 _t))
  all_goals try (go_step3; go_wp2)
  first | rw [Exit.noGoto_ret] | skip
  refine bodyPost_ret (v := .tuple #[.agg #[.int .i64 0, .int .i64 0], .int .i64 2]) (by simp [results, Try.results26, go_sem, *]) rfl ⟨rfl, ?_⟩
  have hS := HS.out.bel
  repeat (first | exact hS | apply below_alloc | apply pw_below_drewN | apply below_drew1 | refine Below.setCell ?_ (by simp) _)
set_option maxRecDepth 100000 in
set_option maxHeartbeats 1000000 in
theorem MSpan_ok (p : Option Addr) (x0 x1 x2 x3 va vb : Int) (w : World) (h1 : ∀ W, Below w.heap.size w W → Calls Try.prog 62 #[.pointer p, .agg #[.int .i64 x0, .int .i64 x1]] W fun e W' => e = .returned (.tuple #[.int .i64 va, .int .i64 0]) ∧ Below W.heap.size W W') (h2 : ∀ W, Below w.heap.size w W → Calls Try.prog 62 #[.pointer p, .agg #[.int .i64 x2, .int .i64 x3]] W fun e W' => e = .returned (.tuple #[.int .i64 vb, .int .i64 0]) ∧ Below W.heap.size W W') (hlt : va ≤ vb) : Calls Try.prog 26 #[.pointer p, .agg #[.int .i64 x0, .int .i64 x1, .int .i64 x2, .int .i64 x3]] w fun e w' => e = .returned (.tuple #[.agg #[.int .i64 va, .int .i64 vb], .int .i64 0]) ∧ Below w.heap.size w w' := by
  have hb1 := below_alloc (Below.refl _ w) (.cells #[.int .i64 x0, .int .i64 x1, .int .i64 x2, .int .i64 x3] 27)
  have hb2 : Below (w.alloc (.cells #[.int .i64 x0, .int .i64 x1, .int .i64 x2, .int .i64 x3] 27)).heap.size (w.alloc (.cells #[.int .i64 x0, .int .i64 x1, .int .i64 x2, .int .i64 x3] 27)) ((w.alloc (.cells #[.int .i64 x0, .int .i64 x1, .int .i64 x2, .int .i64 x3] 27)).alloc (.cells #[.int .i64 0, .int .i64 0] 44)) := below_alloc (Below.refl _ _) _
  have hg : IsBlk ((w.alloc (.cells #[.int .i64 x0, .int .i64 x1, .int .i64 x2, .int .i64 x3] 27)).alloc (.cells #[.int .i64 0, .int .i64 0] 44)) (w.alloc (.cells #[.int .i64 x0, .int .i64 x1, .int .i64 x2, .int .i64 x3] 27)).heap.size (.cells #[.int .i64 0, .int .i64 0] 44) := blk_new _ _
  rw [World.size_alloc] at hg
  have HS : Aside0 (Sta w ((w.alloc (.cells #[.int .i64 x0, .int .i64 x1, .int .i64 x2, .int .i64 x3] 27)).alloc (.cells #[.int .i64 0, .int .i64 0] 44)) (fun W => IsBlk W w.heap.size (.cells #[.int .i64 x0, .int .i64 x1, .int .i64 x2, .int .i64 x3] 27) ∧ IsBlk W (w.heap.size + 1) (.cells #[.int .i64 0, .int .i64 0] 44))) := ⟨⟨below_step hb1 hb2, ⟨IsBlk.below (blk_new w _) hb2, hg⟩, keeps_and (keeps_blk _ _) (keeps_blk _ _)⟩⟩
  clear hb1 hb2 hg
  have n1 := blk_lt HS.out.now.1
  have n2 := blk_lt HS.out.now.2
  have c0 : ((w.alloc (.cells #[.int .i64 x0, .int .i64 x1, .int .i64 x2, .int .i64 x3] 27)).alloc (.cells #[.int .i64 0, .int .i64 0] 44)).cell? ⟨w.heap.size, 0, none⟩ = some (.int .i64 x0) := HS.out.now.1.cell 0
  have c1 : ((w.alloc (.cells #[.int .i64 x0, .int .i64 x1, .int .i64 x2, .int .i64 x3] 27)).alloc (.cells #[.int .i64 0, .int .i64 0] 44)).cell? ⟨w.heap.size, 1, none⟩ = some (.int .i64 x1) := HS.out.now.1.cell 1
  have c2 : ((w.alloc (.cells #[.int .i64 x0, .int .i64 x1, .int .i64 x2, .int .i64 x3] 27)).alloc (.cells #[.int .i64 0, .int .i64 0] 44)).cell? ⟨w.heap.size, 2, none⟩ = some (.int .i64 x2) := HS.out.now.1.cell 2
  have c3 : ((w.alloc (.cells #[.int .i64 x0, .int .i64 x1, .int .i64 x2, .int .i64 x3] 27)).alloc (.cells #[.int .i64 0, .int .i64 0] 44)).cell? ⟨w.heap.size, 3, none⟩ = some (.int .i64 x3) := HS.out.now.1.cell 3
  have k0 : ((w.alloc (.cells #[.int .i64 x0, .int .i64 x1, .int .i64 x2, .int .i64 x3] 27)).alloc (.cells #[.int .i64 0, .int .i64 0] 44)).cell? ⟨w.heap.size + 1, 0, none⟩ = some (.int .i64 0) := HS.out.now.2.cell 0
  have f0 := HS.out.now.2.frozen 0
  have k1 : ((w.alloc (.cells #[.int .i64 x0, .int .i64 x1, .int .i64 x2, .int .i64 x3] 27)).alloc (.cells #[.int .i64 0, .int .i64 0] 44)).cell? ⟨w.heap.size + 1, 1, none⟩ = some (.int .i64 0) := HS.out.now.2.cell 1
  have f1 := HS.out.now.2.frozen 1
  have H1 := Aside0.mk h1
  clear h1
  have H2 := Aside0.mk h2
  clear h2
  have t1 := True.intro
  have t2 := True.intro
  go_enter Try.func26, Try.ntmps26
  go_wp2_with (first | (have _t := t1; go_at_call 62; refine (H1.out _ (HS.out.step (by repeat (first | exact Below.refl _ _ | apply below_alloc | apply pw_below_drewN | apply below_drew1))).bel).mono ?_; rintro e w1 ⟨rfl, hb⟩; have m_ := Aside0.mk (HS.out.call (by repeat (first | exact Below.refl _ _ | apply below_alloc | apply pw_below_drewN | apply below_drew1)) hb); clear HS hb; have HS := m_; clear m_; have n1 := blk_lt HS.out.now.1; have n2 := blk_lt HS.out.now.2; have c0 : w1.cell? ⟨w.heap.size, 0, none⟩ = some (.int .i64 x0) := HS.out.now.1.cell 0; have c1 : w1.cell? ⟨w.heap.size, 1, none⟩ = some (.int .i64 x1) := HS.out.now.1.cell 1; have c2 : w1.cell? ⟨w.heap.size, 2, none⟩ = some (.int .i64 x2) := HS.out.now.1.cell 2; have c3 : w1.cell? ⟨w.heap.size, 3, none⟩ = some (.int .i64 x3) := HS.out.now.1.cell 3; have k0 : w1.cell? ⟨w.heap.size + 1, 0, none⟩ = some (.int .i64 0) := HS.out.now.2.cell 0; have f0 := HS.out.now.2.frozen 0; have k1 : w1.cell? ⟨w.heap.size + 1, 1, none⟩ = some (.int .i64 0) := HS.out.now.2.cell 1; have f1 := HS.out.now.2.frozen 1; clear t1 _t) | (have _t := t2; go_at_call 62; refine (H2.out _ (HS.out.step (by repeat (first | exact Below.refl _ _ | apply below_alloc | apply pw_below_drewN | apply below_drew1))).bel).mono ?_; rintro e w2 ⟨rfl, hb⟩; have m_ := Aside0.mk (HS.out.call (by repeat (first | exact Below.refl _ _ | apply below_alloc | apply pw_below_drewN | apply below_drew1)) hb); clear HS hb; have HS := m_; clear m_; have n1 := blk_lt HS.out.now.1; have n2 := blk_lt HS.out.now.2; have c0 : w2.cell? ⟨w.heap.size, 0, none⟩ = some (.int .i64 x0) := HS.out.now.1.cell 0; have c1 : w2.cell? ⟨w.heap.size, 1, none⟩ = some (.int .i64 x1) := HS.out.now.1.cell 1; have c2 : w2.cell? ⟨w.heap.size, 2, none⟩ = some (.int .i64 x2) := HS.out.now.1.cell 2; have c3 : w2.cell? ⟨w.heap.size, 3, none⟩ = some (.int .i64 x3) := HS.out.now.1.cell 3; have k0 : w2.cell? ⟨w.heap.size + 1, 0, none⟩ = some (.int .i64 0) := HS.out.now.2.cell 0; have f0 := HS.out.now.2.frozen 0; have k1 : w2.cell? ⟨w.heap.size + 1, 1, none⟩ = some (.int .i64 0) := HS.out.now.2.cell 1; have f1 := HS.out.now.2.frozen 1; clear t2 _t))
  all_goals try (go_step3; go_wp2)
  first | rw [Exit.noGoto_ret] | skip
  refine bodyPost_ret (v := .tuple #[.agg #[.int .i64 va, .int .i64 vb], .int .i64 0]) (by simp [results, Try.results26, go_sem, *]) rfl ⟨rfl, ?_⟩
  have hS := HS.out.bel
  repeat (first | exact hS | apply below_alloc | apply pw_below_drewN | apply below_drew1 | refine Below.setCell ?_ (by simp) _)
def RMapAt (W : World) (m a : Nat) (A : Option Addr) (c : Nat) (l : List Int) : Prop :=
  IsRef W a (lns l 0 0) ∧ Kd.C (Kd.int .u8) W A l.length l ∧ IsBlk W m (.cells #[.slice A l.length c, .pointer (some ⟨a, 0, none⟩)] 142)
def IsRMap (W : World) (m : Nat) (l : List Int) : Prop := ∃ a A c, l.length ≤ c ∧ RMapAt W m a A c l
theorem keeps_rmapAt (m a : Nat) (A : Option Addr) (c : Nat) (l : List Int) : Keeps (fun W => RMapAt W m a A c l) := keeps_and (keeps_ref _ _) (keeps_and (keeps_C _ _ _ _) (keeps_blk _ _))
theorem keeps_rmap (m : Nat) (l : List Int) : Keeps (fun W => IsRMap W m l) := fun W1 W2 h hb => by
  obtain ⟨a, A, c, hc, h⟩ := h
  exact ⟨a, A, c, hc, keeps_rmapAt m a A c l W1 W2 h hb⟩
theorem IsRMap.below {W W1 : World} {m : Nat} {l : List Int} (h : IsRMap W m l) (hb : Below W.heap.size W W1) : IsRMap W1 m l := keeps_rmap m l W W1 h hb
noncomputable def msp (l : List Int) (x0 x1 x2 x3 : Int) : Int × Int × Int :=
  if x0 < 0 ∨ x1 < 0 then (0, 0, 9) else if x2 < 0 ∨ x3 < 0 then (0, 0, 9) else if poff l x2 x3 < poff l x0 x1 then (0, 0, 2) else (poff l x0 x1, poff l x2 x3, 0)
theorem esp_msp (l : List Int) (x0 x1 x2 x3 : Int) : ((msp l x0 x1 x2 x3).2.2 = 2 → esp l false x0 x1 x2 x3 = (0, 0, 150)) ∧ ((msp l x0 x1 x2 x3).2.2 ≠ 2 → esp l false x0 x1 x2 x3 = msp l x0 x1 x2 x3) ∧ ((msp l x0 x1 x2 x3).2.2 ≠ 0 → (msp l x0 x1 x2 x3).1 = 0 ∧ (msp l x0 x1 x2 x3).2.1 = 0) := by
  unfold msp esp
  by_cases c1 : x0 < 0 ∨ x1 < 0
  · simp [c1]
  · by_cases c2 : x2 < 0 ∨ x3 < 0
    · simp [c1, c2]
    · by_cases c3 : poff l x2 x3 < poff l x0 x1 <;> simp [c1, c2, c3]
noncomputable def isPb (l : List Int) (n : Int) : Bool := poff l (fnd l n) (pch l n) == n
theorem isPb_iff (l : List Int) (n : Int) : isPb l n = true ↔ IsP l n := by
  unfold isPb IsP
  exact beq_iff_eq
theorem MSpan_is (m : Nat) (l : List Int) (x0 x1 x2 x3 : Int) (w : World) (hM : IsMap w m l) (hs : l.length ≤ 1048576) (hB : Bytes l) (hv : V l) (h1 : x1 ≤ 9223372036854775807) (h3 : x3 ≤ 9223372036854775807) :
    Calls Try.prog 26 #[.pointer (some ⟨m, 0, none⟩), .agg #[.int .i64 x0, .int .i64 x1, .int .i64 x2, .int .i64 x3]] w fun e w' => e = .returned (.tuple #[.agg #[.int .i64 (msp l x0 x1 x2 x3).1, .int .i64 (msp l x0 x1 x2 x3).2.1], .int .i64 (msp l x0 x1 x2 x3).2.2]) ∧ Below w.heap.size w w' := by
  unfold msp
  by_cases c1 : x0 < 0 ∨ x1 < 0
  · rw [if_pos c1]
    exact MSpan_e1 _ x0 x1 x2 x3 0 9 w (fun W hW => MOffset_neg m l x0 x1 W (IsMap.below hM hW) c1) (by decide)
  · rw [if_neg c1]
    by_cases c2 : x2 < 0 ∨ x3 < 0
    · rw [if_pos c2]
      exact MSpan_e2 _ x0 x1 x2 x3 _ 0 9 w (fun W hW => MOffset_is m l x0 x1 W (IsMap.below hM hW) hs hB hv (by omega) (by omega) h1) (fun W hW => MOffset_neg m l x2 x3 W (IsMap.below hM hW) c2) (by decide)
    · rw [if_neg c2]
      by_cases c3 : poff l x2 x3 < poff l x0 x1
      · rw [if_pos c3]
        exact MSpan_rev _ x0 x1 x2 x3 _ _ w (fun W hW => MOffset_is m l x0 x1 W (IsMap.below hM hW) hs hB hv (by omega) (by omega) h1) (fun W hW => MOffset_is m l x2 x3 W (IsMap.below hM hW) hs hB hv (by omega) (by omega) h3) c3
      · rw [if_neg c3]
        exact MSpan_ok _ x0 x1 x2 x3 _ _ w (fun W hW => MOffset_is m l x0 x1 W (IsMap.below hM hW) hs hB hv (by omega) (by omega) h1) (fun W hW => MOffset_is m l x2 x3 W (IsMap.below hM hW) hs hB hv (by omega) (by omega) h3) (Int.not_lt.1 c3)
end Go.Proofs.Ytjebkpcekkkbkaa.B
