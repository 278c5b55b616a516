/-
  Texts of this session, one behind the other: B0, B1, B2, B3, B4, B5, C0, C1, P0, D0, U0, U1, M0, M1, Row0, E7, E6.
-/
import Derived.RangeFuncNested
import Derived.RangeFuncBound
import Derived.RangeFuncCalls
import Derived.RangeFuncLeaves
import Derived.RangeFuncBox
import Derived.Shelf.Abstract
import Derived.Shelf.RegionOpen
import Derived.OwnWalkIn
import Derived.TacticsInMore
import Derived.LoopNIn
import Derived.LoopIn
import Derived.Test.YtogfaahdbecdnaaFBasex4
import Derived.Deep.DeepFit
import Derived.Test.YtogfaahdbecdnaaFBasex5
import Derived.Test.YtogfaahdbecdnaaBulk
import Derived.ChangeShapes
import Derived.WalkMore
import Derived.WalkSpells
import Derived.Deep.DeepCutAuto
import Derived.Deep.CutRange
import Derived.Deep.RegionHeld3
set_option linter.unusedSimpArgs false
set_option linter.unusedVariables false
/-
  Words of this session's own: struct kinds (a span, a line), an index of lines as an object in memory.
-/
namespace Go.Proofs.Ytogfaahdbecdnaa.B
open Go.RowKit Go.Proofs.YtogfaahdbecdnaaW.PrintWords Go.Proofs.YtogfaahdbecdnaaW.PrintLast Go.Proofs.YtogfaahdbecdnaaW.PrintMore
set_option linter.unusedVariables false

theorem info3 : (Try.prog.info? 3).map (fun i => (i.zero, i.size, i.bytes)) = some (some (.int .i64 0), 1, 8) := by kernel_rfl
theorem infoLn : (Try.prog.info? 90).map (fun i => (i.zero, i.size, i.bytes)) = some (some (.agg #[.int .i64 0, .int .i64 0, .int .i64 0]), 3, 24) := by kernel_rfl
theorem infoSp : (Try.prog.info? 35).map (fun i => (i.zero, i.size, i.bytes)) = some (some (.agg #[.int .i64 0, .int .i64 0]), 2, 16) := by kernel_rfl

/-- A line: where it begins, where what ends it begins, where that ends. -/
structure Ln where
  f0 : Int
  f1 : Int
  f2 : Int
deriving DecidableEq
def zLn : Ln := ⟨0, 0, 0⟩
def kLn : Kd Ln := Kd.iso (Kd.pair (Kd.int .i64) (Kd.pair (Kd.int .i64) (Kd.int .i64))) (fun x : Ln => (x.f0, x.f1, x.f2))
theorem kLn_open {w : World} {x : Ln} {cs : List Value} (h : kLn.K w x cs) : cs = [.int .i64 x.f0, .int .i64 x.f1, .int .i64 x.f2] := by
  obtain ⟨_, _, rfl, rfl, _, _, rfl, rfl, rfl⟩ := h
  exact rfl
theorem kLn_mkM (w : World) (base : Nat) (ok : Nat → Prop) (x : Ln) : kLn.M w base ok x [.int .i64 x.f0, .int .i64 x.f1, .int .i64 x.f2] :=
  ⟨[.int .i64 x.f0], [.int .i64 x.f1, .int .i64 x.f2], rfl, rfl, ⟨[.int .i64 x.f1], [.int .i64 x.f2], rfl, rfl, rfl⟩⟩
def rdLn (xs : List Ln) (i : Int) : Ln := xs.getD i.toNat zLn
theorem atLn {w : World} {A : Option Addr} {n : Nat} {xs : List Ln} (h : Kd.C kLn w A n xs) (i : Int) (h0 : 0 ≤ i) (h1 : i < n) : ∃ ad , A = some ad ∧ w.cell? (ad.add (i.toNat * 3)) = some (.int .i64 (rdLn xs i).f0) ∧ w.cell? ⟨(ad.add (i.toNat * 3)).block, (ad.add (i.toNat * 3)).off + 1, none⟩ = some (.int .i64 (rdLn xs i).f1) ∧ w.cell? ⟨(ad.add (i.toNat * 3)).block, (ad.add (i.toNat * 3)).off + 2, none⟩ = some (.int .i64 (rdLn xs i).f2) := by
  obtain ⟨ad, c, e, _, hK, hc0⟩ := Kd.C_get h zLn i h0 h1
  have hc : ∀ j u, c[j]? = some u → w.cell? (ad.add (i.toNat * 3 + j)) = some u := hc0
  obtain rfl := kLn_open hK
  exact ⟨ad, e, hc 0 _ rfl, by rw [← add_field _ _ 1 (by omega)]; exact hc 1 _ rfl, by rw [← add_field _ _ 2 (by omega)]; exact hc 2 _ rfl⟩

/-- An index of lines at block a of W: its lines. -/
def IsIdx (W : World) (a : Nat) (L : List Ln) : Prop :=
  ∃ A c, W.heap[a]? = some (.cells #[.slice A L.length c] 56 (0, 0)) ∧ L.length ≤ c ∧ Kd.C kLn W A L.length L
theorem IsIdx.lt {W : World} {a : Nat} {L : List Ln} (h : IsIdx W a L) : a < W.heap.size := by
  obtain ⟨A, c, hb, _⟩ := h
  exact blk_lt hb
theorem IsIdx.below {W W1 : World} {a : Nat} {L : List Ln} (h : IsIdx W a L) (hb : Below W.heap.size W W1) : IsIdx W1 a L := by
  have hl := h.lt
  obtain ⟨A, c, h1, h2, h3⟩ := h
  exact ⟨A, c, (hb.block a hl).trans h1, h2, Kd.C_below h3 hb⟩
theorem IsIdx.alloc {W : World} {a : Nat} {L : List Ln} (h : IsIdx W a L) (o : Obj) : IsIdx (W.alloc o) a L := h.below (below_alloc (Below.refl _ _) o)
theorem IsIdx.drewN {W : World} {a : Nat} {L : List Ln} (h : IsIdx W a L) (m : Nat) : IsIdx (W.drewN m) a L := h.below (pw_below_drewN (Below.refl _ _) m)
theorem IsIdx.drew {W : World} {a : Nat} {L : List Ln} (h : IsIdx W a L) : IsIdx W.drew a L := h.below (below_drew (Below.refl _ _))
/-- What an index's one cell holds. -/
theorem IsIdx.cell {W : World} {a : Nat} {L : List Ln} (h : IsIdx W a L) : ∃ A c, W.cell? ⟨a, 0, none⟩ = some (.slice A L.length c) ∧ L.length ≤ c ∧ Kd.C kLn W A L.length L := by
  obtain ⟨A, c, hb, hl, hc⟩ := h
  exact ⟨A, c, (blk_cell hb 0).trans rfl, hl, hc⟩

/-- (*lines.Index).none of nil. -/
theorem none_nil (w : World) : Calls Try.prog 58 #[.pointer none] w fun e w' => e = .returned (.bool true) ∧ w = w' := by
  go_enter Try.func58, Try.ntmps58
  go_wp2
  go_ret
  exact ⟨rfl, rfl⟩
/-- .. of an index with a line. -/
theorem none_idx (w : World) (a : Nat) (L : List Ln) (h : IsIdx w a L) (hL : 0 < L.length) : Calls Try.prog 58 #[.pointer (some ⟨a, 0, none⟩)] w fun e w' => e = .returned (.bool false) ∧ w = w' := by
  obtain ⟨A, c, hc, hl, _⟩ := h.cell
  have hz : ((L.length : Int) == 0) = false := by rw [beq_eq_false_iff_ne]; omega
  have hz2 : ¬ (L = []) := by rintro rfl; simp at hL
  generalize L.length = n at *
  go_enter Try.func58, Try.ntmps58
  go_wp2
  go_ret
  exact ⟨rfl, rfl⟩
end Go.Proofs.Ytogfaahdbecdnaa.B

/-
  lines.New: walked. What it makes of bytes that are a text is 'lns', a plain function.
-/
namespace Go.Proofs.Ytogfaahdbecdnaa.B
open Go.RowKit Go.Proofs.YtogfaahdbecdnaaW.PrintWords Go.Proofs.YtogfaahdbecdnaaW.PrintLast Go.Proofs.YtogfaahdbecdnaaW.PrintMore Go.Proofs.Ytogfaahdbecdnaa.FBase
set_option linter.unusedVariables false

/-- The lines of l from its place i on, the first of which begins at fr. -/
def lns : List Int → Int → Int → List Ln
  | [], fr, i => [⟨fr, i, i⟩]
  | b :: r, fr, i =>
    if b = 10 then ⟨fr, i, i + 1⟩ :: lns r (i + 1) (i + 1)
    else if b = 13 then
      if r.head? = some 10 then ⟨fr, i, i + 2⟩ :: lns r.tail (i + 2) (i + 2) else ⟨fr, i, i + 1⟩ :: lns r (i + 1) (i + 1)
    else lns r fr (i + 1)
termination_by l => l.length
decreasing_by all_goals (simp; try omega)

theorem lns_drop (l : List Int) (fr i : Int) (h0 : 0 ≤ i) (h1 : i < l.length) : lns (l.drop i.toNat) fr i =
    if rd l i = 10 then ⟨fr, i, i + 1⟩ :: lns (l.drop (i + 1).toNat) (i + 1) (i + 1)
    else if rd l i = 13 then
      if i + 1 < l.length ∧ rd l (i + 1) = 10 then ⟨fr, i, i + 2⟩ :: lns (l.drop (i + 2).toNat) (i + 2) (i + 2) else ⟨fr, i, i + 1⟩ :: lns (l.drop (i + 1).toNat) (i + 1) (i + 1)
    else lns (l.drop (i + 1).toNat) fr (i + 1) := by
  obtain ⟨n, rfl⟩ := Int.eq_ofNat_of_zero_le h0
  have hn : n < l.length := by omega
  have e1 : ((n : Int) + 1).toNat = n + 1 := by omega
  have e2 : ((n : Int) + 2).toNat = n + 2 := by omega
  rw [e1, e2, Int.toNat_natCast, List.drop_eq_getElem_cons hn, lns]
  have hr : rd l (n : Int) = l[n] := by simp [rd, List.getD, hn]
  rw [hr, List.tail_drop]
  have hh : (l.drop (n + 1)).head? = some 10 ↔ ((n : Int) + 1 < l.length ∧ rd l ((n : Int) + 1) = 10) := by
    rw [List.head?_drop]
    constructor
    · intro h
      obtain ⟨h2, h3⟩ := List.getElem?_eq_some_iff.1 h
      exact ⟨by omega, by simp [rd, List.getD, e1, h2, h3]⟩
    · rintro ⟨h2, h3⟩
      have h4 : n + 1 < l.length := by omega
      rw [List.getElem?_eq_getElem h4]
      simp [rd, List.getD, e1, h4] at h3
      rw [h3]
  simp only [hh]

set_option maxHeartbeats 1000000 in
set_option maxRecDepth 100000 in
/-- What is no text. -/
theorem New_err (k : Nat) (A : Option Addr) (c : Nat) (l : List Int) (r1 r2 : Int) (w : World) (hr : Kd.C (Kd.int .u8) w A l.length l) (hc : l.length ≤ c) (h : runes_Check.f k l = some (r1, r2)) (hne : r2 ≠ 0) :
    Calls Try.prog 21 #[.slice A l.length c] w fun e w' => e = .returned (.tuple #[.pointer none, .int .i64 r2]) ∧ Below w.heap.size w w' := by
  have HR := Aside0.mk hr
  have HC := Aside0.mk hc
  have H := Aside0.mk h
  have hz : (r2 != 0) = true := bne_iff_ne.mpr hne
  clear hr hc h hne
  go_enter Try.func21, Try.ntmps21
  go_wp2_with (go_at_call 55; refine (runes_Check.calls k _ _ l r1 r2 _ HR.out HC.out H.out).mono ?_; rintro e w' ⟨rfl, n, rfl⟩)
  go_ret2
  exact ⟨rfl, by repeat (first | exact Below.refl _ _ | apply below_alloc | apply pw_below_drewN | apply below_drew1)⟩

/-- What is held at the head of the loop: the lines so far, and what is still to come. -/
structure Made (w W : World) (g : Nat) (l : List Int) (fr i : Int) : Prop where
  bel : Below w.heap.size w W
  new : w.heap.size ≤ g
  own : ∃ A c acc, W.heap[g]? = some (.cells #[.slice A acc.length c] 56 (0, 0)) ∧ Kd.R kLn 90 W w.heap.size (fun k => some k ≠ some g) (.slice A acc.length c) acc ∧ acc ++ lns (l.drop i.toNat) fr i = lns l 0 0 ∧ (acc.length : Int) ≤ i

theorem acc_step (acc r : List Ln) (x : Ln) (t : List Ln) (h : acc ++ (x :: r) = t) : (acc ++ [x]) ++ r = t := by simpa using h

/-- Behind an append to the index's row and the store of what it gave. -/
theorem Made.after {w w1 : World} {g : Nat} {l : List Int} {fr' i' : Int} {A2 : Option Addr} {c2 : Nat} {acc : List Ln} {x : Ln} {cs : Array Value}
    (hnew : w.heap.size ≤ g) (hb : Below w.heap.size w w1) (hblk : w1.heap[g]? = some (.cells cs 56 (0, 0))) (hcs : cs.size = 1)
    (ho : Kd.R kLn 90 w1 w.heap.size (fun k => some k ≠ some g) (.slice A2 (acc ++ [x]).length c2) (acc ++ [x])) (hl : (acc ++ [x]) ++ lns (l.drop i'.toNat) fr' i' = lns l 0 0) (ha : (acc.length : Int) + 1 ≤ i') :
    Made w (w1.setCell ⟨g, 0, none⟩ (.slice A2 (acc.length + 1) c2)) g l fr' i' := by
  rw [show acc.length + 1 = (acc ++ [x]).length by simp]
  refine ⟨hb.setCell hnew _, hnew, A2, c2, acc ++ [x], ?_, Kd.R_far (p := ⟨g, 0, none⟩) ho (fun k hk e => hk (by rw [e])) _, hl, by simp; omega⟩
  rw [blk_set hblk]
  congr 2
  obtain ⟨a, rfl⟩ : ∃ a, cs = #[a] := by
    match cs, hcs with
    | ⟨[a]⟩, _ => exact ⟨a, rfl⟩
  rfl

/-- What holds of memory whatever lies below base: it hangs on no block below it. -/
def FromBase (base : Nat) (W : World) (F : World → Prop) : Prop := ∀ W1 : World, (∀ k, base ≤ k → k < W.heap.size → W1.heap[k]? = W.heap[k]?) → F W1
theorem FromBase.now {base : Nat} {W : World} {F : World → Prop} (h : FromBase base W F) : F W := h W (fun _ _ _ => rfl)
theorem FromBase.step {base : Nat} {W W1 : World} {F : World → Prop} (h : FromBase base W F) (hm : ∀ k, base ≤ k → k < W.heap.size → W1.heap[k]? = W.heap[k]?) : FromBase base W1 F := fun W2 h2 =>
  h W2 (fun k hk hlt => (h2 k hk (by
    have e := hm k hk hlt
    rw [Array.getElem?_eq_getElem hlt] at e
    exact blk_lt e)).trans (hm k hk hlt))
theorem FromBase.below {base : Nat} {W W1 : World} {F : World → Prop} (h : FromBase base W F) (hb : Below W.heap.size W W1) : FromBase base W1 F := h.step (fun k _ hlt => hb.block k hlt)
theorem idx_from {base g c : Nat} {W : World} {A : Option Addr} {L : List Ln} {ok : Nat → Prop} (hg : base ≤ g) (hb : W.heap[g]? = some (.cells #[.slice A L.length c] 56 (0, 0)))
    (hR : Kd.R kLn 90 W base ok (.slice A L.length c) L) : FromBase base W (fun W => IsIdx W g L) := by
  intro W1 hW1
  have h2 := Kd.R_move (Kd.R_bound hR) (fun k hk => hW1 k hk.2.1 hk.2.2.1)
  obtain ⟨_, hcap, hC⟩ := Kd.R_reads' h2
  exact ⟨A, c, (hW1 g hg (blk_lt hb)).trans hb, hcap, hC⟩

set_option maxHeartbeats 4000000 in
set_option maxRecDepth 100000 in
/-- What is a text. -/
theorem New_all (k : Nat) (A : Option Addr) (c : Nat) (l : List Int) (r1 : Int) (w : World) (hr : Kd.C (Kd.int .u8) w A l.length l) (hc : l.length ≤ c) (h : runes_Check.f k l = some (r1, 0)) (hs : l.length ≤ 1048576) :
    Calls Try.prog 21 #[.slice A l.length c] w fun e w' => ∃ a, e = .returned (.tuple #[.pointer (some ⟨a, 0, none⟩), .int .i64 0]) ∧ w.heap.size ≤ a ∧ FromBase w.heap.size w' (fun W => IsIdx W a (lns l 0 0)) ∧ Below w.heap.size w w' := by
  have HR := Aside0.mk hr
  have HC := Aside0.mk hc
  have H := Aside0.mk h
  clear hr hc h
  go_enter Try.func21, Try.ntmps21
  go_wp2_with (go_at_call 55; refine (runes_Check.calls k _ _ l r1 0 _ HR.out HC.out H.out).mono ?_; rintro e w' ⟨rfl, n, rfl⟩)
  have M0 : Made w ((w.drewN n).alloc (Obj.cells #[Value.slice none 0 0] 56)) w.heap.size l 0 0 :=
    ⟨below_alloc (pw_below_drewN (Below.refl _ _) _) _, Nat.le_refl _, none, 0, [], blk_new (w.drewN n) _, Kd.R_nil _ _ _ _ _, by simp, by simp⟩
  have HM := Aside0.mk M0
  clear M0 H
  obtain ⟨g, hg0⟩ : ∃ g, w.heap.size = g := ⟨_, rfl⟩
  have HG := Aside0.mk hg0
  rw [hg0] at HM ⊢
  clear hg0
  generalize ((w.drewN n).alloc (Obj.cells #[Value.slice none 0 0] 56)) = W0 at HM ⊢
  go_loopw [7, 8] (fun s7 s8 W => ∃ fr i : Int, s7 = .int .i64 fr ∧ s8 = .int .i64 i ∧ 0 ≤ i ∧ i ≤ l.length ∧ Aside0 (Made w W g l fr i)) (fun _ s8 _ => l.length - (intOf s8).toNat)
  case atStart => exact ⟨0, 0, rfl, rfl, by omega, by omega, HM⟩
  case round =>
    clear HM
    obtain ⟨fr, i, rfl, rfl, hi0, hi1, HM⟩ := hrel
    obtain ⟨hbel, hnew, A1, c1, acc, hb, HO, hl, ha⟩ := HM.out
    clear HM
    have HO := Aside0.mk HO
    have HBL := Aside0.mk hb
    have Ha := Aside0.mk ha
    have hc1 : wr.cell? ⟨g, 0, none⟩ = some (.slice A1 acc.length c1) := (blk_cell hb 0).trans rfl
    clear ha hb
    by_cases hlt : i < (l.length : Int)
    · obtain ⟨ad, e, hx⟩ := Kd.at_int HR.out i hi0 hlt
      cases e
      have hxi := (hbel.cell (World.block_lt_of_cell? w _ hx)).trans hx
      have HB := Aside0.mk hbel
      clear hbel hx
      rw [lns_drop l fr i hi0 hlt] at hl
      by_cases h10 : rd l i = 10
      · rw [if_pos h10] at hl
        have Hl := Aside0.mk (acc_step _ _ _ _ hl)
        clear hl
        rw [h10] at hxi
        go_wp2_with (at_builtin; refine Kd.R_append kLn (w0 := w) w.heap.size rfl (.tmp 67) (.tmp 73) 54 90 (.agg #[.int .i64 0, .int .i64 0, .int .i64 0]) 24 rfl Try.underlying54 infoLn rfl (by decide) (by omega) (.slice A1 acc.length c1) acc ⟨fr, i, i + 1⟩ [.int .i64 fr, .int .i64 (i), .int .i64 (i + 1)] (fun k => some k ≠ some g) (fun _ => False) rfl rfl (kLn_mkM _ _ _ ⟨fr, i, i + 1⟩) (fun _ h => h.elim) ?aF ?aO ?aB ?aS ?aL ?_; (case aF => intro k hk e; have := blk_lt HBL.out; injection e with e; first | omega | (simp at hk; omega)); (case aO => (with_reducible repeat (first | apply Kd.R_alloc | apply Kd.R_drewN | apply Kd.R_drew)); exact HO.out); (case aB => repeat (first | exact HB.out | apply pw_below_drewN | apply below_drew1)); (case aS => exact HB.out.size); (case aL => have := Ha.out; omega); intro v1 w1 ho hb hg hat; obtain ⟨A2, c2, rfl⟩ := Kd.R_slice ho; have hbl1 := blk_grown HBL.out hg (fun e => HO.out.1 g e.symm rfl); have hc2 : w1.cell? ⟨g, 0, none⟩ = some (.slice A1 acc.length c1) := (blk_cell hbl1 0).trans rfl; have hf2 := blk_frozen hbl1 0; have HO2 := Aside0.mk ho; have HB2 := Aside0.mk hb; have HBL2 := Aside0.mk hbl1; clear ho hb hg hat hbl1)
        go_roundw
        case measure => simp [intOf]; omega
        case rel => exact ⟨i + 1, i + 1, rfl, rfl, by omega, by omega, ⟨Made.after hnew HB2.out HBL2.out rfl HO2.out Hl.out (by have := Ha.out; omega)⟩⟩
      · rw [if_neg h10] at hl
        have b10 : (rd l i != 10) = true := bne_iff_ne.mpr h10
        by_cases h13 : rd l i = 13
        · rw [if_pos h13] at hl
          clear b10
          rw [h13] at hxi
          by_cases h2 : i + 1 < (l.length : Int)
          · obtain ⟨ad2, e2, hx2⟩ := Kd.at_int HR.out (i + 1) (by omega) h2
            cases e2
            have hxj := (HB.out.cell (World.block_lt_of_cell? w _ hx2)).trans hx2
            clear hx2
            have p2 : 0 ≤ i + 1 := by omega
            by_cases h3 : rd l (i + 1) = 10
            · rw [if_pos ⟨h2, h3⟩] at hl
              have Hl := Aside0.mk (acc_step _ _ _ _ hl)
              clear hl
              rw [h3] at hxj
              go_wp2_with (at_builtin; refine Kd.R_append kLn (w0 := w) w.heap.size rfl (.tmp 67) (.tmp 73) 54 90 (.agg #[.int .i64 0, .int .i64 0, .int .i64 0]) 24 rfl Try.underlying54 infoLn rfl (by decide) (by omega) (.slice A1 acc.length c1) acc ⟨fr, i, i + 1 + 1⟩ [.int .i64 fr, .int .i64 (i), .int .i64 (i + 1 + 1)] (fun k => some k ≠ some g) (fun _ => False) rfl rfl (kLn_mkM _ _ _ ⟨fr, i, i + 1 + 1⟩) (fun _ h => h.elim) ?aF ?aO ?aB ?aS ?aL ?_; (case aF => intro k hk e; have := blk_lt HBL.out; injection e with e; first | omega | (simp at hk; omega)); (case aO => (with_reducible repeat (first | apply Kd.R_alloc | apply Kd.R_drewN | apply Kd.R_drew)); exact HO.out); (case aB => repeat (first | exact HB.out | apply pw_below_drewN | apply below_drew1)); (case aS => exact HB.out.size); (case aL => have := Ha.out; omega); intro v1 w1 ho hb hg hat; obtain ⟨A2, c2, rfl⟩ := Kd.R_slice ho; have hbl1 := blk_grown HBL.out hg (fun e => HO.out.1 g e.symm rfl); have hc2 : w1.cell? ⟨g, 0, none⟩ = some (.slice A1 acc.length c1) := (blk_cell hbl1 0).trans rfl; have hf2 := blk_frozen hbl1 0; have HO2 := Aside0.mk ho; have HB2 := Aside0.mk hb; have HBL2 := Aside0.mk hbl1; clear ho hb hg hat hbl1)
              go_roundw
              case measure => simp [intOf]; omega
              case rel => exact ⟨i + 1 + 1, i + 1 + 1, rfl, rfl, by omega, by omega, ⟨Made.after hnew HB2.out HBL2.out rfl HO2.out (by rw [show i + 1 + 1 = i + 2 by omega]; exact Hl.out) (by have := Ha.out; omega)⟩⟩
            · rw [if_neg (fun h => h3 h.2)] at hl
              have Hl := Aside0.mk (acc_step _ _ _ _ hl)
              have b3 : (rd l (i + 1) == 10) = false := beq_eq_false_iff_ne.mpr h3
              clear hl
              go_wp2_with (at_builtin; refine Kd.R_append kLn (w0 := w) w.heap.size rfl (.tmp 67) (.tmp 73) 54 90 (.agg #[.int .i64 0, .int .i64 0, .int .i64 0]) 24 rfl Try.underlying54 infoLn rfl (by decide) (by omega) (.slice A1 acc.length c1) acc ⟨fr, i, i + 1⟩ [.int .i64 fr, .int .i64 (i), .int .i64 (i + 1)] (fun k => some k ≠ some g) (fun _ => False) rfl rfl (kLn_mkM _ _ _ ⟨fr, i, i + 1⟩) (fun _ h => h.elim) ?aF ?aO ?aB ?aS ?aL ?_; (case aF => intro k hk e; have := blk_lt HBL.out; injection e with e; first | omega | (simp at hk; omega)); (case aO => (with_reducible repeat (first | apply Kd.R_alloc | apply Kd.R_drewN | apply Kd.R_drew)); exact HO.out); (case aB => repeat (first | exact HB.out | apply pw_below_drewN | apply below_drew1)); (case aS => exact HB.out.size); (case aL => have := Ha.out; omega); intro v1 w1 ho hb hg hat; obtain ⟨A2, c2, rfl⟩ := Kd.R_slice ho; have hbl1 := blk_grown HBL.out hg (fun e => HO.out.1 g e.symm rfl); have hc2 : w1.cell? ⟨g, 0, none⟩ = some (.slice A1 acc.length c1) := (blk_cell hbl1 0).trans rfl; have hf2 := blk_frozen hbl1 0; have HO2 := Aside0.mk ho; have HB2 := Aside0.mk hb; have HBL2 := Aside0.mk hbl1; clear ho hb hg hat hbl1)
              go_roundw
              case measure => simp [intOf]; omega
              case rel => exact ⟨i + 1, i + 1, rfl, rfl, by omega, by omega, ⟨Made.after hnew HB2.out HBL2.out rfl HO2.out Hl.out (by have := Ha.out; omega)⟩⟩
          · rw [if_neg (fun h => h2 h.1)] at hl
            have Hl := Aside0.mk (acc_step _ _ _ _ hl)
            clear hl
            go_wp2_with (at_builtin; refine Kd.R_append kLn (w0 := w) w.heap.size rfl (.tmp 67) (.tmp 73) 54 90 (.agg #[.int .i64 0, .int .i64 0, .int .i64 0]) 24 rfl Try.underlying54 infoLn rfl (by decide) (by omega) (.slice A1 acc.length c1) acc ⟨fr, i, i + 1⟩ [.int .i64 fr, .int .i64 (i), .int .i64 (i + 1)] (fun k => some k ≠ some g) (fun _ => False) rfl rfl (kLn_mkM _ _ _ ⟨fr, i, i + 1⟩) (fun _ h => h.elim) ?aF ?aO ?aB ?aS ?aL ?_; (case aF => intro k hk e; have := blk_lt HBL.out; injection e with e; first | omega | (simp at hk; omega)); (case aO => (with_reducible repeat (first | apply Kd.R_alloc | apply Kd.R_drewN | apply Kd.R_drew)); exact HO.out); (case aB => repeat (first | exact HB.out | apply pw_below_drewN | apply below_drew1)); (case aS => exact HB.out.size); (case aL => have := Ha.out; omega); intro v1 w1 ho hb hg hat; obtain ⟨A2, c2, rfl⟩ := Kd.R_slice ho; have hbl1 := blk_grown HBL.out hg (fun e => HO.out.1 g e.symm rfl); have hc2 : w1.cell? ⟨g, 0, none⟩ = some (.slice A1 acc.length c1) := (blk_cell hbl1 0).trans rfl; have hf2 := blk_frozen hbl1 0; have HO2 := Aside0.mk ho; have HB2 := Aside0.mk hb; have HBL2 := Aside0.mk hbl1; clear ho hb hg hat hbl1)
            go_roundw
            case measure => simp [intOf]; omega
            case rel => exact ⟨i + 1, i + 1, rfl, rfl, by omega, by omega, ⟨Made.after hnew HB2.out HBL2.out rfl HO2.out Hl.out (by have := Ha.out; omega)⟩⟩
        · rw [if_neg h13] at hl
          have Hl := Aside0.mk hl
          have b13 : (rd l i != 13) = true := bne_iff_ne.mpr h13
          clear hl
          go_wp2
          go_roundw
          case measure => simp [intOf]; omega
          case rel => exact ⟨fr, i + 1, rfl, rfl, by omega, by omega, ⟨HB.out, hnew, A1, c1, acc, HBL.out, HO.out, Hl.out, by have := Ha.out; omega⟩⟩
    · obtain rfl : i = l.length := by omega
      have hl2 : acc ++ [⟨fr, (l.length : Int), (l.length : Int)⟩] = lns l 0 0 := by rw [← hl]; simp [lns]
      have Hl := Aside0.mk hl2
      have HB := Aside0.mk hbel
      clear hl hl2 hbel
      go_wp2_with (at_builtin; refine Kd.R_append kLn (w0 := w) w.heap.size rfl (.tmp 83) (.tmp 90) 54 90 (.agg #[.int .i64 0, .int .i64 0, .int .i64 0]) 24 rfl Try.underlying54 infoLn rfl (by decide) (by omega) (.slice A1 acc.length c1) acc ⟨fr, (l.length : Int), (l.length : Int)⟩ [.int .i64 fr, .int .i64 ((l.length : Int)), .int .i64 ((l.length : Int))] (fun k => some k ≠ some g) (fun _ => False) rfl rfl (kLn_mkM _ _ _ ⟨fr, (l.length : Int), (l.length : Int)⟩) (fun _ h => h.elim) ?aF ?aO ?aB ?aS ?aL ?_; (case aF => intro k hk e; have := blk_lt HBL.out; injection e with e; first | omega | (simp at hk; omega)); (case aO => (with_reducible repeat (first | apply Kd.R_alloc | apply Kd.R_drewN | apply Kd.R_drew)); exact HO.out); (case aB => repeat (first | exact HB.out | apply pw_below_drewN | apply below_drew1)); (case aS => exact HB.out.size); (case aL => have := Ha.out; omega); intro v1 w1 ho hb hg hat; obtain ⟨A2, c2, rfl⟩ := Kd.R_slice ho; have hbl1 := blk_grown HBL.out hg (fun e => HO.out.1 g e.symm rfl); have hc2 : w1.cell? ⟨g, 0, none⟩ = some (.slice A1 acc.length c1) := (blk_cell hbl1 0).trans rfl; have hf2 := blk_frozen hbl1 0; have HO2 := Aside0.mk ho; have HB2 := Aside0.mk hb; have HBL2 := Aside0.mk hbl1; clear ho hb hg hat hbl1)
      go_ret2
      have hR := Kd.R_far (p := ⟨g, 0, none⟩) HO2.out (fun k hk e => hk (by rw [e])) (.slice A2 (acc.length + 1) c2)
      refine ⟨g, rfl, hnew, ?_, HB2.out.setCell hnew _⟩
      rw [← Hl.out]
      refine idx_from hnew ?_ hR
      rw [show (acc ++ [(⟨fr, (l.length : Int), (l.length : Int)⟩ : Ln)]).length = acc.length + 1 by simp, blk_set HBL2.out]
      rfl
theorem New_ok (k : Nat) (A : Option Addr) (c : Nat) (l : List Int) (r1 : Int) (w : World) (hr : Kd.C (Kd.int .u8) w A l.length l) (hc : l.length ≤ c) (h : runes_Check.f k l = some (r1, 0)) (hs : l.length ≤ 1048576) :
    Calls Try.prog 21 #[.slice A l.length c] w fun e w' => ∃ a, e = .returned (.tuple #[.pointer (some ⟨a, 0, none⟩), .int .i64 0]) ∧ w.heap.size ≤ a ∧ IsIdx w' a (lns l 0 0) ∧ Below w.heap.size w w' :=
  (New_all k A c l r1 w hr hc h hs).mono fun _ _ ⟨a, h1, h2, h3, h4⟩ => ⟨a, h1, h2, h3.now, h4⟩
end Go.Proofs.Ytogfaahdbecdnaa.B

/-
  lines: Line, Find (with sort.Search), walked.
-/
namespace Go.Proofs.Ytogfaahdbecdnaa.B
open Go.RowKit Go.Proofs.YtogfaahdbecdnaaW.PrintWords Go.Proofs.YtogfaahdbecdnaaW.PrintLast Go.Proofs.YtogfaahdbecdnaaW.PrintMore Go.Proofs.Ytogfaahdbecdnaa.FBase
set_option linter.unusedVariables false

/-- (*lines.Index).Find's closure: does that line end behind the byte? -/
theorem FindFn (ba bx a : Nat) (L : List Ln) (at_ : Int) (i : Nat) (w : World) (hi : i < L.length) (h1 : w.cell? ⟨ba, 0, none⟩ = some (.int .i64 at_)) (h2 : w.cell? ⟨bx, 0, none⟩ = some (.pointer (some ⟨a, 0, none⟩))) (hI : IsIdx w a L) :
    Calls Try.prog 61 #[.int .i64 i, .pointer (some ⟨ba, 0, none⟩), .pointer (some ⟨bx, 0, none⟩)] w fun e w' => e = .returned (.bool (decide (at_ < (rdLn L i).f2))) ∧ ∃ q, w' = w.drewN q := by
  obtain ⟨A, c, h3, hl, hC⟩ := hI.cell
  obtain ⟨ad, e, _, _, h4⟩ := atLn hC i (by omega) (by omega)
  cases e
  rw [Int.toNat_natCast] at h4
  have hi2 : (i : Int) < (L.length : Int) := by omega
  generalize L.length = n at *
  clear hC hI
  generalize (rdLn L ↑i).f2 = z at *
  go_enter Try.func61, Try.ntmps61
  go_wp2
  go_quiet (fail)
  go_wp2
  go_ret
  exact ⟨rfl, _, rfl⟩

set_option maxHeartbeats 1000000 in
/-- sort.Search over that closure: the least place at which it says yes, where it goes on to say so. -/
theorem Search (cb : Array Value) (n : Nat) (p : Nat → Bool) (w : World) (hsz : n < 4611686018427387904)
    (hf : ∀ (m : Nat) (i : Nat), i < n → Calls Try.prog 61 (#[.int .i64 i] ++ cb) (w.drewN m) fun e w' => e = .returned (.bool (p i)) ∧ ∃ q, w' = (w.drewN m).drewN q)
    (hmono : ∀ a b, a ≤ b → b < n → p a = true → p b = true) :
    Calls Try.prog 60 #[.int .i64 n, .func (.func 61) #[] cb] w fun e w' => ∃ r : Nat, e = .returned (.int .i64 r) ∧ r ≤ n ∧ (∀ t, t < r → p t = false) ∧ (∀ t, r ≤ t → t < n → p t = true) ∧ ∃ q, w' = w.drewN q := by
  have HF := Aside0.mk hf
  have M := Aside0.mk hmono
  clear hf hmono
  go_enter Try.func60, Try.ntmps60
  go_wp2
  go_loopg [5, 6] n (fun kx s5 s6 wr => ∃ (lo hi q : Nat), s5 = .int .i64 lo ∧ s6 = .int .i64 hi ∧ lo ≤ hi ∧ hi ≤ n ∧ hi - lo ≤ kx ∧ wr = w.drewN q ∧
    Aside0 ((∀ t, t < lo → p t = false) ∧ (∀ t, hi ≤ t → t < n → p t = true)))
  case atStart => exact ⟨0, n, 0, rfl, rfl, Nat.zero_le _, Nat.le_refl _, by omega, rfl, ⟨fun t ht => absurd ht (Nat.not_lt_zero _), fun t h1 h2 => by omega⟩⟩
  case round =>
    obtain ⟨lo, hi, q, rfl, rfl, hlh, hin, hg, rfl, I⟩ := hrel
    by_cases hlt : lo < hi
    · have hc := HF.out q ((lo + hi) / 2) (by omega)
      rw [show (((lo + hi) / 2 : Nat) : Int) = ((lo : Int) + (hi : Int)) / 2 by omega] at hc
      cases hp : p ((lo + hi) / 2) <;> rw [hp] at hc
      · have HP := Aside0.mk hp
        clear hp
        go_wp2_with (go_at_call 61; refine hc.mono ?_; rintro e w' ⟨rfl, nq, rfl⟩)
        go_roundg (hi - ((lo + hi) / 2 + 1))
        case measure => omega
        case rel =>
          have I2 : Aside0 ((∀ t, t < (lo + hi) / 2 + 1 → p t = false) ∧ (∀ t, hi ≤ t → t < n → p t = true)) := ⟨fun t ht => (by
            cases h : p t with
            | false => rfl
            | true => have := M.out t ((lo + hi) / 2) (by omega) (by omega) h; rw [HP.out] at this; cases this), I.out.2⟩
          exact ⟨(lo + hi) / 2 + 1, hi, q + nq, by rw [show ((lo : Int) + (hi : Int)) / 2 + 1 = (((lo + hi) / 2 + 1 : Nat) : Int) by omega], rfl, by omega, hin, Nat.le_refl _, rfl, I2⟩
      · have HP := Aside0.mk hp
        clear hp
        go_wp2_with (go_at_call 61; refine hc.mono ?_; rintro e w' ⟨rfl, nq, rfl⟩)
        go_roundg ((lo + hi) / 2 - lo)
        case measure => omega
        case rel =>
          have I2 : Aside0 ((∀ t, t < lo → p t = false) ∧ (∀ t, (lo + hi) / 2 ≤ t → t < n → p t = true)) := ⟨I.out.1, fun t ht htn => M.out ((lo + hi) / 2) t ht htn HP.out⟩
          exact ⟨lo, (lo + hi) / 2, q + nq, rfl, by rw [show ((lo : Int) + (hi : Int)) / 2 = (((lo + hi) / 2 : Nat) : Int) by omega], by omega, by omega, Nat.le_refl _, rfl, I2⟩
    · obtain rfl : hi = lo := by omega
      go_wp2
      go_ret
      exact ⟨hi, rfl, hin, I.out.1, I.out.2, q, rfl⟩

theorem cell_alloc2 {w : World} {p : Addr} {v : Value} (h : w.cell? p = some v) : ∀ o1 o2 : Obj, ((w.alloc o1).alloc o2).cell? p = some v := by
  intro o1 o2
  have hb := World.block_lt_of_cell? w _ h
  exact ((below_alloc (below_alloc (Below.refl w.heap.size w) o1) o2).cell hb).trans h
theorem cell_alloc3 {w : World} {p : Addr} {v : Value} (h : w.cell? p = some v) : ∀ o1 o2 o3 : Obj, (((w.alloc o1).alloc o2).alloc o3).cell? p = some v := by
  intro o1 o2 o3
  have hb := World.block_lt_of_cell? w _ h
  exact ((below_alloc (below_alloc (below_alloc (Below.refl w.heap.size w) o1) o2) o3).cell hb).trans h

set_option maxHeartbeats 1000000 in
/-- (*lines.Index).Line of a line that there is. -/
theorem Line_ok (a : Nat) (L : List Ln) (i : Int) (w : World) (hI : IsIdx w a L) (h0 : 0 ≤ i) (h1 : i < L.length) (hs : L.length ≤ 2097152) :
    Calls Try.prog 27 #[.pointer (some ⟨a, 0, none⟩), .int .i64 i] w fun e w' => e = .returned (.tuple #[.agg #[.int .i64 (rdLn L i).f0, .int .i64 (rdLn L i).f2], .agg #[.int .i64 (rdLn L i).f0, .int .i64 (rdLn L i).f1], .int .i64 0]) ∧ Below w.heap.size w w' := by
  have HI := Aside0.mk hI
  obtain ⟨A, c, h3, hl, hC⟩ := hI.cell
  obtain ⟨ad, e, h4, h5, h6⟩ := atLn hC i h0 h1
  cases e
  have hpos : 0 < L.length := by omega
  clear hC hI
  generalize (rdLn L i).f0 = x0 at *
  generalize (rdLn L i).f1 = x1 at *
  generalize (rdLn L i).f2 = x2 at *
  have g3 := cell_alloc2 h3
  have g4 := cell_alloc2 h4
  have g5 := cell_alloc2 h5
  have g6 := cell_alloc2 h6
  clear h3 h4 h5 h6
  have hlt : decide (i < 0) = false := decide_eq_false (by omega)
  have hge : decide ((L.length : Int) ≤ i) = false := decide_eq_false (by omega)
  go_enter Try.func27, Try.ntmps27
  go_wp2_with (go_at_call 58; refine (none_idx _ a L (by repeat (first | exact HI.out | apply IsIdx.alloc | apply IsIdx.drewN)) hpos).mono ?_; rintro e w' ⟨rfl, rfl⟩)
  go_region
  go_wp2
  refine bodyPost_ret (v := .tuple #[.agg #[.int .i64 x0, .int .i64 x2], .agg #[.int .i64 x0, .int .i64 x1], .int .i64 0]) (by simp [results, Try.results27, go_sem]) rfl ⟨rfl, ?_⟩
  repeat (first | exact Below.refl _ _ | apply below_alloc | apply pw_below_drewN | apply below_drew1 | refine Below.setCell ?_ (by simp) _)
end Go.Proofs.Ytogfaahdbecdnaa.B

/-
  lines: Line beyond the lines, Find, All, Count, walked.
-/
namespace Go.Proofs.Ytogfaahdbecdnaa.B
open Go.RowKit Go.Proofs.YtogfaahdbecdnaaW.PrintWords Go.Proofs.YtogfaahdbecdnaaW.PrintLast Go.Proofs.YtogfaahdbecdnaaW.PrintMore Go.Proofs.Ytogfaahdbecdnaa.FBase
set_option linter.unusedVariables false

set_option maxHeartbeats 1000000 in
/-- (*lines.Index).Line of a line that there isn't. -/
theorem Line_out (a : Nat) (L : List Ln) (i : Int) (w : World) (hI : IsIdx w a L) (hpos : 0 < L.length) (h1 : i < 0 ∨ L.length ≤ i) (hs : L.length ≤ 2097152) :
    Calls Try.prog 27 #[.pointer (some ⟨a, 0, none⟩), .int .i64 i] w fun e w' => e = .returned (.tuple #[.agg #[.int .i64 0, .int .i64 0], .agg #[.int .i64 0, .int .i64 0], .int .i64 9]) ∧ Below w.heap.size w w' := by
  have HI := Aside0.mk hI
  obtain ⟨A, c, h3, hl, hC⟩ := hI.cell
  clear hC hI
  have g3 := cell_alloc2 h3
  clear h3
  by_cases hlt : i < 0
  all_goals
    have hge : ¬ i < 0 → decide ((L.length : Int) ≤ i) = true := fun h => decide_eq_true (by omega)
    go_enter Try.func27, Try.ntmps27
    go_wp2_with (go_at_call 58; refine (none_idx _ a L (by repeat (first | exact HI.out | apply IsIdx.alloc | apply IsIdx.drewN)) hpos).mono ?_; rintro e w' ⟨rfl, rfl⟩)
    refine bodyPost_ret (v := .tuple #[.agg #[.int .i64 0, .int .i64 0], .agg #[.int .i64 0, .int .i64 0], .int .i64 9]) (by simp [results, Try.results27, go_sem]) rfl ⟨rfl, ?_⟩
    repeat (first | exact Below.refl _ _ | apply below_alloc | apply pw_below_drewN | apply below_drew1 | refine Below.setCell ?_ (by simp) _)

set_option maxHeartbeats 1000000 in
/-- (*lines.Index).Line of nil. -/
theorem Line_nil (i : Int) (w : World) :
    Calls Try.prog 27 #[.pointer none, .int .i64 i] w fun e w' => e = .returned (.tuple #[.agg #[.int .i64 0, .int .i64 0], .agg #[.int .i64 0, .int .i64 0], .int .i64 1]) ∧ Below w.heap.size w w' := by
  go_enter Try.func27, Try.ntmps27
  go_wp2_with (go_at_call 58; refine (none_nil _).mono ?_; rintro e w' ⟨rfl, rfl⟩)
  refine bodyPost_ret (v := .tuple #[.agg #[.int .i64 0, .int .i64 0], .agg #[.int .i64 0, .int .i64 0], .int .i64 1]) (by simp [results, Try.results27, go_sem]) rfl ⟨rfl, ?_⟩
  repeat (first | exact Below.refl _ _ | apply below_alloc | apply pw_below_drewN | apply below_drew1 | refine Below.setCell ?_ (by simp) _)

/-- Lines rise. -/
def Rises (L : List Ln) : Prop := ∀ a b : Nat, a ≤ b → b < L.length → (rdLn L a).f2 ≤ (rdLn L b).f2

set_option maxHeartbeats 1000000 in
/-- (*lines.Index).Find of a byte that there is. -/
theorem Find_ok (a : Nat) (L : List Ln) (at_ : Int) (w : World) (hI : IsIdx w a L) (hpos : 0 < L.length) (h0 : 0 ≤ at_) (h1 : at_ ≤ (rdLn L ((L.length : Int) - 1)).f2) (hs : L.length ≤ 2097152) (hr : Rises L) :
    Calls Try.prog 31 #[.pointer (some ⟨a, 0, none⟩), .int .i64 at_] w fun e w' => ∃ r : Nat, e = .returned (.tuple #[.int .i64 r, .int .i64 0]) ∧ r < L.length ∧ (∀ t : Nat, t < r → (rdLn L t).f2 ≤ at_) ∧ (∀ t : Nat, r ≤ t → t + 1 < L.length → at_ < (rdLn L t).f2) ∧ Below w.heap.size w w' := by
  have HI := Aside0.mk hI
  have HRS := Aside0.mk hr
  obtain ⟨A, c, h3, hl, hC⟩ := hI.cell
  obtain ⟨n, hn⟩ : ∃ n, L.length = n + 1 := ⟨L.length - 1, by omega⟩
  rw [hn] at h3 hl hC hs h1
  rw [show (((n + 1 : Nat) : Int) - 1) = (n : Int) by omega] at h1
  obtain ⟨ad, e, _, _, h4⟩ := atLn hC (n : Int) (by omega) (by omega)
  cases e
  rw [Int.toNat_natCast] at h4
  clear hC hI hr
  have HN := Aside0.mk hn
  clear hn
  have g3 := cell_alloc2 h3
  have g4 := cell_alloc2 h4
  clear h3 h4
  have hlt : decide (at_ < 0) = false := decide_eq_false (by omega)
  have hgt : decide ((rdLn L (n : Int)).f2 < at_) = false := decide_eq_false (by omega)
  have HS : Aside0 (∀ t : Nat, t ≤ n → ∃ z, z = (rdLn L t).f2) := ⟨fun t _ => ⟨_, rfl⟩⟩
  go_enter Try.func31, Try.ntmps31
  go_wp2_with (go_at_call 58; refine (none_idx _ a L (by repeat (first | exact HI.out | apply IsIdx.alloc | apply IsIdx.drewN)) hpos).mono ?_; rintro e w' ⟨rfl, rfl⟩)
  go_quiet (fail)
  go_wp2_with fail
  refine (Search #[Value.pointer (some ⟨w.heap.size + 1, 0, none⟩), Value.pointer (some ⟨w.heap.size, 0, none⟩)] n (fun t => decide (at_ < (rdLn L t).f2)) _ (by omega) ?hf ?hm).mono ?_
  case hf =>
    intro m i hi
    refine FindFn (w.heap.size + 1) w.heap.size a L at_ i _ (by have := HN.out; omega) ?_ ?_ ?_
    · show ((w.alloc (Obj.cells #[Value.pointer (some ⟨a, 0, none⟩)] 24)).alloc (Obj.cells #[Value.int .i64 at_] 3)).cell? ⟨w.heap.size + 1, 0, none⟩ = _
      simp
    · show ((w.alloc (Obj.cells #[Value.pointer (some ⟨a, 0, none⟩)] 24)).alloc (Obj.cells #[Value.int .i64 at_] 3)).cell? ⟨w.heap.size, 0, none⟩ = _
      simp
    · repeat (first | exact HI.out | apply IsIdx.drewN | apply IsIdx.alloc)
  case hm => exact fun x y hxy hy hx => decide_eq_true (by have := HRS.out x y hxy (by have := HN.out; omega); have := of_decide_eq_true hx; omega)
  rintro e w' ⟨r, rfl, hr, h1, h2, q, rfl⟩
  have K1 := Aside0.mk h1
  have K2 := Aside0.mk h2
  clear h1 h2
  go_wp2
  go_ret2
  refine ⟨r, rfl, by have := HN.out; omega, fun t ht => by have := of_decide_eq_false (K1.out t ht); omega, fun t h1 h2 => of_decide_eq_true (K2.out t h1 (by have := HN.out; omega)), ?_⟩
  repeat (first | exact Below.refl _ _ | apply below_alloc | apply pw_below_drewN | apply below_drew1 | refine Below.setCell ?_ (by simp) _)

set_option maxHeartbeats 1000000 in
/-- (*lines.Index).Find of a byte that there isn't. -/
theorem Find_out (a : Nat) (L : List Ln) (at_ : Int) (w : World) (hI : IsIdx w a L) (hpos : 0 < L.length) (h1 : at_ < 0 ∨ (rdLn L ((L.length : Int) - 1)).f2 < at_) (hs : L.length ≤ 2097152) :
    Calls Try.prog 31 #[.pointer (some ⟨a, 0, none⟩), .int .i64 at_] w fun e w' => e = .returned (.tuple #[.int .i64 0, .int .i64 9]) ∧ Below w.heap.size w w' := by
  have HI := Aside0.mk hI
  obtain ⟨A, c, h3, hl, hC⟩ := hI.cell
  obtain ⟨n, hn⟩ : ∃ n, L.length = n + 1 := ⟨L.length - 1, by omega⟩
  rw [hn] at h3 hl hC hs h1
  rw [show (((n + 1 : Nat) : Int) - 1) = (n : Int) by omega] at h1
  obtain ⟨ad, e, _, _, h4⟩ := atLn hC (n : Int) (by omega) (by omega)
  cases e
  rw [Int.toNat_natCast] at h4
  clear hC hI
  clear hn
  have g3 := cell_alloc2 h3
  have g4 := cell_alloc2 h4
  clear h3 h4
  generalize (rdLn L (n : Int)).f2 = z at *
  by_cases hlt0 : at_ < 0
  · have hlt : decide (at_ < 0) = true := decide_eq_true hlt0
    clear h1
    go_enter Try.func31, Try.ntmps31
    go_wp2_with (go_at_call 58; refine (none_idx _ a L (by repeat (first | exact HI.out | apply IsIdx.alloc | apply IsIdx.drewN)) hpos).mono ?_; rintro e w' ⟨rfl, rfl⟩)
    go_quiet (fail)
    go_wp2
    go_ret2
    refine ⟨rfl, ?_⟩
    repeat (first | exact Below.refl _ _ | apply below_alloc | apply pw_below_drewN | apply below_drew1 | refine Below.setCell ?_ (by simp) _)
  · have hlt : decide (at_ < 0) = false := decide_eq_false hlt0
    have hgt : decide (z < at_) = true := decide_eq_true (by omega)
    go_enter Try.func31, Try.ntmps31
    go_wp2_with (go_at_call 58; refine (none_idx _ a L (by repeat (first | exact HI.out | apply IsIdx.alloc | apply IsIdx.drewN)) hpos).mono ?_; rintro e w' ⟨rfl, rfl⟩)
    go_quiet (fail)
    go_wp2
    go_ret2
    refine ⟨rfl, ?_⟩
    repeat (first | exact Below.refl _ _ | apply below_alloc | apply pw_below_drewN | apply below_drew1 | refine Below.setCell ?_ (by simp) _)
end Go.Proofs.Ytogfaahdbecdnaa.B

/-
  lines: All (a range over a function), Count, walked.
-/
namespace Go.Proofs.Ytogfaahdbecdnaa.B
open Go.RowKit Go.Shelf Go.Proofs Go.Proofs.YtogfaahdbecdnaaW.PrintWords Go.Proofs.YtogfaahdbecdnaaW.PrintLast Go.Proofs.YtogfaahdbecdnaaW.PrintMore Go.Proofs.Ytogfaahdbecdnaa.FBase
set_option linter.unusedVariables false
attribute [local go_sem] Oper.semAt_some

/-- What has come when k rounds are over: f 0, .., f (k - 1). -/
def upto {α : Type} (f : Nat → α) (k : Nat) : List α := (List.range k).map f
theorem upto_succ {α : Type} (f : Nat → α) (k : Nat) : upto f (k + 1) = upto f k ++ [f k] := by simp [upto, List.range_succ]
theorem upto_length {α : Type} (f : Nat → α) (k : Nat) : (upto f k).length = k := by simp [upto]

/-- A line's number and its plain span, as All yields them. -/
abbrev encLn (x : Nat × Ln) : Array Value := #[.int .i64 (x.1 : Int), .agg #[.int .i64 x.2.f0, .int .i64 x.2.f1]]
abbrev nthLn (L : List Ln) (j : Nat) : Nat × Ln := (j, rdLn L (j : Int))

set_option maxRecDepth 100000 in
set_option maxHeartbeats 2000000 in
/-- All's closure, for every loop body that keeps what lay below n₀. -/
theorem All1 (n : Nat) (hn : 1 ≤ n) (l Bs n₀ a : Nat) (L : List Ln) (hpos : 0 < L.length) (hs : L.length ≤ 2097152) (J Jx : List (Nat × Ln) → World → Prop)
    (W : World) (hJ : AbidesFrom W.heap.size J) (hJx : AbidesFrom W.heap.size Jx)
    (hY : ∀ pre x W1, J pre W1 → pre.length < L.length → YieldAt Fence.wide (n - 1) Try.prog l (encLn x) W1 fun e W' =>
      (e = .returned (.bool true) ∧ J (pre ++ [x]) W' ∧ Below n₀ W1 W') ∨ (e = .returned (.bool false) ∧ Jx (pre ++ [x]) W'))
    (w0 : World) (hw0 : w0.heap.size = n₀) (hbW : Below n₀ w0 W) (hI : IsIdx w0 a L) (hBs : W.cell? ⟨Bs, 0, none⟩ = some (.pointer (some ⟨a, 0, none⟩))) (h0 : J [] W) :
    CallsIn Fence.wide n Try.prog 59 #[.func (.yield l) #[] #[], .pointer (some ⟨Bs, 0, none⟩)] W fun e W' => (∃ v, e = .returned v) ∧
      ((∃ ys, ys = upto (nthLn L) L.length ∧ J ys W') ∨ (∃ pre, (∃ k, k ≤ L.length ∧ pre = upto (nthLn L) k) ∧ Jx pre W')) := by
  subst hw0
  have HI := Aside0.mk hI
  have hbW' : Below w0.heap.size w0 W := hbW
  obtain ⟨A, c, h3, hl, hC⟩ := hI.cell
  have h3W := (hbW.cell (World.block_lt_of_cell? w0 _ h3)).trans h3
  have HC := Aside0.mk hC
  have HB := Aside0.mk hbW
  have HJ := Aside0.mk hJ
  have HY := Aside0.mk hY
  clear hI hC hJ hJx hbW hbW' hY h3
  refine callsIn_of_wp Try.func59 rfl trivial ?_ rfl
  simp only [Try.ntmps59, List.size_toArray, List.length_cons, List.length_nil, Nat.reduceAdd, Nat.reduceSub, Array.replicate_succ, Array.replicate_zero, List.push_toArray, List.append_toArray, List.nil_append, List.cons_append]
  gi_wp2_with (refine ⟨trivial, ?_⟩; gi_at_call 58; refine (callsIn_wide.2 (none_idx _ a L (IsIdx.below HI.out HB.out) hpos)).mono ?_; rintro e w' ⟨rfl, rfl⟩)
  gi_loopw [12] (fun i wr => ∃ k : Nat, k ≤ L.length ∧ i = .int .i64 k ∧ Aside0 (J (upto (nthLn L) k) wr) ∧ Aside0 (Below w0.heap.size W wr) ∧ Aside0 (W.heap.size ≤ wr.heap.size))
    (fun i _ => L.length - (intOf i).toNat)
  case atStart => exact ⟨0, Nat.zero_le _, rfl, ⟨h0⟩, ⟨Below.refl _ _⟩, ⟨Nat.le_refl _⟩⟩
  case round =>
    obtain ⟨k, hk, rfl, HJs, HBr, HSz⟩ := hrel
    by_cases hlt : k < L.length
    · obtain ⟨ad, e, h4, h5, h6⟩ := atLn HC.out (k : Int) (by omega) (by omega)
      cases e
      rw [Int.toNat_natCast] at h4 h5 h6
      have hB2 := HB.out.trans HBr.out
      have g4 := (hB2.cell (World.block_lt_of_cell? w0 _ h4)).trans h4
      have g5 := (hB2.cell (World.block_lt_of_cell? w0 _ h5)).trans h5
      have g6 := (hB2.cell (World.block_lt_of_cell? w0 _ h6)).trans h6
      clear h4 h5 h6 hB2
      have hJa : J (upto (nthLn L) k) (wr.alloc (.cells #[.int .i64 (rdLn L k).f0, .int .i64 (rdLn L k).f1, .int .i64 (rdLn L k).f2] 90)) :=
        HJ.out _ _ _ none HJs.out (World.grownBy_alloc _ _ none) (fun r e => by cases e)
      obtain ⟨fn, tmps, assign, body, hy, hR⟩ := HY.out _ (nthLn L k) _ hJa (by rw [upto_length]; exact hlt)
      dsimp only [encLn, nthLn] at hy
      gi_wp2
      refine hR.mono ?_
      rintro e W3 (⟨rfl, hJ3, hk3⟩ | ⟨rfl, hJx3⟩)
      · gi_wp2
        go_roundw
        case rel => exact ⟨k + 1, by omega, by simp, ⟨by rw [upto_succ]; exact hJ3⟩, ⟨(HBr.out.alloc (by have := HB.out.size; have := HSz.out; omega) _).trans hk3⟩, ⟨by have := hk3.size; have := HSz.out; simp at *; omega⟩⟩
        case measure => simp [intOf]; omega
      · gi_wp2
        refine bodyPost_ret (results_none rfl _ _ _) rfl ?_
        exact ⟨⟨_, rfl⟩, .inr ⟨_, ⟨k + 1, by omega, (upto_succ _ _).symm⟩, hJx3⟩⟩
    · obtain rfl : k = L.length := by omega
      gi_wp2
      go_end0
      exact ⟨⟨_, rfl⟩, .inl ⟨_, rfl, HJs.out⟩⟩

/-- All hands back a function value over a box of its receiver. -/
theorem All_calls (p : Option Addr) (w : World) :
    Calls Try.prog 30 #[.pointer p] w fun e w' => e = .returned (.func (.func 59) #[] #[.pointer (some ⟨w.heap.size, 0, none⟩)]) ∧ w' = w.alloc (.cells #[.pointer p] 24) := by
  go_enter Try.func30, Try.ntmps30
  go_wp2
  go_ret
  exact ⟨rfl, rfl⟩

/-- What All hands back yields the lines, each with its number, in order. -/
theorem All_stops (n : Nat) (hn : 1 ≤ n) (Bs n₀ a : Nat) (L : List Ln) (hpos : 0 < L.length) (hs : L.length ≤ 2097152) (w0 w : World) (hw0 : w0.heap.size = n₀) (hbW : Below n₀ w0 w) (hI : IsIdx w0 a L) (hBs : Bs < w.heap.size) (hc : w.cell? ⟨Bs, 0, none⟩ = some (.pointer (some ⟨a, 0, none⟩))) :
    SeqStopsK Fence.wide n Try.prog 59 #[.pointer (some ⟨Bs, 0, none⟩)] encLn (Below n₀) (fun ys => ys = upto (nthLn L) L.length)
      (fun pre => ∃ k, k ≤ L.length ∧ pre = upto (nthLn L) k) L.length w := fun l J Jx W hW hJ hJx hY h0 => by
  have hc' := (hW.cell (p := ⟨Bs, 0, none⟩) hBs).trans hc
  exact All1 n hn l Bs n₀ a L hpos hs J Jx W hJ hJx hY w0 hw0 (hbW.trans (hW.mono (by have := hbW.size; omega))) hI hc' h0
end Go.Proofs.Ytogfaahdbecdnaa.B

/-
  lines: Count, walked.
-/
namespace Go.Proofs.Ytogfaahdbecdnaa.B
open Go.RowKit Go.Shelf Go.Proofs Go.Proofs.YtogfaahdbecdnaaW.PrintWords Go.Proofs.YtogfaahdbecdnaaW.PrintLast Go.Proofs.YtogfaahdbecdnaaW.PrintMore Go.Proofs.Ytogfaahdbecdnaa.FBase
set_option linter.unusedVariables false
attribute [local go_sem] Oper.semAt_some

set_option maxRecDepth 100000 in
set_option maxHeartbeats 2000000 in
/-- (*lines.Index).Count is how many lines there are. -/
theorem Count_ok (a : Nat) (L : List Ln) (w : World) (hI : IsIdx w a L) (hpos : 0 < L.length) (hs : L.length ≤ 2097152) :
    Calls Try.prog 26 #[.pointer (some ⟨a, 0, none⟩)] w fun e w' => e = .returned (.int .i64 L.length) ∧ Below w.heap.size w w' := by
  have HI := Aside0.mk hI
  clear hI
  refine (callsIn_wide (n := 6)).1 ?_
  refine callsIn_of_wp_marks Try.func26 rfl trivial ?_ rfl
  simp only [Try.ntmps26, List.size_toArray, List.length_cons, List.length_nil, Nat.reduceAdd, Nat.reduceSub, Array.replicate_succ, Array.replicate_zero, List.push_toArray, List.append_toArray, List.nil_append, List.cons_append]
  gi_wp2_with (refine ⟨trivial, ?_⟩; gi_at_call 30; refine (callsIn_wide.2 (All_calls _ _)).mono ?_; rintro e w' ⟨rfl, rfl⟩)
  have bS := Boxed.new w 3 (.int .i64 0)
  have bN := Boxed.new (w.alloc (.cells #[.int .i64 0] 3)) 24 (.pointer (some ⟨a, 0, none⟩))
  rw [World.size_alloc] at bN
  have hB0 : Below w.heap.size w ((w.alloc (.cells #[.int .i64 0] 3)).alloc (.cells #[.pointer (some ⟨a, 0, none⟩)] 24)) := ((Below.refl _ w).alloc (Nat.le_refl _) _).alloc (by simp) _
  refine wpIn_rangeFunc_ownG rfl (by omega) (gf := 59) (lb := #[.pointer (some ⟨w.heap.size + 1, 0, none⟩)]) rfl trivial (enters_of Try.func59 (by kernel_rfl) rfl)
    (All_stops _ (by omega) (w.heap.size + 1) w.heap.size a L hpos hs w _ rfl hB0 HI.out (by simp) bN.cell) belowK_t (belowK_b (by simp; omega)) (Below.refl _ _) (fun _ => rfl)
    (fun pre W => (W.cell? ⟨w.heap.size, 0, none⟩ = some (.int .i64 pre.length) ∧ W.frozen? ⟨w.heap.size, 0, none⟩ = false) ∧ Below w.heap.size w W)
    (fun _ _ _ => False)
    (OwnFrom.and (Own.from (fun s A B row hs hg hr => ⟨cell_kept hs.1 hg hr, (frozen_kept hs.1 hg hr).trans hs.2⟩) _) (ownFrom_below (Nat.le_refl _) (by simp; omega)))
    (fun _ _ _ _ _ hs _ _ => hs)
    ⟨⟨(bS.alloc _).cell, (bS.alloc _).frozen⟩, hB0⟩
    (fun x => { tmps := #[.pointer (some ⟨a, 0, none⟩), undef, .int .i64 0, .pointer (some ⟨w.heap.size, 0, none⟩), .pointer (some ⟨a, 0, none⟩), .func (.func 59) #[] #[.pointer (some ⟨w.heap.size + 1, 0, none⟩)], .int .i64 (x.1 : Int), .agg #[.int .i64 x.2.f0, .int .i64 x.2.f1], undef, undef, undef], defers := [] }) ?assign ?body ?done ?stop
  case assign =>
    intro l x W K hK
    gi_wp2
    simpa [encLn] using hK
  case body =>
    rintro l pre x W ⟨⟨hc, hf⟩, hB⟩ hlt
    have hw : wrap64 ((pre.length : Int) + 1) = (pre.length : Int) + 1 := by unfold wrap64; omega
    gi_wp2
    exact ⟨(KeepsOthers.setCell _ _ _).from _, (Below.refl w.heap.size W).setCell (p := ⟨w.heap.size, 0, none⟩) (Nat.le_refl _) _, ⟨by rw [List.length_append, List.length_singleton, World.cell?_setCell_same' _ _ _ (by rw [hc]; rfl)]; simp, by rw [World.frozen?_setCell]; exact hf⟩, hB.setCell (p := ⟨w.heap.size, 0, none⟩) (Nat.le_refl _) _⟩
  case done =>
    rintro D ys W hD rfl ⟨⟨hc, _⟩, hB⟩ hK
    rw [upto_length] at hc
    gi_wp2
    refine ⟨by simp, .inl ⟨_, _, rfl, run_takeDeferred hK, ?_⟩⟩
    exact ⟨_, results_tmp rfl _ _ _, rfl, hB.trans (belowK_b (w := w) (Nat.le_refl _) W D _ _ (by simp at hD; omega) hK rfl rfl)⟩
  case stop =>
    rintro D c pre W hD _ h _
    exact h.elim
end Go.Proofs.Ytogfaahdbecdnaa.B

/-
  The document's answer for lines: New, walked.
-/
namespace Go.Proofs.Ytogfaahdbecdnaa.B
open Go.RowKit Go.Proofs.YtogfaahdbecdnaaW.PrintWords Go.Proofs.YtogfaahdbecdnaaW.PrintLast Go.Proofs.YtogfaahdbecdnaaW.PrintMore Go.Proofs.Ytogfaahdbecdnaa.FBase
set_option linter.unusedVariables false

/-- A span. -/
structure Sp where
  f0 : Int
  f1 : Int
deriving DecidableEq
def zSp : Sp := ⟨0, 0⟩
def kSp : Kd Sp := Kd.iso (Kd.pair (Kd.int .i64) (Kd.int .i64)) (fun x : Sp => (x.f0, x.f1))
theorem kSp_open {w : World} {x : Sp} {cs : List Value} (h : kSp.K w x cs) : cs = [.int .i64 x.f0, .int .i64 x.f1] := by
  obtain ⟨_, _, rfl, rfl, rfl⟩ := h
  exact rfl
theorem kSp_mkM (w : World) (base : Nat) (ok : Nat → Prop) (x : Sp) : kSp.M w base ok x [.int .i64 x.f0, .int .i64 x.f1] := ⟨[.int .i64 x.f0], [.int .i64 x.f1], rfl, rfl, rfl⟩
def rdSp (xs : List Sp) (i : Int) : Sp := xs.getD i.toNat zSp
theorem atSp {w : World} {A : Option Addr} {n : Nat} {xs : List Sp} (h : Kd.C kSp w A n xs) (i : Int) (h0 : 0 ≤ i) (h1 : i < n) : ∃ ad , A = some ad ∧ w.cell? (ad.add (i.toNat * 2)) = some (.int .i64 (rdSp xs i).f0) ∧ w.cell? ⟨(ad.add (i.toNat * 2)).block, (ad.add (i.toNat * 2)).off + 1, none⟩ = some (.int .i64 (rdSp xs i).f1) := by
  obtain ⟨ad, c, e, _, hK, hc0⟩ := Kd.C_get h zSp i h0 h1
  have hc : ∀ j u, c[j]? = some u → w.cell? (ad.add (i.toNat * 2 + j)) = some u := hc0
  obtain rfl := kSp_open hK
  exact ⟨ad, e, hc 0 _ rfl, by rw [← add_field _ _ 1 (by omega)]; exact hc 1 _ rfl⟩

def whole (x : Ln) : Sp := ⟨x.f0, x.f2⟩
def plain (x : Ln) : Sp := ⟨x.f0, x.f1⟩
/-- The document's index of lines, at block a of W. -/
def IsRef (W : World) (a : Nat) (L : List Ln) : Prop :=
  ∃ A c A' c', W.heap[a]? = some (.cells #[.slice A L.length c, .slice A' L.length c'] 44 (0, 0)) ∧ L.length ≤ c ∧ L.length ≤ c' ∧ Kd.C kSp W A L.length (L.map whole) ∧ Kd.C kSp W A' L.length (L.map plain)
theorem IsRef.lt {W : World} {a : Nat} {L : List Ln} (h : IsRef W a L) : a < W.heap.size := by
  obtain ⟨A, c, A', c', hb, _⟩ := h
  exact blk_lt hb
theorem IsRef.below {W W1 : World} {a : Nat} {L : List Ln} (h : IsRef W a L) (hb : Below W.heap.size W W1) : IsRef W1 a L := by
  have hl := h.lt
  obtain ⟨A, c, A', c', h1, h2, h2', h3, h3'⟩ := h
  exact ⟨A, c, A', c', (hb.block a hl).trans h1, h2, h2', Kd.C_below h3 hb, Kd.C_below h3' hb⟩
theorem IsRef.alloc {W : World} {a : Nat} {L : List Ln} (h : IsRef W a L) (o : Obj) : IsRef (W.alloc o) a L := h.below (below_alloc (Below.refl _ _) o)
theorem IsRef.drewN {W : World} {a : Nat} {L : List Ln} (h : IsRef W a L) (m : Nat) : IsRef (W.drewN m) a L := h.below (pw_below_drewN (Below.refl _ _) m)

/-- Two rows of the call's own, apart from each other and from block g. -/
structure Two (W : World) (base g : Nat) (vP vW : Value) (aP aW : List Sp) : Prop where
  P : Kd.R kSp 35 W base (fun k => some k ≠ some g) vP aP
  Wh : Kd.R kSp 35 W base (fun k => some k ≠ some g) vW aW
  ne : ∀ k, vP.ownBlock = some k → vW.ownBlock ≠ some k
theorem Two.appP {W w1 : World} {base g : Nat} {vP vW v1 : Value} {aP aW a1 : List Sp} (h : Two W base g vP vW aP aW) (ho : Kd.R kSp 35 w1 base (fun k => some k ≠ some g) v1 a1) (hg : W.grownBy w1 vP.ownBlock) (hat : v1.ownBlock = vP.ownBlock ∨ ∃ b, v1.ownBlock = some b ∧ W.heap.size ≤ b) : Two w1 base g v1 vW a1 aW := by
  refine ⟨ho, Kd.R_reok rfl (Kd.R_grown (Kd.R_tight rfl h.Wh) hg (fun k hk e => h.ne k e.symm hk.symm)) h.Wh.1, fun k hk => ?_⟩
  rcases hat with hat | ⟨b, hb, hle⟩
  · exact h.ne k (hat ▸ hk)
  · intro e
    have := Kd.R_lt h.Wh k e
    rw [hb] at hk
    injection hk with hk
    omega
theorem Two.appW {W w1 : World} {base g : Nat} {vP vW v1 : Value} {aP aW a1 : List Sp} (h : Two W base g vP vW aP aW) (ho : Kd.R kSp 35 w1 base (fun k => some k ≠ some g) v1 a1) (hg : W.grownBy w1 vW.ownBlock) (hat : v1.ownBlock = vW.ownBlock ∨ ∃ b, v1.ownBlock = some b ∧ W.heap.size ≤ b) : Two w1 base g vP v1 aP a1 := by
  refine ⟨Kd.R_reok rfl (Kd.R_grown (Kd.R_tight rfl h.P) hg (fun k hk e => h.ne k hk.symm e.symm)) h.P.1, ho, fun k hk e => ?_⟩
  rcases hat with hat | ⟨b, hb, hle⟩
  · exact h.ne k hk (hat ▸ e)
  · have := Kd.R_lt h.P k hk
    rw [hb] at e
    injection e with e
    omega
theorem Two.at {W W2 : World} {n base g : Nat} {vP vW : Value} {aP aW : List Sp} (hq : W2 = W.drewN n) (h : Two W base g vP vW aP aW) : Two W2 base g vP vW aP aW := by
  subst hq
  exact ⟨Kd.R_drewN h.P _, Kd.R_drewN h.Wh _, h.ne⟩
theorem blk_at2 {W W2 : World} {n g : Nat} {o : Obj} (hq : W2 = W.drewN n) (h : W.heap[g]? = some o) : W2.heap[g]? = some o := by
  subst hq
  exact h
theorem below_at2 {B : Nat} {w W W2 : World} {n : Nat} (hq : W2 = W.drewN n) (h : Below B w W) : Below B w W2 := by
  subst hq
  exact pw_below_drewN h n
theorem Two.set {W : World} {base g : Nat} {vP vW : Value} {aP aW : List Sp} (h : Two W base g vP vW aP aW) (j : Nat) (u : Value) : Two (W.setCell ⟨g, j, none⟩ u) base g vP vW aP aW :=
  ⟨Kd.R_far (p := ⟨g, j, none⟩) h.P (fun k hk e => hk (by rw [e])) u, Kd.R_far (p := ⟨g, j, none⟩) h.Wh (fun k hk e => hk (by rw [e])) u, h.ne⟩

/-- How many bytes end a line at a place. -/
def endv (l : List Int) (i : Int) : Int := if rd l i = 10 then 1 else if rd l i = 13 then (if i + 1 < l.length ∧ rd l (i + 1) = 10 then 2 else 1) else 0
theorem endv_f (l : List Int) (i : Int) (h0 : 0 ≤ i) (h1 : i < l.length) (hs : l.length ≤ 1048576) : colophonref03_end.f 1 l i = some (endv l i) := by
  have hw : wrap64 (i + 1) = i + 1 := by unfold wrap64; omega
  unfold colophonref03_end.f endv
  rw [if_pos h0, if_pos h1, hw]
  by_cases h10 : rd l i = 10
  · rw [if_pos h10, if_pos h10]
  · rw [if_neg h10, if_neg h10]
    by_cases h13 : rd l i = 13
    · rw [if_pos h13, if_pos h13]
      by_cases h2 : i + 1 < (l.length : Int)
      · rw [if_pos h2, if_pos (by omega)]
        by_cases h3 : rd l (i + 1) = 10
        · rw [if_pos ⟨h2, h3⟩]; simp [colophonref03_end.j0, h3]
        · rw [if_neg (fun h => h3 h.2)]; simp [colophonref03_end.j0, h3, h13, h0, h1]
      · rw [if_neg h2, if_neg (fun h => h2 h.1)]; simp [colophonref03_end.j0, h13, h0, h1]
    · rw [if_neg h13, if_neg h13]
      by_cases h2 : i + 1 < (l.length : Int)
      all_goals simp [colophonref03_end.j0, h13, h0, h1]
theorem endv_range (l : List Int) (i : Int) : 0 ≤ endv l i ∧ endv l i ≤ 2 := by unfold endv; repeat' split <;> try omega
theorem endv_fit (l : List Int) (i : Int) (h1 : i < l.length) : i + endv l i ≤ l.length := by
  unfold endv
  repeat' split
  all_goals omega
theorem lns_endv (l : List Int) (fr i : Int) (h0 : 0 ≤ i) (h1 : i < l.length) : lns (l.drop i.toNat) fr i =
    if endv l i = 0 then lns (l.drop (i + 1).toNat) fr (i + 1) else ⟨fr, i, i + endv l i⟩ :: lns (l.drop (i + endv l i).toNat) (i + endv l i) (i + endv l i) := by
  rw [lns_drop l fr i h0 h1]
  unfold endv
  by_cases h10 : rd l i = 10
  · simp [h10]
  · by_cases h13 : rd l i = 13
    · by_cases h2 : i + 1 < (l.length : Int) ∧ rd l (i + 1) = 10
      · simp [h13, h2]
      · rw [if_neg h10, if_pos h13, if_neg h2, if_neg h10, if_pos h13, if_neg h2]; simp
    · simp [h10, h13]

set_option maxHeartbeats 1000000 in
set_option maxRecDepth 100000 in
/-- What is no text. -/
theorem RNew_err (k : Nat) (A : Option Addr) (c : Nat) (l : List Int) (r1 r2 : Int) (w : World) (hr : Kd.C (Kd.int .u8) w A l.length l) (hc : l.length ≤ c) (h : colophonref01_Check.f k l = some (r1, r2)) (hne : r2 ≠ 0) :
    Calls Try.prog 22 #[.slice A l.length c] w fun e w' => e = .returned (.tuple #[.pointer none, .int .i64 r2]) ∧ Below w.heap.size w w' := by
  have HR := Aside0.mk hr
  have HC := Aside0.mk hc
  have H := Aside0.mk h
  have hz : (r2 != 0) = true := bne_iff_ne.mpr hne
  clear hr hc h hne
  go_enter Try.func22, Try.ntmps22
  go_wp2_with (go_at_call 56; refine (colophonref01_Check.calls k _ _ l r1 r2 _ HR.out HC.out H.out).mono ?_; rintro e w' ⟨rfl, hb⟩; have HB := Aside0.mk hb; clear hb)
  go_ret2
  exact ⟨rfl, by repeat (first | exact HB.out | apply below_alloc | apply pw_below_drewN | apply below_drew1)⟩

/-- What is held at the head of the loop. -/
structure RMade (w W : World) (g : Nat) (l : List Int) (fr i : Int) : Prop where
  bel : Below w.heap.size w W
  new : w.heap.size ≤ g
  own : ∃ A1 c1 A2 c2 aP aW L, W.heap[g]? = some (.cells #[.slice A2 aW.length c2, .slice A1 aP.length c1] 44 (0, 0)) ∧ Two W w.heap.size g (.slice A1 aP.length c1) (.slice A2 aW.length c2) aP aW ∧ aP = L.map plain ∧ aW = L.map whole ∧ L ++ lns (l.drop i.toNat) fr i = lns l 0 0 ∧ (L.length : Int) ≤ i

theorem RMade.after {w w2 : World} {g : Nat} {l : List Int} {fr' i' : Int} {u : Value} {A3 A4 : Option Addr} {c3 c4 : Nat} {aP aW : List Sp} {LL : List Ln} {x : Ln} {p q : Sp} (hp : p = plain x) (hq : q = whole x)
    (hnew : w.heap.size ≤ g) (hb : Below w.heap.size w w2) (hblk : w2.heap[g]? = some (.cells #[u, .slice A3 (aP.length + 1) c3] 44 (0, 0)))
    (HT : Two w2 w.heap.size g (.slice A3 (aP ++ [p]).length c3) (.slice A4 (aW ++ [q]).length c4) (aP ++ [p]) (aW ++ [q])) (hP : aP = LL.map plain) (hW : aW = LL.map whole)
    (hl : (LL ++ [x]) ++ lns (l.drop i'.toNat) fr' i' = lns l 0 0) (ha : (aP.length : Int) + 1 ≤ i') : RMade w (w2.setCell ⟨g, 0, none⟩ (.slice A4 (aW.length + 1) c4)) g l fr' i' := by
  subst hp hq
  refine ⟨hb.setCell hnew _, hnew, A3, c3, A4, c4, aP ++ [plain x], aW ++ [whole x], LL ++ [x], ?_, HT.set 0 _, by rw [hP]; simp, by rw [hW]; simp, hl, ?_⟩
  · rw [blk_set hblk, show (aW ++ [whole x]).length = aW.length + 1 by simp, show (aP ++ [plain x]).length = aP.length + 1 by simp]
    rfl
  · rw [hP] at ha; simp at ha; simp; omega

theorem ref_from {base g nP nW c3 c4 : Nat} {W : World} {A3 A4 : Option Addr} {L : List Ln} {ok ok' : Nat → Prop} (hg : base ≤ g) (hb : W.heap[g]? = some (.cells #[.slice A4 nW c4, .slice A3 nP c3] 44 (0, 0)))
    (hP : Kd.R kSp 35 W base ok (.slice A3 nP c3) (L.map plain)) (hW : Kd.R kSp 35 W base ok' (.slice A4 nW c4) (L.map whole)) (eP : nP = L.length) (eW : nW = L.length) : FromBase base W (fun W => IsRef W g L) := by
  subst eP
  intro W1 hW1
  have h2 := Kd.R_reads' (Kd.R_move (Kd.R_bound hP) (fun k hk => hW1 k hk.2.1 hk.2.2.1))
  have h3 := Kd.R_reads' (Kd.R_move (Kd.R_bound hW) (fun k hk => hW1 k hk.2.1 hk.2.2.1))
  simp only [List.length_map] at h2 h3
  rw [eW] at h3 hb
  exact ⟨A4, c4, A3, c3, (hW1 g hg (blk_lt hb)).trans hb, h3.2.1, h2.2.1, h3.2.2, h2.2.2⟩

set_option maxHeartbeats 4000000 in
set_option maxRecDepth 100000 in
/-- What is a text. -/
theorem RNew_all (k : Nat) (A : Option Addr) (c : Nat) (l : List Int) (r1 : Int) (w : World) (hr : Kd.C (Kd.int .u8) w A l.length l) (hc : l.length ≤ c) (h : colophonref01_Check.f k l = some (r1, 0)) (hs : l.length ≤ 1048576) :
    Calls Try.prog 22 #[.slice A l.length c] w fun e w' => ∃ a, e = .returned (.tuple #[.pointer (some ⟨a, 0, none⟩), .int .i64 0]) ∧ w.heap.size ≤ a ∧ FromBase w.heap.size w' (fun W => IsRef W a (lns l 0 0)) ∧ Below w.heap.size w w' := by
  have HR := Aside0.mk hr
  have HC := Aside0.mk hc
  have H := Aside0.mk h
  clear hr hc h
  go_enter Try.func22, Try.ntmps22
  go_wp2_with (go_at_call 56; refine (colophonref01_Check.calls k _ _ l r1 0 _ HR.out HC.out H.out).mono ?_; rintro e W ⟨rfl, hb⟩; have HB := Aside0.mk hb; clear hb)
  have M0 : RMade w (W.alloc (Obj.cells #[Value.slice none 0 0, Value.slice none 0 0] 44)) W.heap.size l 0 0 :=
    ⟨below_alloc HB.out _, HB.out.size, none, 0, none, 0, [], [], [], blk_new W _, ⟨Kd.R_nil _ _ _ _ _, Kd.R_nil _ _ _ _ _, by simp [Value.ownBlock]⟩, rfl, rfl, by simp, by simp⟩
  have HM := Aside0.mk M0
  clear M0 H HB
  generalize hg0 : W.heap.size = g at HM ⊢
  clear hg0
  generalize (W.alloc (Obj.cells #[Value.slice none 0 0, Value.slice none 0 0] 44)) = W0 at HM ⊢
  go_loopw [7, 8] (fun s7 s8 W => ∃ fr i : Int, s7 = .int .i64 fr ∧ s8 = .int .i64 i ∧ 0 ≤ i ∧ i ≤ l.length ∧ Aside0 (RMade w W g l fr i)) (fun _ s8 _ => l.length - (intOf s8).toNat)
  case atStart => exact ⟨0, 0, rfl, rfl, by omega, by omega, HM⟩
  case round =>
    clear HM
    obtain ⟨fr, i, rfl, rfl, hi0, hi1, HM⟩ := hrel
    obtain ⟨hbel, hnew, A1, c1, A2, c2, aP, aW, LL, hb, HT, hP, hW, hl, ha⟩ := HM.out
    clear HM
    have HT := Aside0.mk HT
    have HBL := Aside0.mk hb
    have HB := Aside0.mk hbel
    have HP := Aside0.mk hP
    have HW := Aside0.mk hW
    have Ha : Aside0 ((aP.length : Int) ≤ i ∧ (aW.length : Int) ≤ i) := ⟨by rw [hP, hW]; simpa using ha⟩
    have hc1 : wr.cell? ⟨g, 1, none⟩ = some (.slice A1 aP.length c1) := (blk_cell hb 1).trans rfl
    clear hb hbel hP hW
    have tok := True.intro
    by_cases hlt : i < (l.length : Int)
    · rw [lns_endv l fr i hi0 hlt] at hl
      have HE := Aside0.mk (endv_f l i hi0 hlt hs)
      obtain ⟨he0, he2⟩ := endv_range l i
      have hfit := endv_fit l i hlt
      generalize endv l i = n at *
      by_cases hn : n = 0
      · subst hn
        rw [if_pos rfl] at hl
        have Hl := Aside0.mk hl
        clear hl ha tok
        go_wp2_with (go_at_call 57; refine (colophonref03_end.calls 1 _ _ l i 0 _ (Kd.C_below HR.out HB.out) HC.out HE.out).mono ?_; rintro e W2 ⟨rfl, nq, hq⟩; have HT := Aside0.mk (Two.at hq HT.out); have HBL := Aside0.mk (blk_at2 hq HBL.out); have HB := Aside0.mk (below_at2 hq HB.out); have hc1 : W2.cell? ⟨g, 1, none⟩ = some (.slice A1 aP.length c1) := (blk_cell HBL.out 1).trans rfl; clear hq; have Htk := Aside0.mk True.intro)
        go_roundw
        case measure => simp [intOf]; omega
        case rel => exact ⟨fr, i + 1, rfl, rfl, by omega, by omega, ⟨HB.out, hnew, A1, c1, A2, c2, aP, aW, LL, HBL.out, HT.out, HP.out, HW.out, Hl.out, by have := Ha.out.1; rw [HP.out] at this; simp at this; omega⟩⟩
      · rw [if_neg hn] at hl
        have Hl := Aside0.mk (acc_step _ _ _ _ hl)
        have hgt : decide (0 < n) = true := decide_eq_true (by omega)
        clear hl
        go_wp2_with (first | (go_at_call 57; refine (colophonref03_end.calls 1 _ _ l i n _ (Kd.C_below HR.out HB.out) HC.out HE.out).mono ?_; rintro e W2 ⟨rfl, nq, hq⟩; have HT := Aside0.mk (Two.at hq HT.out); have HBL := Aside0.mk (blk_at2 hq HBL.out); have HB := Aside0.mk (below_at2 hq HB.out); have hc1 : W2.cell? ⟨g, 1, none⟩ = some (.slice A1 aP.length c1) := (blk_cell HBL.out 1).trans rfl; clear hq; have Htk := Aside0.mk True.intro) | (first | (have _t := tok; (at_builtin; refine Kd.R_append kSp (w0 := w) w.heap.size rfl (.tmp 35) (.tmp 39) 42 35 (.agg #[.int .i64 0, .int .i64 0]) 16 rfl Try.underlying42 infoSp rfl (by decide) (by omega) (.slice A1 aP.length c1) aP ⟨fr, i⟩ [.int .i64 fr, .int .i64 i] (fun k => some k ≠ some g) (fun _ => False) rfl ?aE (kSp_mkM _ _ _ ⟨fr, i⟩) (fun _ h => h.elim) ?aF ?aO ?aB ?aS ?aL ?_; (case aE => first | rfl | exact congrArg (fun n => Value.slice (some ⟨n, 0, none⟩) 1 1) (by simp)); (case aF => intro k hk e; have := blk_lt HBL.out; injection e with e; first | omega | (simp at hk this; omega) | (simp at hk; omega) | (simp at this; omega)); (case aO => (with_reducible repeat (first | apply Kd.R_alloc | apply Kd.R_drewN | apply Kd.R_drew)); exact HT.out.P); (case aB => repeat (first | exact HB.out | apply pw_below_drewN | apply below_drew1)); (case aS => first | exact HB.out.size | (have := HB.out.size; simp at *; omega)); (case aL => have := Ha.out; omega); intro v1 w1 ho hb hg hat; obtain ⟨A3, c3, rfl⟩ := Kd.R_slice ho; have hbl1 := blk_grown HBL.out hg (fun e => HT.out.P.1 g e.symm rfl); have hc2 : w1.cell? ⟨g, 1, none⟩ = some (.slice A1 aP.length c1) := (blk_cell hbl1 1).trans rfl; have hf2 := blk_frozen hbl1 1; have HT2 := Aside0.mk ((HT.out.appP ho hg hat).set 1 (.slice A3 (aP.length + 1) c3)); have HB2 := Aside0.mk (hb.setCell (p := ⟨g, 1, none⟩) hnew (.slice A3 (aP.length + 1) c3)); have HBL2 := Aside0.mk ((blk_set hbl1 1 (.slice A3 (aP.length + 1) c3)).trans rfl); have hc3 : (w1.setCell ⟨g, 1, none⟩ (.slice A3 (aP.length + 1) c3)).cell? ⟨g, 0, none⟩ = some (.slice A2 aW.length c2) := (blk_cell HBL2.out 0).trans rfl; clear ho hb hg hat hbl1); clear tok _t) | (at_builtin; refine Kd.R_append kSp (w0 := w) w.heap.size rfl (.tmp 47) (.tmp 53) 42 35 (.agg #[.int .i64 0, .int .i64 0]) 16 rfl Try.underlying42 infoSp rfl (by decide) (by omega) (.slice A2 aW.length c2) aW ⟨fr, i + n⟩ [.int .i64 fr, .int .i64 (i + n)] (fun k => some k ≠ some g) (fun _ => False) rfl ?aE (kSp_mkM _ _ _ ⟨fr, i + n⟩) (fun _ h => h.elim) ?aF ?aO ?aB ?aS ?aL ?_; (case aE => first | rfl | exact congrArg (fun n => Value.slice (some ⟨n, 0, none⟩) 1 1) (by simp)); (case aF => intro k hk e; have := blk_lt HBL2.out; injection e with e; first | omega | (simp at hk this; omega) | (simp at hk; omega) | (simp at this; omega)); (case aO => (with_reducible repeat (first | apply Kd.R_alloc | apply Kd.R_drewN | apply Kd.R_drew)); exact HT2.out.Wh); (case aB => repeat (first | exact HB2.out | apply pw_below_drewN | apply below_drew1)); (case aS => first | exact HB2.out.size | (have := HB2.out.size; simp at *; omega)); (case aL => have := Ha.out; omega); intro v2 w2 ho hb hg hat; obtain ⟨A4, c4, rfl⟩ := Kd.R_slice ho; have hbl1 := blk_grown HBL2.out hg (fun e => HT2.out.Wh.1 g e.symm rfl); have hc4 : w2.cell? ⟨g, 0, none⟩ = some (.slice A2 aW.length c2) := (blk_cell hbl1 0).trans rfl; have hf4 := blk_frozen hbl1 0; have HT4 := Aside0.mk (HT2.out.appW ho hg hat); have HB4 := Aside0.mk hb; have HBL4 := Aside0.mk hbl1; clear ho hb hg hat hbl1)))
        go_roundw
        case measure => simp [intOf]; omega
        case rel => exact ⟨i + n, i + n, rfl, (by first | rfl | go_num), by omega, by omega, ⟨RMade.after (x := ⟨fr, i, i + n⟩) rfl rfl hnew HB4.out HBL4.out HT4.out HP.out HW.out Hl.out (by have := Ha.out; omega)⟩⟩
    · obtain rfl : i = l.length := by omega
      have hl2 : LL ++ [⟨fr, (l.length : Int), (l.length : Int)⟩] = lns l 0 0 := by rw [← hl]; simp [lns]
      have Hl := Aside0.mk hl2
      clear hl hl2 ha
      go_wp2_with (first | (have _t := tok; (at_builtin; refine Kd.R_append kSp (w0 := w) w.heap.size rfl (.tmp 66) (.tmp 71) 42 35 (.agg #[.int .i64 0, .int .i64 0]) 16 rfl Try.underlying42 infoSp rfl (by decide) (by omega) (.slice A1 aP.length c1) aP ⟨fr, (l.length : Int)⟩ [.int .i64 fr, .int .i64 (l.length : Int)] (fun k => some k ≠ some g) (fun _ => False) rfl ?aE (kSp_mkM _ _ _ ⟨fr, (l.length : Int)⟩) (fun _ h => h.elim) ?aF ?aO ?aB ?aS ?aL ?_; (case aE => first | rfl | exact congrArg (fun n => Value.slice (some ⟨n, 0, none⟩) 1 1) (by simp)); (case aF => intro k hk e; have := blk_lt HBL.out; injection e with e; first | omega | (simp at hk this; omega) | (simp at hk; omega) | (simp at this; omega)); (case aO => (with_reducible repeat (first | apply Kd.R_alloc | apply Kd.R_drewN | apply Kd.R_drew)); exact HT.out.P); (case aB => repeat (first | exact HB.out | apply pw_below_drewN | apply below_drew1)); (case aS => first | exact HB.out.size | (have := HB.out.size; simp at *; omega)); (case aL => have := Ha.out; omega); intro v1 w1 ho hb hg hat; obtain ⟨A3, c3, rfl⟩ := Kd.R_slice ho; have hbl1 := blk_grown HBL.out hg (fun e => HT.out.P.1 g e.symm rfl); have hc2 : w1.cell? ⟨g, 1, none⟩ = some (.slice A1 aP.length c1) := (blk_cell hbl1 1).trans rfl; have hf2 := blk_frozen hbl1 1; have HT2 := Aside0.mk ((HT.out.appP ho hg hat).set 1 (.slice A3 (aP.length + 1) c3)); have HB2 := Aside0.mk (hb.setCell (p := ⟨g, 1, none⟩) hnew (.slice A3 (aP.length + 1) c3)); have HBL2 := Aside0.mk ((blk_set hbl1 1 (.slice A3 (aP.length + 1) c3)).trans rfl); have hc3 : (w1.setCell ⟨g, 1, none⟩ (.slice A3 (aP.length + 1) c3)).cell? ⟨g, 0, none⟩ = some (.slice A2 aW.length c2) := (blk_cell HBL2.out 0).trans rfl; clear ho hb hg hat hbl1); clear tok _t) | (at_builtin; refine Kd.R_append kSp (w0 := w) w.heap.size rfl (.tmp 79) (.tmp 84) 42 35 (.agg #[.int .i64 0, .int .i64 0]) 16 rfl Try.underlying42 infoSp rfl (by decide) (by omega) (.slice A2 aW.length c2) aW ⟨fr, (l.length : Int)⟩ [.int .i64 fr, .int .i64 (l.length : Int)] (fun k => some k ≠ some g) (fun _ => False) rfl ?aE (kSp_mkM _ _ _ ⟨fr, (l.length : Int)⟩) (fun _ h => h.elim) ?aF ?aO ?aB ?aS ?aL ?_; (case aE => first | rfl | exact congrArg (fun n => Value.slice (some ⟨n, 0, none⟩) 1 1) (by simp)); (case aF => intro k hk e; have := blk_lt HBL2.out; injection e with e; first | omega | (simp at hk this; omega) | (simp at hk; omega) | (simp at this; omega)); (case aO => (with_reducible repeat (first | apply Kd.R_alloc | apply Kd.R_drewN | apply Kd.R_drew)); exact HT2.out.Wh); (case aB => repeat (first | exact HB2.out | apply pw_below_drewN | apply below_drew1)); (case aS => first | exact HB2.out.size | (have := HB2.out.size; simp at *; omega)); (case aL => have := Ha.out; omega); intro v2 w2 ho hb hg hat; obtain ⟨A4, c4, rfl⟩ := Kd.R_slice ho; have hbl1 := blk_grown HBL2.out hg (fun e => HT2.out.Wh.1 g e.symm rfl); have hc4 : w2.cell? ⟨g, 0, none⟩ = some (.slice A2 aW.length c2) := (blk_cell hbl1 0).trans rfl; have hf4 := blk_frozen hbl1 0; have HT4 := Aside0.mk (HT2.out.appW ho hg hat); have HB4 := Aside0.mk hb; have HBL4 := Aside0.mk hbl1; clear ho hb hg hat hbl1))
      go_ret2
      have hT := HT4.out.set 0 (.slice A4 (aW.length + 1) c4)
      have hP := hT.P
      have hW := hT.Wh
      have eP : aP ++ [(⟨fr, (l.length : Int)⟩ : Sp)] = (lns l 0 0).map plain := by rw [← Hl.out, HP.out]; simp [plain]
      have eW : aW ++ [(⟨fr, (l.length : Int)⟩ : Sp)] = (lns l 0 0).map whole := by rw [← Hl.out, HW.out]; simp [whole]
      have nP : aP.length + 1 = (lns l 0 0).length := by have := congrArg List.length eP; simpa using this
      have nW : aW.length + 1 = (lns l 0 0).length := by have := congrArg List.length eW; simpa using this
      rw [eP] at hP
      rw [eW] at hW
      refine ⟨g, rfl, hnew, ref_from hnew ?_ hP hW (by simp) (by simp), HB4.out.setCell hnew _⟩
      rw [blk_set HBL4.out, nW, nP]
      simp only [List.length_map]
      rfl
theorem RNew_ok (k : Nat) (A : Option Addr) (c : Nat) (l : List Int) (r1 : Int) (w : World) (hr : Kd.C (Kd.int .u8) w A l.length l) (hc : l.length ≤ c) (h : colophonref01_Check.f k l = some (r1, 0)) (hs : l.length ≤ 1048576) :
    Calls Try.prog 22 #[.slice A l.length c] w fun e w' => ∃ a, e = .returned (.tuple #[.pointer (some ⟨a, 0, none⟩), .int .i64 0]) ∧ w.heap.size ≤ a ∧ IsRef w' a (lns l 0 0) ∧ Below w.heap.size w w' :=
  (RNew_all k A c l r1 w hr hc h hs).mono fun _ _ ⟨a, h1, h2, h3, h4⟩ => ⟨a, h1, h2, h3.now, h4⟩
end Go.Proofs.Ytogfaahdbecdnaa.B

/-
  The document's answer for lines: Count, Line, Find, walked.
-/
namespace Go.Proofs.Ytogfaahdbecdnaa.B
open Go.RowKit Go.Proofs.YtogfaahdbecdnaaW.PrintWords Go.Proofs.YtogfaahdbecdnaaW.PrintLast Go.Proofs.YtogfaahdbecdnaaW.PrintMore Go.Proofs.Ytogfaahdbecdnaa.FBase
set_option linter.unusedVariables false

theorem rd_whole (L : List Ln) (i : Int) (h0 : 0 ≤ i) (h1 : i < L.length) : rdSp (L.map whole) i = whole (rdLn L i) := by
  have h : i.toNat < L.length := by omega
  simp [rdSp, rdLn, List.getD, h]
theorem rd_plain (L : List Ln) (i : Int) (h0 : 0 ≤ i) (h1 : i < L.length) : rdSp (L.map plain) i = plain (rdLn L i) := by
  have h : i.toNat < L.length := by omega
  simp [rdSp, rdLn, List.getD, h]
theorem IsRef.cells {W : World} {a : Nat} {L : List Ln} (h : IsRef W a L) : ∃ A c A' c', W.cell? ⟨a, 0, none⟩ = some (.slice A L.length c) ∧ W.cell? ⟨a, 1, none⟩ = some (.slice A' L.length c') ∧ Kd.C kSp W A L.length (L.map whole) ∧ Kd.C kSp W A' L.length (L.map plain) := by
  obtain ⟨A, c, A', c', hb, hl, hl', hc, hc'⟩ := h
  exact ⟨A, c, A', c', (blk_cell hb 0).trans rfl, (blk_cell hb 1).trans rfl, hc, hc'⟩
theorem IsRef.at {W : World} {a : Nat} {L : List Ln} (h : IsRef W a L) (i : Int) (h0 : 0 ≤ i) (h1 : i < L.length) : ∃ ad c ad' c', W.cell? ⟨a, 0, none⟩ = some (.slice (some ad) L.length c) ∧ W.cell? ⟨a, 1, none⟩ = some (.slice (some ad') L.length c') ∧
    W.cell? (ad.add (i.toNat * 2)) = some (.int .i64 (rdLn L i).f0) ∧ W.cell? ⟨(ad.add (i.toNat * 2)).block, (ad.add (i.toNat * 2)).off + 1, none⟩ = some (.int .i64 (rdLn L i).f2) ∧
    W.cell? (ad'.add (i.toNat * 2)) = some (.int .i64 (rdLn L i).f0) ∧ W.cell? ⟨(ad'.add (i.toNat * 2)).block, (ad'.add (i.toNat * 2)).off + 1, none⟩ = some (.int .i64 (rdLn L i).f1) := by
  obtain ⟨A, c, A', c', h2, h3, hc, hc'⟩ := h.cells
  obtain ⟨ad, e, h4, h5⟩ := atSp hc i h0 h1
  obtain ⟨ad', e', h6, h7⟩ := atSp hc' i h0 h1
  rw [rd_whole L i h0 h1] at h4 h5
  rw [rd_plain L i h0 h1] at h6 h7
  subst e e'
  exact ⟨ad, c, ad', c', h2, h3, h4, h5, h6, h7⟩

/-- Count. -/
theorem RCount_ok (a : Nat) (L : List Ln) (w : World) (hI : IsRef w a L) :
    Calls Try.prog 25 #[.pointer (some ⟨a, 0, none⟩)] w fun e w' => e = .returned (.int .i64 L.length) ∧ w = w' := by
  obtain ⟨A, c, A', c', h2, h3, hc, hc'⟩ := hI.cells
  clear hc hc' hI h3
  go_enter Try.func25, Try.ntmps25
  go_wp2
  go_ret
  exact ⟨rfl, rfl⟩

set_option maxHeartbeats 2000000 in
/-- Line of a line that there is. -/
theorem RLine_ok (a : Nat) (L : List Ln) (i : Int) (w : World) (hI : IsRef w a L) (h0 : 0 ≤ i) (h1 : i < L.length) (hs : L.length ≤ 2097152) :
    Calls Try.prog 28 #[.pointer (some ⟨a, 0, none⟩), .int .i64 i] w fun e w' => e = .returned (.tuple #[.agg #[.int .i64 (rdLn L i).f0, .int .i64 (rdLn L i).f2], .agg #[.int .i64 (rdLn L i).f0, .int .i64 (rdLn L i).f1], .int .i64 0]) ∧ Below w.heap.size w w' := by
  obtain ⟨ad, c, ad', c', h2, h3, h4, h5, h6, h7⟩ := hI.at i h0 h1
  clear hI
  have l4 := World.block_lt_of_cell? _ _ h4
  have l6 := World.block_lt_of_cell? _ _ h6
  rw [add_block] at l4 l6
  have l2 : a < w.heap.size := World.block_lt_of_cell? _ _ h2
  generalize (rdLn L i).f0 = x0 at *
  generalize (rdLn L i).f1 = x1 at *
  generalize (rdLn L i).f2 = x2 at *
  have g2 := cell_alloc2 h2
  have g3 := cell_alloc2 h3
  have g4 := cell_alloc2 h4
  have g5 := cell_alloc2 h5
  have g6 := cell_alloc2 h6
  have g7 := cell_alloc2 h7
  clear h2 h3 h4 h5 h6 h7
  have hlt : decide (i < 0) = false := decide_eq_false (by omega)
  have hge : decide ((L.length : Int) ≤ i) = false := decide_eq_false (by omega)
  go_enter Try.func28, Try.ntmps28
  go_wp2
  go_region
  go_wp2
  refine bodyPost_ret (v := .tuple #[.agg #[.int .i64 x0, .int .i64 x2], .agg #[.int .i64 x0, .int .i64 x1], .int .i64 0]) (by simp [results, Try.results28, go_sem]) rfl ⟨rfl, ?_⟩
  repeat (first | exact Below.refl _ _ | apply below_alloc | apply pw_below_drewN | apply below_drew1 | refine Below.setCell ?_ (by simp) _)

/-- The line of a byte. -/
def FindAt (L : List Ln) (at_ : Int) (r : Nat) : Prop := r < L.length ∧ (∀ t : Nat, t < r → (rdLn L t).f2 ≤ at_) ∧ (r + 1 < L.length → at_ < (rdLn L r).f2)
theorem FindAt.uniq {L : List Ln} {at_ : Int} {r s : Nat} (h : FindAt L at_ r) (k : FindAt L at_ s) : r = s := by
  rcases Nat.lt_trichotomy r s with hlt | e | hlt
  · have h1 := k.2.1 r hlt
    have h2 := h.2.2 (by have := k.1; omega)
    omega
  · exact e
  · have h1 := h.2.1 s hlt
    have h2 := k.2.2 (by have := h.1; omega)
    omega

set_option maxHeartbeats 2000000 in
/-- Find of a byte that there is. -/
theorem RFind_ok (a : Nat) (L : List Ln) (at_ : Int) (w : World) (hI : IsRef w a L) (hpos : 0 < L.length) (h0 : 0 ≤ at_) (h1 : at_ ≤ (rdLn L ((L.length : Int) - 1)).f2) (hs : L.length ≤ 2097152) :
    Calls Try.prog 32 #[.pointer (some ⟨a, 0, none⟩), .int .i64 at_] w fun e w' => ∃ r : Nat, e = .returned (.tuple #[.int .i64 r, .int .i64 0]) ∧ FindAt L at_ r ∧ w = w' := by
  obtain ⟨n, hn⟩ : ∃ n, L.length = n + 1 := ⟨L.length - 1, by omega⟩
  have HI := Aside0.mk hI
  obtain ⟨ad, c, ad', c', h2, h3, h4, h5, h6, h7⟩ := hI.at (n : Int) (by omega) (by omega)
  clear hI h3 h4 h6 h7
  rw [hn] at h2 hs h1
  rw [show (((n + 1 : Nat) : Int) - 1) = (n : Int) by omega] at h1
  rw [Int.toNat_natCast] at h5
  have HN := Aside0.mk hn
  clear hn hpos
  have hlt : decide (at_ < 0) = false := decide_eq_false (by omega)
  have hgt : decide ((rdLn L (n : Int)).f2 < at_) = false := decide_eq_false (by omega)
  have H1 := Aside0.mk h1
  clear h1
  generalize hz : (rdLn L (n : Int)).f2 = z at h5 hgt
  have HZ := Aside0.mk hz
  clear hz
  go_enter Try.func32, Try.ntmps32
  go_wp2
  clear h5 hlt hgt
  go_loop [7] (fun s7 => ∃ k : Nat, s7 = .int .i64 k ∧ k ≤ n ∧ Aside0 (∀ t : Nat, t < k → (rdLn L t).f2 ≤ at_)) (fun s7 => n - (intOf s7).toNat)
  case atStart => exact ⟨0, rfl, Nat.zero_le _, ⟨fun t ht => absurd ht (Nat.not_lt_zero _)⟩⟩
  case round =>
    obtain ⟨k, rfl, hk, HK⟩ := hrel
    by_cases hlt : k < n
    · obtain ⟨ad2, c2, ad2', c2', k2, k3, k4, k5, k6, k7⟩ := HI.out.at (k : Int) (by omega) (by have := HN.out; omega)
      rw [HN.out] at k2
      have e := Option.some.inj (k2.symm.trans h2)
      injection e with e1 e2 e3
      injection e1 with e1
      subst e1 e3
      rw [Int.toNat_natCast] at k5
      clear k2 k3 k4 k6 k7
      by_cases hb : at_ < (rdLn L (k : Int)).f2
      · have hd : decide (at_ < (rdLn L (k : Int)).f2) = true := decide_eq_true hb
        have HBB := Aside0.mk hb
        clear hb
        generalize hz2 : (rdLn L (k : Int)).f2 = z2 at k5 hd
        have HZ2 := Aside0.mk hz2
        clear hz2
        go_wp2
        go_ret2
        exact ⟨k, rfl, ⟨by have := HN.out; omega, HK.out, fun _ => HBB.out⟩, rfl⟩
      · have hd : decide (at_ < (rdLn L (k : Int)).f2) = false := decide_eq_false hb
        have HBB := Aside0.mk hb
        clear hb
        generalize hz2 : (rdLn L (k : Int)).f2 = z2 at k5 hd
        have HZ2 := Aside0.mk hz2
        clear hz2
        go_wp2
        go_round
        case rel => exact ⟨k + 1, by go_num, by omega, ⟨fun t ht => by
          rcases Nat.lt_succ_iff_lt_or_eq.1 ht with h | rfl
          · exact HK.out t h
          · have := HBB.out; omega⟩⟩
        case measure => simp [intOf]; omega
    · obtain rfl : k = n := by omega
      go_wp2
      go_ret2
      exact ⟨k, rfl, ⟨by have := HN.out; omega, HK.out, fun h => by have := HN.out; omega⟩, rfl⟩

set_option maxHeartbeats 2000000 in
/-- Find of a byte that there isn't. -/
theorem RFind_out (a : Nat) (L : List Ln) (at_ : Int) (w : World) (hI : IsRef w a L) (hpos : 0 < L.length) (h1 : at_ < 0 ∨ (rdLn L ((L.length : Int) - 1)).f2 < at_) (hs : L.length ≤ 2097152) :
    Calls Try.prog 32 #[.pointer (some ⟨a, 0, none⟩), .int .i64 at_] w fun e w' => e = .returned (.tuple #[.int .i64 0, .int .i64 9]) ∧ w = w' := by
  obtain ⟨n, hn⟩ : ∃ n, L.length = n + 1 := ⟨L.length - 1, by omega⟩
  obtain ⟨ad, c, ad', c', h2, h3, h4, h5, h6, h7⟩ := hI.at (n : Int) (by omega) (by omega)
  clear hI h3 h4 h6 h7
  rw [hn] at h2 hs h1
  rw [show (((n + 1 : Nat) : Int) - 1) = (n : Int) by omega] at h1
  rw [Int.toNat_natCast] at h5
  clear hn hpos
  generalize (rdLn L (n : Int)).f2 = z at *
  by_cases hlt0 : at_ < 0
  · have hlt : decide (at_ < 0) = true := decide_eq_true hlt0
    clear h1
    go_enter Try.func32, Try.ntmps32
    go_wp2
    go_ret2
    exact ⟨rfl, rfl⟩
  · have hlt : decide (at_ < 0) = false := decide_eq_false hlt0
    have hgt : decide (z < at_) = true := decide_eq_true (by omega)
    go_enter Try.func32, Try.ntmps32
    go_wp2
    go_ret2
    exact ⟨rfl, rfl⟩
end Go.Proofs.Ytogfaahdbecdnaa.B

/-
  Plain laws of lines: they lie one behind the other; of each byte there is one line.
-/
namespace Go.Proofs.Ytogfaahdbecdnaa.B
open Go.RowKit Go.Proofs.YtogfaahdbecdnaaW.PrintWords Go.Proofs.YtogfaahdbecdnaaW.PrintLast Go.Proofs.YtogfaahdbecdnaaW.PrintMore Go.Proofs.Ytogfaahdbecdnaa.FBase
set_option linter.unusedVariables false

/-- Lines one behind the other, from fr to e; the last one has no end. -/
def Chain : List Ln → Int → Int → Prop
  | [], _, _ => False
  | [x], fr, e => x.f0 = fr ∧ fr ≤ x.f1 ∧ x.f1 = x.f2 ∧ x.f2 = e
  | x :: y :: r, fr, e => x.f0 = fr ∧ fr ≤ x.f1 ∧ x.f1 < x.f2 ∧ x.f2 ≤ x.f1 + 2 ∧ Chain (y :: r) x.f2 e
theorem Chain.cons {x : Ln} {r : List Ln} {fr e : Int} (h0 : x.f0 = fr) (h1 : fr ≤ x.f1) (h2 : x.f1 < x.f2) (h3 : x.f2 ≤ x.f1 + 2) (h : Chain r x.f2 e) : Chain (x :: r) fr e := by
  cases r with
  | nil => exact h.elim
  | cons y r => exact ⟨h0, h1, h2, h3, h⟩
theorem lns_chain (n : Nat) : ∀ (l : List Int) (fr i : Int), l.length ≤ n → fr ≤ i → Chain (lns l fr i) fr (i + l.length) := by
  induction n with
  | zero =>
    intro l fr i hl hfi
    obtain rfl : l = [] := List.length_eq_zero_iff.1 (by omega)
    rw [lns]
    exact ⟨rfl, hfi, rfl, by simp⟩
  | succ n ih =>
    intro l fr i hl hfi
    cases l with
    | nil => rw [lns]; exact ⟨rfl, hfi, rfl, by simp⟩
    | cons b r =>
      rw [lns]
      simp only [List.length_cons] at hl ⊢
      by_cases h10 : b = 10
      · rw [if_pos h10]
        refine Chain.cons rfl hfi (by show i < i + 1; omega) (by show i + 1 ≤ i + 2; omega) ?_
        have := ih r (i + 1) (i + 1) (by omega) (Int.le_refl _)
        rwa [show i + 1 + (r.length : Int) = i + ((r.length + 1 : Nat) : Int) by omega] at this
      · rw [if_neg h10]
        by_cases h13 : b = 13
        · rw [if_pos h13]
          by_cases h2 : r.head? = some 10
          · rw [if_pos h2]
            refine Chain.cons rfl hfi (by show i < i + 2; omega) (by show i + 2 ≤ i + 2; omega) ?_
            have hr : 0 < r.length := by
              cases r with
              | nil => simp at h2
              | cons y r => simp
            have := ih r.tail (i + 2) (i + 2) (by simp; omega) (Int.le_refl _)
            rwa [show i + 2 + (r.tail.length : Int) = i + ((r.length + 1 : Nat) : Int) by simp; omega] at this
          · rw [if_neg h2]
            refine Chain.cons rfl hfi (by show i < i + 1; omega) (by show i + 1 ≤ i + 2; omega) ?_
            have := ih r (i + 1) (i + 1) (by omega) (Int.le_refl _)
            rwa [show i + 1 + (r.length : Int) = i + ((r.length + 1 : Nat) : Int) by omega] at this
        · rw [if_neg h13]
          have := ih r fr (i + 1) (by omega) (by omega)
          rwa [show i + 1 + (r.length : Int) = i + ((r.length + 1 : Nat) : Int) by omega] at this
theorem lns_chain0 (l : List Int) : Chain (lns l 0 0) 0 l.length := by
  have := lns_chain l.length l 0 0 (Nat.le_refl _) (Int.le_refl _)
  rwa [Int.zero_add] at this

theorem Chain.pos {L : List Ln} {fr e : Int} (h : Chain L fr e) : 0 < L.length := by
  cases L with
  | nil => exact h.elim
  | cons x r => simp
theorem rdLn_zero (x : Ln) (r : List Ln) : rdLn (x :: r) 0 = x := rfl
theorem rdLn_succ (x : Ln) (r : List Ln) (t : Nat) : rdLn (x :: r) ((t + 1 : Nat) : Int) = rdLn r (t : Int) := by simp [rdLn, List.getD]
/-- What is told of each line. -/
theorem Chain.at : ∀ {L : List Ln} {fr e : Int}, Chain L fr e → ∀ t : Nat, t < L.length → fr ≤ (rdLn L t).f0 ∧ (rdLn L t).f0 ≤ (rdLn L t).f1 ∧ (rdLn L t).f1 ≤ (rdLn L t).f2 ∧ (rdLn L t).f2 ≤ e ∧ (t = 0 → (rdLn L t).f0 = fr) ∧
    (t + 1 < L.length → (rdLn L t).f1 < (rdLn L t).f2 ∧ (rdLn L t).f2 ≤ (rdLn L t).f1 + 2 ∧ (rdLn L (t + 1 : Nat)).f0 = (rdLn L t).f2) ∧ (t + 1 = L.length → (rdLn L t).f1 = e ∧ (rdLn L t).f2 = e) ∧ fr ≤ e
  | [], _, _, h, _, _ => h.elim
  | [x], fr, e, ⟨h0, h1, h2, h3⟩, t, ht => by
    obtain rfl : t = 0 := by simpa using ht
    simp only [Int.natCast_zero, rdLn_zero, List.length_singleton]
    omega
  | x :: y :: r, fr, e, ⟨h0, h1, h2, h2', h3⟩, t, ht => by
    cases t with
    | zero =>
      have h4 := Chain.at h3 0 (by simp)
      have h5 := h4.2.2.2.2.1 rfl
      simp only [Int.natCast_zero, rdLn_zero, List.length_cons] at h4 ⊢
      rw [show ((0 + 1 : Nat) : Int) = ((0 + 1 : Nat) : Int) from rfl, rdLn_succ]
      simp only [Int.natCast_zero, rdLn_zero]
      simp only [Int.natCast_zero, rdLn_zero] at h5
      omega
    | succ t =>
      have h4 := Chain.at h3 t (by simpa using ht)
      rw [rdLn_succ, rdLn_succ]
      simp only [List.length_cons] at h4 ⊢
      have h5 := h4.2.2.2.2.2.1
      have h6 := h4.2.2.2.2.2.2.1
      refine ⟨by omega, by omega, by omega, by omega, by omega, fun h => h5 (by omega), fun h => h6 (by omega), by omega⟩
theorem Chain.step {L : List Ln} {fr e : Int} (h : Chain L fr e) (a : Nat) : ∀ d : Nat, a + d < L.length → (rdLn L a).f2 + d ≤ (rdLn L (a + d : Nat)).f2 + (if a + d + 1 = L.length then 1 else 0) ∧ (rdLn L a).f2 ≤ (rdLn L (a + d : Nat)).f2 := by
  intro d
  induction d with
  | zero => intro _; simp; split <;> omega
  | succ d ih =>
    intro hd
    have h1 := ih (by omega)
    have h2 := h.at (a + d) (by omega)
    have h3 := h.at (a + d + 1) (by omega)
    have h4 := h2.2.2.2.2.2.1 (by omega)
    rw [if_neg (by omega)] at h1
    have e1 : ((a + (d + 1) : Nat)) = a + d + 1 := by omega
    rw [e1]
    by_cases hl : a + d + 1 + 1 = L.length
    · rw [if_pos hl]
      omega
    · rw [if_neg hl]
      have h5 := h3.2.2.2.2.2.1 (by omega)
      omega
theorem Chain.rises {L : List Ln} {fr e : Int} (h : Chain L fr e) : Rises L := by
  intro a b hab hb
  obtain ⟨d, rfl⟩ : ∃ d, b = a + d := ⟨b - a, by omega⟩
  exact (h.step a d hb).2
theorem Chain.last {L : List Ln} {fr e : Int} (h : Chain L fr e) : (rdLn L ((L.length : Int) - 1)).f2 = e := by
  have hp := h.pos
  have := (h.at (L.length - 1) (by omega)).2.2.2.2.2.2.1 (by omega)
  rw [show ((L.length : Int) - 1) = ((L.length - 1 : Nat) : Int) by omega]
  exact this.2
theorem Chain.length_le {L : List Ln} {fr e : Int} (h : Chain L fr e) : (L.length : Int) ≤ e - fr + 1 := by
  have hp := h.pos
  have h1 := (h.step 0 (L.length - 1) (by omega)).1
  rw [if_pos (by omega)] at h1
  have h2 := h.at 0 hp
  have h3 := (h.at (0 + (L.length - 1)) (by omega)).2.2.2.2.2.2.1 (by omega)
  rw [h3.2] at h1
  by_cases hl : L.length = 1
  · omega
  · have := h2.2.2.2.2.2.1 (by omega)
    omega
theorem Chain.find {L : List Ln} {fr e : Int} (h : Chain L fr e) (at_ : Int) : ∃ r, FindAt L at_ r := by
  have hp := h.pos
  have : ∀ d : Nat, d < L.length → (∃ r, FindAt L at_ r) ∨ (∀ t : Nat, t < d → (rdLn L t).f2 ≤ at_) := by
    intro d
    induction d with
    | zero => intro _; exact .inr (fun t ht => absurd ht (Nat.not_lt_zero _))
    | succ d ih =>
      intro hd
      rcases ih (by omega) with h1 | h1
      · exact .inl h1
      · by_cases hlt : at_ < (rdLn L d).f2
        · exact .inl ⟨d, by omega, h1, fun _ => hlt⟩
        · refine .inr (fun t ht => ?_)
          rcases Nat.lt_succ_iff_lt_or_eq.1 ht with h2 | rfl
          · exact h1 t h2
          · omega
  rcases this (L.length - 1) (by omega) with h1 | h1
  · exact h1
  · exact ⟨L.length - 1, by omega, h1, fun h2 => by omega⟩

/-- (*lines.Index).Find is the line of a byte. -/
theorem Find_is (a : Nat) (L : List Ln) (fr e at_ : Int) (r : Nat) (w : World) (hI : IsIdx w a L) (hc : Chain L fr e) (h0 : 0 ≤ at_) (h1 : at_ ≤ e) (hs : L.length ≤ 2097152) (hf : FindAt L at_ r) :
    Calls Try.prog 31 #[.pointer (some ⟨a, 0, none⟩), .int .i64 at_] w fun e w' => e = .returned (.tuple #[.int .i64 r, .int .i64 0]) ∧ Below w.heap.size w w' := by
  refine (Find_ok a L at_ w hI hc.pos h0 (by rw [hc.last]; exact h1) hs hc.rises).mono ?_
  rintro e' w' ⟨r', rfl, h2, h3, h4, hb⟩
  obtain rfl : r' = r := FindAt.uniq ⟨h2, h3, fun h => h4 r' (Nat.le_refl _) h⟩ hf
  exact ⟨rfl, hb⟩
theorem Find_no (a : Nat) (L : List Ln) (fr e at_ : Int) (w : World) (hI : IsIdx w a L) (hc : Chain L fr e) (h1 : at_ < 0 ∨ e < at_) (hs : L.length ≤ 2097152) :
    Calls Try.prog 31 #[.pointer (some ⟨a, 0, none⟩), .int .i64 at_] w fun e w' => e = .returned (.tuple #[.int .i64 0, .int .i64 9]) ∧ Below w.heap.size w w' :=
  Find_out a L at_ w hI hc.pos (by rw [hc.last]; exact h1) hs
theorem RFind_is (a : Nat) (L : List Ln) (fr e at_ : Int) (r : Nat) (w : World) (hI : IsRef w a L) (hc : Chain L fr e) (h0 : 0 ≤ at_) (h1 : at_ ≤ e) (hs : L.length ≤ 2097152) (hf : FindAt L at_ r) :
    Calls Try.prog 32 #[.pointer (some ⟨a, 0, none⟩), .int .i64 at_] w fun e w' => e = .returned (.tuple #[.int .i64 r, .int .i64 0]) ∧ w = w' := by
  refine (RFind_ok a L at_ w hI hc.pos h0 (by rw [hc.last]; exact h1) hs).mono ?_
  rintro e' w' ⟨r', rfl, h2, rfl⟩
  obtain rfl : r' = r := h2.uniq hf
  exact ⟨rfl, rfl⟩
theorem RFind_no (a : Nat) (L : List Ln) (fr e at_ : Int) (w : World) (hI : IsRef w a L) (hc : Chain L fr e) (h1 : at_ < 0 ∨ e < at_) (hs : L.length ≤ 2097152) :
    Calls Try.prog 32 #[.pointer (some ⟨a, 0, none⟩), .int .i64 at_] w fun e w' => e = .returned (.tuple #[.int .i64 0, .int .i64 9]) ∧ w = w' :=
  RFind_out a L at_ w hI hc.pos (by rw [hc.last]; exact h1) hs
end Go.Proofs.Ytogfaahdbecdnaa.B

/-
  The statements of lines: their helpers 'spans' and 'works', walked.
-/
namespace Go.Proofs.Ytogfaahdbecdnaa.B
open Go.RowKit Go.Proofs.YtogfaahdbecdnaaW.PrintWords Go.Proofs.YtogfaahdbecdnaaW.PrintLast Go.Proofs.YtogfaahdbecdnaaW.PrintMore Go.Proofs.Ytogfaahdbecdnaa.FBase
set_option linter.unusedVariables false

/-- A literal of bytes, in a block of its own. -/
theorem lit_bytes (W : World) (l : List Int) (cs : Array Value) (t : TypeId) (hcs : cs.toList = l.map (Value.int .u8)) (hn : l.length ≤ 9223372036854775807) : Kd.C (Kd.int .u8) (W.alloc (.cells cs t)) (some ⟨W.heap.size, 0, none⟩) l.length l := by
  refine Kd.C_of_reads (d := 0) ⟨rfl, hn, fun _ => ⟨_, rfl, fun j hj => ?_⟩⟩
  rw [show (⟨W.heap.size, 0, none⟩ : Addr).add j = ⟨W.heap.size, j, none⟩ by simp [Addr.add]; omega, blk_cell (blk_new W _) j, ← Array.getElem?_toList, hcs]
  simp [List.getD, hj]

set_option maxHeartbeats 1000000 in
/-- spans: of the line that it names. -/
theorem spans_ok (a : Nat) (L : List Ln) (i x0 x1 x2 : Int) (w : World) (hI : IsIdx w a L) (h0 : 0 ≤ i) (h1 : i < L.length) (hs : L.length ≤ 2097152) (hx : rdLn L i = ⟨x0, x1, x2⟩) :
    Calls Try.prog 33 #[.pointer (some ⟨a, 0, none⟩), .int .i64 i, .int .i64 x0, .int .i64 x1, .int .i64 x2] w fun e w' => e = .returned (.bool true) ∧ Below w.heap.size w w' := by
  have hl := Line_ok a L i w hI h0 h1 hs
  rw [hx] at hl
  have HL := Aside0.mk hl
  clear hl hx hI
  go_enter Try.func33, Try.ntmps33
  go_wp2_with (go_at_call 27; refine HL.out.mono ?_; rintro e w' ⟨rfl, hb⟩; have HB := Aside0.mk hb; clear hb)
  go_ret
  refine ⟨rfl, ?_⟩
  repeat (first | exact HB.out | apply below_alloc | apply pw_below_drewN | apply below_drew1)

theorem works_chk : runes_Check.f 30 [97, 10, 98, 13, 10, 13, 99] = some (7, 0) := by decide +kernel
theorem works_lns : lns [97, 10, 98, 13, 10, 13, 99] 0 0 = [⟨0, 1, 2⟩, ⟨2, 3, 5⟩, ⟨5, 5, 6⟩, ⟨6, 7, 7⟩] := by simp [lns]
theorem works_find : FindAt [⟨0, 1, 2⟩, ⟨2, 3, 5⟩, ⟨5, 5, 6⟩, ⟨6, 7, 7⟩] 4 1 := by
  refine ⟨by decide, fun t ht => ?_, fun _ => by decide⟩
  obtain rfl : t = 0 := by omega
  decide

set_option maxHeartbeats 2000000 in
/-- works. -/
theorem works_ok (w : World) : Calls Try.prog 24 #[] w fun e w' => e = .returned (.bool true) ∧ Below w.heap.size w w' := by
  have HB0 := Aside0.mk (Below.refl w.heap.size w)
  go_enter Try.func24, Try.ntmps24
  have hc4 : Chain [⟨0, 1, 2⟩, ⟨2, 3, 5⟩, ⟨5, 5, 6⟩, ⟨6, 7, 7⟩] 0 7 := by simp [Chain]
  have HCH := Aside0.mk hc4
  have HF := Aside0.mk works_find
  clear hc4
  have t0 := True.intro
  have t1 := True.intro
  have t2 := True.intro
  have t3 := True.intro
  go_wp2_with (first | (go_at_call 21; refine (New_ok 30 (some ⟨w.heap.size, 0, none⟩) 7 [97, 10, 98, 13, 10, 13, 99] 7 _ (lit_bytes w _ _ _ rfl (by decide)) (by decide) works_chk (by decide)).mono ?_; rintro e w1 ⟨a, rfl, hle, hI, hb⟩; rw [works_lns] at hI; have HI := Aside0.mk hI; have HB := Aside0.mk (below_step (below_alloc (Below.refl _ _) _) hb); clear hI hb) | (go_at_call 26; refine (Count_ok a _ _ (by repeat (first | exact HI.out | apply IsIdx.alloc | apply IsIdx.drewN)) (by decide) (by decide)).mono ?_; rintro e w' ⟨rfl, hb⟩; have n_ := Aside0.mk (IsIdx.below (by repeat (first | exact HI.out | apply IsIdx.alloc | apply IsIdx.drewN)) hb); have m_ := Aside0.mk (below_step (by repeat (first | exact HB.out | apply below_alloc | apply pw_below_drewN | apply below_drew1)) hb); clear HI HB; have HI := n_; have HB := m_; clear n_ m_ hb) | (go_at_call 31; refine (Find_is a _ 0 7 4 1 _ (by repeat (first | exact HI.out | apply IsIdx.alloc | apply IsIdx.drewN)) HCH.out (by decide) (by decide) (by decide) HF.out).mono ?_; rintro e w' ⟨rfl, hb⟩; have n_ := Aside0.mk (IsIdx.below (by repeat (first | exact HI.out | apply IsIdx.alloc | apply IsIdx.drewN)) hb); have m_ := Aside0.mk (below_step (by repeat (first | exact HB.out | apply below_alloc | apply pw_below_drewN | apply below_drew1)) hb); clear HI HB; have HI := n_; have HB := m_; clear n_ m_ hb) | (have _t := t0; go_at_call 33; refine (spans_ok a _ 0 0 1 2 _ (by repeat (first | exact HI.out | apply IsIdx.alloc | apply IsIdx.drewN)) (by decide) (by decide) (by decide) rfl).mono ?_; rintro e w' ⟨rfl, hb⟩; clear t0 _t; have n_ := Aside0.mk (IsIdx.below (by repeat (first | exact HI.out | apply IsIdx.alloc | apply IsIdx.drewN)) hb); have m_ := Aside0.mk (below_step (by repeat (first | exact HB.out | apply below_alloc | apply pw_below_drewN | apply below_drew1)) hb); clear HI HB; have HI := n_; have HB := m_; clear n_ m_ hb) | (have _t := t1; go_at_call 33; refine (spans_ok a _ 1 2 3 5 _ (by repeat (first | exact HI.out | apply IsIdx.alloc | apply IsIdx.drewN)) (by decide) (by decide) (by decide) rfl).mono ?_; rintro e w' ⟨rfl, hb⟩; clear t1 _t; have n_ := Aside0.mk (IsIdx.below (by repeat (first | exact HI.out | apply IsIdx.alloc | apply IsIdx.drewN)) hb); have m_ := Aside0.mk (below_step (by repeat (first | exact HB.out | apply below_alloc | apply pw_below_drewN | apply below_drew1)) hb); clear HI HB; have HI := n_; have HB := m_; clear n_ m_ hb) | (have _t := t2; go_at_call 33; refine (spans_ok a _ 2 5 5 6 _ (by repeat (first | exact HI.out | apply IsIdx.alloc | apply IsIdx.drewN)) (by decide) (by decide) (by decide) rfl).mono ?_; rintro e w' ⟨rfl, hb⟩; clear t2 _t; have n_ := Aside0.mk (IsIdx.below (by repeat (first | exact HI.out | apply IsIdx.alloc | apply IsIdx.drewN)) hb); have m_ := Aside0.mk (below_step (by repeat (first | exact HB.out | apply below_alloc | apply pw_below_drewN | apply below_drew1)) hb); clear HI HB; have HI := n_; have HB := m_; clear n_ m_ hb) | (have _t := t3; go_at_call 33; refine (spans_ok a _ 3 6 7 7 _ (by repeat (first | exact HI.out | apply IsIdx.alloc | apply IsIdx.drewN)) (by decide) (by decide) (by decide) rfl).mono ?_; rintro e w' ⟨rfl, hb⟩; clear t3 _t; have n_ := Aside0.mk (IsIdx.below (by repeat (first | exact HI.out | apply IsIdx.alloc | apply IsIdx.drewN)) hb); have m_ := Aside0.mk (below_step (by repeat (first | exact HB.out | apply below_alloc | apply pw_below_drewN | apply below_drew1)) hb); clear HI HB; have HI := n_; have HB := m_; clear n_ m_ hb))
  go_ret
  refine ⟨rfl, ?_⟩
  repeat (first | exact HB.out | apply below_alloc | apply pw_below_drewN | apply below_drew1)
end Go.Proofs.Ytogfaahdbecdnaa.B

/-
  Words of this session's own: a block, whole; a literal's bytes behind other allocations; a func value against nil.
-/
namespace Go.Proofs.Ytogfaahdbecdnaa.B
open Go.RowKit Go.Shelf Go.Proofs Go.Proofs.YtogfaahdbecdnaaW.PrintWords Go.Proofs.YtogfaahdbecdnaaW.PrintLast Go.Proofs.YtogfaahdbecdnaaW.PrintMore Go.Proofs.Ytogfaahdbecdnaa.FBase
set_option linter.unusedVariables false
attribute [local go_sem] Oper.semAt_some

/-- A block, whole. -/
def IsBlk (W : World) (g : Nat) (o : Obj) : Prop := W.heap[g]? = some o
theorem IsBlk.below {W W1 : World} {g : Nat} {o : Obj} (h : IsBlk W g o) (hb : Below W.heap.size W W1) : IsBlk W1 g o := (hb.block g (blk_lt h)).trans h
theorem IsBlk.alloc {W : World} {g : Nat} {o : Obj} (h : IsBlk W g o) (o1 : Obj) : IsBlk (W.alloc o1) g o := h.below (below_alloc (Below.refl _ _) o1)
theorem IsBlk.drewN {W : World} {g : Nat} {o : Obj} (h : IsBlk W g o) (n : Nat) : IsBlk (W.drewN n) g o := h.below (pw_below_drewN (Below.refl _ _) n)
theorem IsBlk.cell {W : World} {g : Nat} {cs : Array Value} {t : TypeId} (h : IsBlk W g (.cells cs t (0, 0))) (i : Nat) : W.cell? ⟨g, i, none⟩ = cs[i]? := blk_cell h i
theorem IsBlk.frozen {W : World} {g : Nat} {cs : Array Value} {t : TypeId} (h : IsBlk W g (.cells cs t (0, 0))) (i : Nat) : W.frozen? ⟨g, i, none⟩ = false := blk_frozen h i
theorem lit_at (W : World) (g : Nat) (l : List Int) (cs : Array Value) (t : TypeId) (hg : W.heap.size = g) (hcs : cs.toList = l.map (Value.int .u8)) (hn : l.length ≤ 9223372036854775807) : Kd.C (Kd.int .u8) (W.alloc (.cells cs t)) (some ⟨g, 0, none⟩) l.length l := by
  subst hg
  exact lit_bytes W l cs t hcs hn
theorem run_equalIn_func_nil {P : Program} (d : Nat) (t : TypeId) {ps rs : Array TypeId} {v : Bool} (h : P.underlying t = some (.func ps rs v)) (W : World) (f : Fn) (xs cs : Array Value) : (Op.equalIn (d + 1) t (.func f xs cs) .nilFunc).run P W = .ok false W := by
  simp [Op.equalIn, run_underlying h]
theorem run_equal_func_nil {P : Program} (t : TypeId) {ps rs : Array TypeId} {v : Bool} (h : P.underlying t = some (.func ps rs v)) (W : World) (f : Fn) (xs cs : Array Value) : (Op.equal t (.func f xs cs) .nilFunc).run P W = .ok false W := run_equalIn_func_nil 9999 t h W f xs cs
theorem run_eql_func_nil {P : Program} (t : TypeId) {ps rs : Array TypeId} {v : Bool} (h : P.underlying t = some (.func ps rs v)) (W : World) (f : Fn) (xs cs : Array Value) : (binOp .eql t (.func f xs cs) .nilFunc).run P W = .ok (.bool false) W := by
  simp only [binOp]
  simp [run_equal_func_nil t h W f xs cs]
theorem seq_func : ∃ ps rs v, Try.prog.underlying 40 = some (.func ps rs v) := by
  have h : (match Try.prog.underlying 40 with | some (.func _ _ _) => true | _ => false) = true := by kernel_rfl
  split at h
  · rename_i ps rs v e
    exact ⟨ps, rs, v, e⟩
  · cases h
theorem eql_seq (W : World) (f : Fn) (xs cs : Array Value) : (binOp .eql 40 (.func f xs cs) .nilFunc).run Try.prog W = .ok (.bool false) W := by
  obtain ⟨ps, rs, v, h⟩ := seq_func
  exact run_eql_func_nil _ h W f xs cs
theorem Chain.inside {L : List Ln} {fr e : Int} (hc : Chain L fr e) (n : Nat) (hn : n < L.length) (i : Int) (h0 : (rdLn L n).f0 ≤ i) (h1 : i < (rdLn L n).f2) : FindAt L i n := by
  refine ⟨hn, fun t ht => ?_, fun _ => h1⟩
  have h2 := hc.at t (by omega)
  have h3 := h2.2.2.2.2.2.1 (by omega)
  have h4 := (hc.step t (n - 1 - t) (by omega)).2
  rw [show t + (n - 1 - t) = n - 1 by omega] at h4
  have h5 := (hc.at (n - 1) (by omega)).2.2.2.2.2.1 (by omega)
  rw [show n - 1 + 1 = n by omega] at h5
  omega
theorem Chain.atEnd {L : List Ln} {fr e : Int} (hc : Chain L fr e) : FindAt L e (L.length - 1) := by
  have hp := hc.pos
  exact ⟨by omega, fun t ht => (hc.at t (by omega)).2.2.2.1, fun h => by omega⟩

theorem two_blk (W : World) (o1 o2 : Obj) (t : Nat) : ((W.alloc o1).alloc o2).cell? ⟨W.heap.size, t, none⟩ = (W.alloc o1).cell? ⟨W.heap.size, t, none⟩ ∧ ((W.alloc o1).alloc o2).cell? ⟨W.heap.size + 1, t, none⟩ = ((W.alloc o1).alloc o2).cell? ⟨(W.alloc o1).heap.size, t, none⟩ :=
  ⟨(below_alloc (Below.refl (W.alloc o1).heap.size (W.alloc o1)) o2).cell (p := ⟨W.heap.size, t, none⟩) (by simp), by rw [World.size_alloc]⟩
theorem cell_alloc1 {W : World} {p : Addr} {v : Value} (h : W.cell? p = some v) (o : Obj) : (W.alloc o).cell? p = some v := ((below_alloc (Below.refl _ W) o).cell (World.block_lt_of_cell? W _ h)).trans h
theorem cell_drewN1 {W : World} {p : Addr} {v : Value} (h : W.cell? p = some v) (n : Nat) : (W.drewN n).cell? p = some v := ((pw_below_drewN (Below.refl _ W) n).cell (World.block_lt_of_cell? W _ h)).trans h
theorem cell_below {W W1 : World} {p : Addr} {v : Value} (h : W.cell? p = some v) (hb : Below W.heap.size W W1) : W1.cell? p = some v := (hb.cell (World.block_lt_of_cell? W _ h)).trans h

end Go.Proofs.Ytogfaahdbecdnaa.B

/-
  Words of this session's own: what stands of memory ahead of and behind a place; more of the document's lines.
-/
namespace Go.Proofs.Ytogfaahdbecdnaa.B
open Go.RowKit Go.Shelf Go.Proofs Go.Proofs.YtogfaahdbecdnaaW.PrintWords Go.Proofs.YtogfaahdbecdnaaW.PrintLast Go.Proofs.YtogfaahdbecdnaaW.PrintMore Go.Proofs.Ytogfaahdbecdnaa.FBase
set_option linter.unusedVariables false
attribute [local go_sem] Oper.semAt_some

/-- A word on memory that is kept by whatever only makes memory. -/
def Keeps (F : World → Prop) : Prop := ∀ W1 W2 : World, F W1 → Below W1.heap.size W1 W2 → F W2
/-- What is carried through a walk: nothing of w has changed; F. -/
structure Sta (w W : World) (F : World → Prop) : Prop where
  bel : Below w.heap.size w W
  now : F W
  keeps : Keeps F
theorem Sta.step {w W W1 : World} {F : World → Prop} (h : Sta w W F) (c : Below W.heap.size W W1) : Sta w W1 F := ⟨below_step h.bel c, h.keeps _ _ h.now c, h.keeps⟩
theorem Sta.call {w W W1 W2 : World} {F : World → Prop} (h : Sta w W F) (c : Below W.heap.size W W1) (hb : Below W1.heap.size W1 W2) : Sta w W2 F := (h.step c).step hb
theorem Sta.add {w W : World} {F G : World → Prop} (h : Sta w W F) (g : G W) (k : Keeps G) : Sta w W (fun W => G W ∧ F W) := ⟨h.bel, ⟨g, h.now⟩, fun _ _ h1 hb => ⟨k _ _ h1.1 hb, h.keeps _ _ h1.2 hb⟩⟩
theorem Sta.only {w W : World} {F G : World → Prop} (h : Sta w W F) (g : G W) (k : Keeps G) : Sta w W G := ⟨h.bel, g, k⟩
theorem Sta.start (w : World) : Sta w w (fun _ => True) := ⟨Below.refl _ _, trivial, fun _ _ h _ => h⟩
theorem keeps_and {F G : World → Prop} (h : Keeps F) (k : Keeps G) : Keeps (fun W => F W ∧ G W) := fun _ _ h1 hb => ⟨h _ _ h1.1 hb, k _ _ h1.2 hb⟩
theorem keeps_idx (a : Nat) (L : List Ln) : Keeps (fun W => IsIdx W a L) := fun _ _ h hb => h.below hb
theorem keeps_ref (a : Nat) (L : List Ln) : Keeps (fun W => IsRef W a L) := fun _ _ h hb => h.below hb
theorem keeps_blk (g : Nat) (o : Obj) : Keeps (fun W => IsBlk W g o) := fun _ _ h hb => h.below hb
theorem keeps_C {α : Type} (d : Kd α) (A : Option Addr) (n : Nat) (xs : List α) : Keeps (fun W => Kd.C d W A n xs) := fun _ _ h hb => Kd.C_below h hb
theorem keeps_R {α : Type} (d : Kd α) (e base : Nat) (ok : Nat → Prop) (v : Value) (xs : List α) : Keeps (fun W => Kd.R d e W base ok v xs) := fun _ _ h hb => Kd.R_below h hb
theorem keeps_cell (p : Addr) (v : Value) : Keeps (fun W => W.cell? p = some v) := fun _ _ h hb => cell_below h hb
theorem keeps_from (base : Nat) (F : World → Prop) : Keeps (fun W => FromBase base W F) := fun _ _ h hb => h.below hb
theorem FromBase.and {base : Nat} {W : World} {F G : World → Prop} (h : FromBase base W F) (k : FromBase base W G) : FromBase base W (fun W => F W ∧ G W) := fun W1 h1 => ⟨h W1 h1, k W1 h1⟩
theorem FromBase.lower {base base' : Nat} {W : World} {F : World → Prop} (h : FromBase base W F) (hb : base' ≤ base) : FromBase base' W F := fun W1 h1 => h W1 (fun k hk => h1 k (Nat.le_trans hb hk))
theorem FromBase.blk {base g : Nat} {W : World} {o : Obj} (hg : base ≤ g) (h : IsBlk W g o) : FromBase base W (fun W => IsBlk W g o) := fun W1 h1 => (h1 g hg (blk_lt h)).trans h
theorem FromBase.set {base : Nat} {W : World} {F : World → Prop} (h : FromBase base W F) {p : Addr} (hp : p.block < base) (u : Value) : FromBase base (W.setCell p u) F :=
  h.step (fun k hk _ => Below.heap_setCell W p u k (by omega))
theorem FromBase.mono {base : Nat} {W : World} {F G : World → Prop} (h : FromBase base W F) (hFG : ∀ W, F W → G W) : FromBase base W G := fun W1 h1 => hFG _ (h W1 h1)
theorem IsBlk.setTo {W : World} {g : Nat} {v : Value} {t : TypeId} (h : IsBlk W g (.cells #[v] t (0, 0))) (u : Value) : IsBlk (W.setCell ⟨g, 0, none⟩ u) g (.cells #[u] t (0, 0)) := (blk_set h 0 u).trans rfl
theorem IsBlk.other {W : World} {g : Nat} {o : Obj} (h : IsBlk W g o) {p : Addr} (hne : g ≠ p.block) (u : Value) : IsBlk (W.setCell p u) g o := (Below.heap_setCell W p u g hne).trans h

theorem Copy_ok (A : Option Addr) (c : Nat) (l : List Int) (w : World) (hr : Kd.C (Kd.int .u8) w A l.length l) (hc : l.length ≤ c) (hs : l.length ≤ 1048576) :
    Calls Try.prog 20 #[.slice A l.length c] w fun e w' => ∃ v : Value, e = .returned v ∧ Kd.R (Kd.int .u8) 5 w' w.heap.size (fun _ => True) v l ∧ Below w.heap.size w w' :=
  colophonref00_CopyBytes.calls A c l l w hr hc (by unfold colophonref00_CopyBytes.f; rw [if_pos (by simp; omega)]; simp)

theorem two_cells (W : World) (x0 x1 x2 : Int) (t : TypeId) :
    ((W.alloc (.cells #[.int .i64 x0, .int .i64 x2] t)).alloc (.cells #[.int .i64 x0, .int .i64 x1] t)).cell? ⟨W.heap.size, 0, none⟩ = some (.int .i64 x0) ∧ ((W.alloc (.cells #[.int .i64 x0, .int .i64 x2] t)).alloc (.cells #[.int .i64 x0, .int .i64 x1] t)).cell? ⟨W.heap.size, 1, none⟩ = some (.int .i64 x2) ∧
    ((W.alloc (.cells #[.int .i64 x0, .int .i64 x2] t)).alloc (.cells #[.int .i64 x0, .int .i64 x1] t)).cell? ⟨W.heap.size + 1, 0, none⟩ = some (.int .i64 x0) ∧ ((W.alloc (.cells #[.int .i64 x0, .int .i64 x2] t)).alloc (.cells #[.int .i64 x0, .int .i64 x1] t)).cell? ⟨W.heap.size + 1, 1, none⟩ = some (.int .i64 x1) :=
  ⟨(two_blk W _ _ 0).1.trans ((blk_cell (blk_new W _) 0).trans rfl), (two_blk W _ _ 1).1.trans ((blk_cell (blk_new W _) 1).trans rfl), (two_blk W _ _ 0).2.trans ((blk_cell (blk_new _ _) 0).trans rfl), (two_blk W _ _ 1).2.trans ((blk_cell (blk_new _ _) 1).trans rfl)⟩
theorem own_at {k : IntKind} {e base n cap : Nat} {ok : Nat → Prop} {W : World} {A : Option Addr} {xs : List Int} (h : Kd.R (Kd.int k) e W base ok (.slice A n cap) xs) (hn : 0 < n) : ∃ g, A = some ⟨g, 0, none⟩ ∧ base ≤ g ∧ g < W.heap.size := by
  obtain ⟨inner, ho⟩ := Kd.R_own h
  rcases ho.2 with ⟨hv, _⟩ | ⟨g, cap', cur, hv, hg, hh, _⟩
  · injection hv with _ h2 _
    omega
  · injection hv with h1 _ _
    exact ⟨g, h1, hg, blk_lt hh⟩
theorem cell_own {k : IntKind} {e base g n cap : Nat} {ok : Nat → Prop} {W : World} {xs : List Int} (h : Kd.R (Kd.int k) e W base ok (.slice (some ⟨g, 0, none⟩) n cap) xs) (i : Nat) (hi : i < n) : W.cell? ⟨g, i, none⟩ = some (.int k (rd xs i)) ∧ W.frozen? ⟨g, i, none⟩ = false := by
  have h := Kd.R_celln (enc := Value.int k) (h1 := fun _ => rfl) (0 : Int) h (i : Int) (by omega) (by omega)
  rw [Int.toNat_natCast] at h
  exact h
theorem put_own {k : IntKind} {e base g n cap : Nat} {ok : Nat → Prop} {W : World} {xs : List Int} (h : Kd.R (Kd.int k) e W base ok (.slice (some ⟨g, 0, none⟩) n cap) xs) (i : Nat) (x : Int) : Kd.R (Kd.int k) e (W.setCell ⟨g, i, none⟩ (.int k x)) base ok (.slice (some ⟨g, 0, none⟩) n cap) (xs.set i x) := by
  have h := Kd.R_putn (enc := Value.int k) (h1 := fun _ => rfl) h (i : Int) x
  rw [Int.toNat_natCast] at h
  exact h

set_option maxHeartbeats 1000000 in
/-- (*colophonref03.Index).Line of a line that there isn't. -/
theorem RLine_out (a : Nat) (L : List Ln) (i : Int) (w : World) (hI : IsRef w a L) (h1 : i < 0 ∨ L.length ≤ i) :
    Calls Try.prog 28 #[.pointer (some ⟨a, 0, none⟩), .int .i64 i] w fun e w' => e = .returned (.tuple #[.agg #[.int .i64 0, .int .i64 0], .agg #[.int .i64 0, .int .i64 0], .int .i64 9]) ∧ Below w.heap.size w w' := by
  obtain ⟨A, c, A', c', h2, h3, hc, hc'⟩ := hI.cells
  have g2 := cell_alloc2 h2
  clear hc hc' hI h3 h2
  by_cases hlt : i < 0
  all_goals
    have hge : ¬ i < 0 → decide ((L.length : Int) ≤ i) = true := fun h => decide_eq_true (by omega)
    go_enter Try.func28, Try.ntmps28
    go_wp2
    refine bodyPost_ret (v := .tuple #[.agg #[.int .i64 0, .int .i64 0], .agg #[.int .i64 0, .int .i64 0], .int .i64 9]) (by simp [results, Try.results28, go_sem]) rfl ⟨rfl, ?_⟩
    repeat (first | exact Below.refl _ _ | apply below_alloc | apply pw_below_drewN | apply below_drew1 | refine Below.setCell ?_ (by simp) _)
end Go.Proofs.Ytogfaahdbecdnaa.B

/-
  Plain laws of characters: what the program's Decode and Check come to.
-/
namespace Go.Proofs.Ytogfaahdbecdnaa.B
open Go.RowKit Go.Proofs.YtogfaahdbecdnaaW.PrintWords Go.Proofs.YtogfaahdbecdnaaW.PrintLast Go.Proofs.YtogfaahdbecdnaaW.PrintMore Go.Proofs.Ytogfaahdbecdnaa.FBase
set_option linter.unusedVariables false

/-- Bytes. -/
def Bytes (l : List Int) : Prop := ∀ x ∈ l, 0 ≤ x ∧ x < 256
theorem Bytes.tail {b : Int} {l : List Int} (h : Bytes (b :: l)) : Bytes l := fun x hx => h x (List.mem_cons_of_mem _ hx)
theorem Bytes.drop {l : List Int} (h : Bytes l) (n : Nat) : Bytes (l.drop n) := fun x hx => h x (List.mem_of_mem_drop hx)
theorem Bytes.take {l : List Int} (h : Bytes l) (n : Nat) : Bytes (l.take n) := fun x hx => h x (List.mem_of_mem_take hx)

/-- How many bytes a first byte begins. -/
def sizeOfFirst (b : Int) : Int := if b < 128 then 1 else if b < 194 then 0 else if 244 < b then 0 else if b < 224 then 2 else if b < 240 then 3 else 4
def lowOf (b : Int) : Int := if b = 224 then 160 else if b = 240 then 144 else 128
def highOf (b : Int) : Int := if b = 237 then 159 else if b = 244 then 143 else 191
/-- The rest of a character of n bytes, the first of which has the bits c. -/
def restOf (c n lo hi : Int) : List Int → Int × Int × Int
  | [] => (0, 0, 3)
  | b1 :: t1 =>
    if b1 < lo then (0, 0, 10) else if hi < b1 then (0, 0, 10)
    else if n = 2 then (c * 64 + b1 % 64, 2, 0)
    else match t1 with
    | [] => (0, 0, 3)
    | b2 :: t2 =>
      if b2 < 128 then (0, 0, 10) else if 191 < b2 then (0, 0, 10)
      else if n = 3 then ((c * 64 + b1 % 64) * 64 + b2 % 64, 3, 0)
      else match t2 with
      | [] => (0, 0, 3)
      | b3 :: _ => if b3 < 128 then (0, 0, 10) else if 191 < b3 then (0, 0, 10) else (((c * 64 + b1 % 64) * 64 + b2 % 64) * 64 + b3 % 64, 4, 0)
/-- The character at the head of bytes: it, its size, an error. -/
def dec : List Int → Int × Int × Int
  | [] => (0, 0, 9)
  | b :: t =>
    if sizeOfFirst b = 1 then (b, 1, 0) else if sizeOfFirst b = 0 then (0, 0, 10)
    else if sizeOfFirst b = 2 then restOf (b % 32) 2 (lowOf b) (highOf b) t
    else if sizeOfFirst b = 3 then restOf (b % 16) 3 (lowOf b) (highOf b) t
    else restOf (b % 8) 4 (lowOf b) (highOf b) t

theorem w64 (x : Int) (h0 : 0 ≤ x) (h1 : x < 4611686018427387904) : wrap64 x = x := by unfold wrap64; omega
theorem i64_or6 (x y : Int) (hx0 : 0 ≤ x) (hx : x % 64 = 0) (hx1 : x < 4611686018427387904) (h0 : 0 ≤ y) (h1 : y < 64) : Go.bits .or .i64 x y = x + y :=
  bits_join .i64 62 (by decide) (fun n h0 h1 => by rw [IntKind.wrap_i64]; omega) 6 x y hx0 hx hx1 h0 h1 (by omega)
theorem step6 (c b : Int) (h0 : 0 ≤ c) (h1 : c < 16777216) (hb0 : 0 ≤ b) (hb1 : b < 256) : Go.bits .or .i64 (wrap64 (c * 64)) (wrap64 (Go.bits .and .u8 b 63)) = c * 64 + b % 64 := by
  rw [u8_and63 b hb0 hb1, w64 (c * 64) (by omega) (by omega), w64 (b % 64) (by omega) (by omega)]
  exact i64_or6 _ _ (by omega) (by omega) (by omega) (by omega) (by omega)
theorem rd0 (b : Int) (t : List Int) : rd (b :: t) 0 = b := rfl
theorem rd1 (b b1 : Int) (t : List Int) : rd (b :: b1 :: t) 1 = b1 := rfl
theorem rd2 (b b1 b2 : Int) (t : List Int) : rd (b :: b1 :: b2 :: t) 2 = b2 := rfl
theorem rd3 (b b1 b2 b3 : Int) (t : List Int) : rd (b :: b1 :: b2 :: b3 :: t) 3 = b3 := rfl
theorem ww1 : wrap64 (1 + 1) = 2 := by unfold wrap64; omega
theorem ww2 : wrap64 (2 + 1) = 3 := by unfold wrap64; omega
theorem ww3 : wrap64 (3 + 1) = 4 := by unfold wrap64; omega
theorem len1 (b : Int) (t : List Int) : ((b :: t).length : Int) = t.length + 1 := by simp

/-- What form tells. -/
theorem form_f (b : Int) (h0 : 0 ≤ b) (h1 : b < 256) : ∃ m lo hi, runes_form.f 2 b = some (sizeOfFirst b, m, lo, hi) ∧ (sizeOfFirst b = 1 → m = 127) ∧
    (1 < sizeOfFirst b → lo = lowOf b ∧ hi = highOf b) ∧ (sizeOfFirst b = 2 → m = 31) ∧ (sizeOfFirst b = 3 → m = 15) ∧ (sizeOfFirst b = 4 → m = 7) := by
  unfold runes_form.f sizeOfFirst lowOf highOf
  by_cases c1 : b < 128
  · simp [c1]
  · by_cases c2 : b < 194
    · simp [c1, c2, runes_form.j0]
    · by_cases c3 : 244 < b
      · simp [c1, c2, c3, runes_form.j0]
      · by_cases c4 : b < 224
        · have n1 : ¬ b = 224 := by omega
          have n2 : ¬ b = 240 := by omega
          have n3 : ¬ b = 237 := by omega
          have n4 : ¬ b = 244 := by omega
          simp [c1, c2, c3, c4, n1, n2, n3, n4, runes_form.j0]
          exact ⟨_, _, _, ⟨rfl, rfl, rfl⟩, ⟨rfl, rfl⟩, rfl⟩
        · by_cases c5 : b < 240
          · have n2 : ¬ b = 240 := by omega
            have n4 : ¬ b = 244 := by omega
            by_cases c6 : b = 224
            · simp [c6, runes_form.j0]
              exact ⟨_, _, _, ⟨rfl, rfl, rfl⟩, ⟨rfl, rfl⟩, rfl⟩
            · by_cases c7 : b = 237
              · simp [c7, runes_form.j0]
                exact ⟨_, _, _, ⟨rfl, rfl, rfl⟩, ⟨rfl, rfl⟩, rfl⟩
              · simp [c1, c2, c3, c4, c5, c6, c7, n2, n4, runes_form.j0]
                exact ⟨_, _, _, ⟨rfl, rfl, rfl⟩, ⟨rfl, rfl⟩, rfl⟩
          · have n1 : ¬ b = 224 := by omega
            have n3 : ¬ b = 237 := by omega
            by_cases c6 : b = 240
            · simp [c6, runes_form.j0]
              exact ⟨_, _, _, ⟨rfl, rfl, rfl⟩, ⟨rfl, rfl⟩, rfl⟩
            · by_cases c7 : b = 244
              · simp [c7, runes_form.j0]
                exact ⟨_, _, _, ⟨rfl, rfl, rfl⟩, ⟨rfl, rfl⟩, rfl⟩
              · simp [c1, c2, c3, c4, c5, c6, c7, n1, n3, runes_form.j0]
                exact ⟨_, _, _, ⟨rfl, rfl, rfl⟩, ⟨rfl, rfl⟩, rfl⟩
theorem size_range (b : Int) : sizeOfFirst b = 0 ∨ sizeOfFirst b = 1 ∨ sizeOfFirst b = 2 ∨ sizeOfFirst b = 3 ∨ sizeOfFirst b = 4 := by
  unfold sizeOfFirst
  by_cases c1 : b < 128
  · simp [c1]
  · by_cases c2 : b < 194
    · simp [c1, c2]
    · by_cases c3 : 244 < b
      · simp [c1, c2, c3]
      · by_cases c4 : b < 224
        · simp [c1, c2, c3, c4]
        · by_cases c5 : b < 240 <;> simp [c1, c2, c3, c4, c5]
theorem size_one (b : Int) (h : sizeOfFirst b = 1) : b < 128 := by
  refine Int.not_le.1 (fun hn => ?_)
  unfold sizeOfFirst at h
  rw [if_neg (by omega)] at h
  by_cases c2 : b < 194
  · simp [c2] at h
  · by_cases c3 : 244 < b
    · simp [c2, c3] at h
    · by_cases c4 : b < 224
      · simp [c2, c3, c4] at h
      · by_cases c5 : b < 240 <;> simp [c2, c3, c4, c5] at h

set_option maxRecDepth 100000 in
/-- The rest of a character, byte by byte. -/
theorem loop_f (b : Int) (t : List Int) (h : Bytes (b :: t)) (c n lo hi : Int) (hl : (t.length : Int) < 4611686018427387904) (hn : n = 2 ∨ n = 3 ∨ n = 4) (hc0 : 0 ≤ c) (hc1 : c < 32) (k : Nat) :
    runes_Decode.l0 (k + 4) c n (b :: t) lo hi 1 = some (restOf c n lo hi t) := by
  have hn1 : 1 < n := by omega
  unfold restOf
  rw [runes_Decode.l0, if_pos hn1]
  cases t with
  | nil => simp
  | cons b1 t1 =>
    have hb1 := h b1 (by simp)
    simp only [len1]
    rw [if_neg (by have : (0 : Int) ≤ t1.length := Int.natCast_nonneg _; omega), if_pos (by decide), if_pos (by have : (0 : Int) ≤ t1.length := Int.natCast_nonneg _; omega), rd1]
    by_cases l1 : b1 < lo
    · simp [l1]
    · rw [if_neg l1, if_neg l1]
      by_cases g1 : hi < b1
      · simp [g1]
      · rw [if_neg (by omega), if_neg g1, step6 c b1 hc0 (by omega) hb1.1 hb1.2, ww1, runes_Decode.l0]
        by_cases n2 : n = 2
        · subst n2; simp
        · rw [if_pos (by omega), if_neg n2]
          cases t1 with
          | nil => simp
          | cons b2 t2 =>
            have hb2 := h b2 (by simp)
            simp only [len1]
            rw [if_neg (by have : (0 : Int) ≤ t2.length := Int.natCast_nonneg _; omega), if_pos (by decide), if_pos (by have : (0 : Int) ≤ t2.length := Int.natCast_nonneg _; omega), rd2]
            by_cases l2 : b2 < 128
            · simp [l2]
            · rw [if_neg l2, if_neg l2]
              by_cases g2 : 191 < b2
              · simp [g2]
              · rw [if_neg (by omega), if_neg g2, step6 _ b2 (by omega) (by omega) hb2.1 hb2.2, ww2, runes_Decode.l0]
                by_cases n3 : n = 3
                · subst n3; simp
                · have n4 : n = 4 := by omega
                  rw [if_pos (show (3 : Int) < n by omega), if_neg n3]
                  cases t2 with
                  | nil => simp
                  | cons b3 t3 =>
                    have hb3 := h b3 (by simp)
                    simp only [len1]
                    rw [if_neg (by have : (0 : Int) ≤ t3.length := Int.natCast_nonneg _; omega), if_pos (by decide), if_pos (by have : (0 : Int) ≤ t3.length := Int.natCast_nonneg _; omega), rd3]
                    by_cases l3 : b3 < 128
                    · simp [l3]
                    · rw [if_neg l3, if_neg l3]
                      by_cases g3 : 191 < b3
                      · simp [g3]
                      · rw [if_neg (by omega), if_neg g3, step6 _ b3 (by omega) (by omega) hb3.1 hb3.2, ww3, runes_Decode.l0, if_neg (by omega), n4]

/-- Decode. -/
theorem Decode_f (l : List Int) (i : Int) (h : Bytes l) (hl : l.length ≤ 1048576) (h0 : 0 ≤ i) (h1 : i < l.length) : runes_Decode.f 8 l i = some (dec (l.drop i.toNat)) := by
  unfold runes_Decode.f
  rw [if_neg (by omega), decide_eq_false (by omega)]
  simp only [runes_Decode.j0, Option.bind_some]
  rw [if_neg (by decide), if_pos h0, if_pos (by omega)]
  have hB := h.drop i.toNat
  have hlen : (l.drop i.toNat).length = l.length - i.toNat := List.length_drop
  generalize l.drop i.toNat = y at *
  cases y with
  | nil => simp at hlen; omega
  | cons b t =>
    have hb := hB b (by simp)
    have hpos : (0 : Int) < ((b :: t).length : Int) := by simp only [len1]; omega
    rw [if_pos hpos, rd0]
    obtain ⟨m, lo, hi, hf, f1, f2, f3, f4, f5⟩ := form_f b hb.1 hb.2
    have hf7 : runes_form.f 7 b = some (sizeOfFirst b, m, lo, hi) := by
      have e : ∀ k, runes_form.f (2 + k) b = some (sizeOfFirst b, m, lo, hi) := by
        intro k
        induction k with
        | zero => exact hf
        | succ k ih => exact runes_form.mono b _ _ ih
      exact e 5
    rw [hf7]
    simp only [Option.bind_some]
    have ht : (t.length : Int) < 4611686018427387904 := by simp at hlen; omega
    rcases size_range b with e | e | e | e | e
    · rw [if_pos e]; simp [dec, e]
    · rw [if_neg (by omega), f1 e, show (7 : Nat) = 3 + 4 from rfl]
      rw [show (3 + 4 : Nat) = 6 + 1 from rfl, runes_Decode.l0, if_neg (by omega)]
      have hb2 : b < 128 := size_one b e
      have e2 : Go.bits .and .u8 b 127 = b % 128 := bits_mask .u8 8 (by decide) wraps_u8 7 (by decide) b hb.1 (by omega)
      rw [e2, show b % 128 = b by omega, w64 b hb.1 (by omega)]
      simp [dec, e]
    all_goals
      obtain ⟨rfl, rfl⟩ := f2 (by omega)
      rw [if_neg (by omega)]
    · rw [f3 e, u8_and31 b hb.1 hb.2, w64 _ (by omega) (by omega), e, show (7 : Nat) = 3 + 4 from rfl, loop_f b t hB _ 2 _ _ ht (by simp) (by omega) (by omega) 3]
      simp [dec, e]
    · rw [f4 e, u8_and15 b hb.1 hb.2, w64 _ (by omega) (by omega), e, show (7 : Nat) = 3 + 4 from rfl, loop_f b t hB _ 3 _ _ ht (by simp) (by omega) (by omega) 3]
      simp [dec, e]
    · rw [f5 e, u8_and7 b hb.1 hb.2, w64 _ (by omega) (by omega), e, show (7 : Nat) = 3 + 4 from rfl, loop_f b t hB _ 4 _ _ ht (by simp) (by omega) (by omega) 3]
      simp [dec, e]
end Go.Proofs.Ytogfaahdbecdnaa.B

/-
  Plain laws of characters: Check.
-/
namespace Go.Proofs.Ytogfaahdbecdnaa.B
open Go.RowKit Go.Proofs.YtogfaahdbecdnaaW.PrintWords Go.Proofs.YtogfaahdbecdnaaW.PrintLast Go.Proofs.YtogfaahdbecdnaaW.PrintMore Go.Proofs.Ytogfaahdbecdnaa.FBase
set_option linter.unusedVariables false

theorem LeO_le {α : Type} {f : Nat → Option α} (h : ∀ k, LeO (f k) (f (k + 1))) {a b : Nat} (hab : a ≤ b) {r : α} (e : f a = some r) : f b = some r := by
  obtain ⟨d, rfl⟩ : ∃ d, b = a + d := ⟨b - a, by omega⟩
  induction d with
  | zero => exact e
  | succ d ih => exact h _ _ (ih (by omega))

theorem restOf_ok {c n lo hi : Int} {t : List Int} (h0 : 0 ≤ c) (hn : n = 2 ∨ n = 3 ∨ n = 4) (he : (restOf c n lo hi t).2.2 = 0) : (restOf c n lo hi t).2.1 = n ∧ n ≤ t.length + 1 ∧ 0 ≤ (restOf c n lo hi t).1 := by
  unfold restOf at *
  cases t with
  | nil => simp at he
  | cons b1 t1 =>
    simp only at he ⊢
    by_cases l1 : b1 < lo
    · simp [l1] at he
    · by_cases g1 : hi < b1
      · simp [l1, g1] at he
      · rw [if_neg l1, if_neg g1] at he ⊢
        by_cases n2 : n = 2
        · rw [if_pos n2]; simp only [len1]; refine ⟨n2.symm, ?_, ?_⟩ <;> omega
        · rw [if_neg n2] at he ⊢
          cases t1 with
          | nil => simp at he
          | cons b2 t2 =>
            simp only at he ⊢
            by_cases l2 : b2 < 128
            · simp [l2] at he
            · by_cases g2 : 191 < b2
              · simp [l2, g2] at he
              · rw [if_neg l2, if_neg g2] at he ⊢
                by_cases n3 : n = 3
                · rw [if_pos n3]; simp only [len1]; refine ⟨n3.symm, ?_, ?_⟩ <;> omega
                · rw [if_neg n3] at he ⊢
                  cases t2 with
                  | nil => simp at he
                  | cons b3 t3 =>
                    simp only at he ⊢
                    by_cases l3 : b3 < 128
                    · simp [l3] at he
                    · by_cases g3 : 191 < b3
                      · simp [l3, g3] at he
                      · rw [if_neg l3, if_neg g3]; simp only [len1]; refine ⟨by omega, ?_, ?_⟩ <;> omega
/-- A character has a size, and lies in the bytes. -/
theorem dec_ok {y : List Int} (hy : Bytes y) (he : (dec y).2.2 = 0) : 1 ≤ (dec y).2.1 ∧ (dec y).2.1 ≤ y.length ∧ (dec y).2.1 ≤ 4 ∧ 0 ≤ (dec y).1 := by
  unfold dec at *
  cases y with
  | nil => simp at he
  | cons b t =>
    have hb := hy b (by simp)
    simp only at he ⊢
    rcases size_range b with e | e | e | e | e
    · simp [e] at he
    · simp only [e, if_true, len1]; omega
    · rw [e] at he ⊢
      rw [if_neg (by decide), if_neg (by decide), if_pos rfl] at he ⊢
      have := restOf_ok (by omega) (by simp) he
      simp only [len1]
      omega
    · rw [e] at he ⊢
      rw [if_neg (by decide), if_neg (by decide), if_neg (by decide), if_pos rfl] at he ⊢
      have := restOf_ok (by omega) (by simp) he
      simp only [len1]
      omega
    · rw [e] at he ⊢
      rw [if_neg (by decide), if_neg (by decide), if_neg (by decide), if_neg (by decide)] at he ⊢
      have := restOf_ok (by omega) (by simp) he
      simp only [len1]
      omega

/-- Check, from a place on. -/
def chkF : Nat → List Int → Int → Int × Int
  | 0, _, i => (i, 0)
  | n + 1, l, i => if i < l.length then (if (dec (l.drop i.toNat)).2.2 = 0 then chkF n l (i + (dec (l.drop i.toNat)).2.1) else (i, (dec (l.drop i.toNat)).2.2)) else (i, 0)
def chk (l : List Int) : Int × Int := chkF l.length l 0

theorem Decode_ge {l : List Int} {i : Int} (h : Bytes l) (hl : l.length ≤ 1048576) (h0 : 0 ≤ i) (h1 : i < l.length) {k : Nat} (hk : 8 ≤ k) : runes_Decode.f k l i = some (dec (l.drop i.toNat)) :=
  LeO_le (fun k => runes_Decode.mono l i k) hk (Decode_f l i h hl h0 h1)
theorem Check_l (l : List Int) (h : Bytes l) (hl : l.length ≤ 1048576) (n : Nat) : ∀ (k : Nat) (i : Int), 0 ≤ i → i ≤ l.length → (l.length : Int) - i ≤ n → n + 8 < k → runes_Check.l0 k l i = some (chkF n l i) := by
  induction n with
  | zero =>
    intro k i h0 h1 hn hk
    obtain ⟨k, rfl⟩ : ∃ m, k = m + 1 := ⟨k - 1, by omega⟩
    rw [runes_Check.l0, if_neg (by omega), chkF]
  | succ n ih =>
    intro k i h0 h1 hn hk
    obtain ⟨k, rfl⟩ : ∃ m, k = m + 1 := ⟨k - 1, by omega⟩
    rw [runes_Check.l0, chkF]
    by_cases hi : i < (l.length : Int)
    · rw [if_pos hi, if_pos hi, Decode_ge h hl h0 hi (by omega)]
      simp only [Option.bind_some]
      by_cases he : (dec (l.drop i.toNat)).2.2 = 0
      · rw [if_pos he, if_pos he]
        have hd := dec_ok (h.drop i.toNat) he
        have hlen : (l.drop i.toNat).length = l.length - i.toNat := List.length_drop
        rw [w64 _ (by omega) (by omega)]
        exact ih k _ (by omega) (by omega) (by omega) (by omega)
      · rw [if_neg he, if_neg he]
    · rw [if_neg hi, if_neg hi]
/-- Check. -/
theorem Check_f (l : List Int) (h : Bytes l) (hl : l.length ≤ 1048576) {k : Nat} (hk : l.length + 8 < k) : runes_Check.f k l = some (chk l) := by
  unfold runes_Check.f chk
  exact Check_l l h hl l.length k 0 (Int.le_refl _) (by omega) (by omega) hk
theorem chk_total (l : List Int) (h : ∀ x ∈ l, 0 ≤ x ∧ x < 256) (hs : l.length ≤ 1048576) : ∃ k r1 r2, runes_Check.f k l = some (r1, r2) :=
  ⟨l.length + 9, _, _, Check_f l h hs (by omega)⟩
end Go.Proofs.Ytogfaahdbecdnaa.B

/-
  Rows: how a slice that came in is read.
-/
namespace Go.Proofs.Ytogfaahdbecdnaa.B
open Go.RowKit Go.Proofs.YtogfaahdbecdnaaW.PrintWords Go.Proofs.YtogfaahdbecdnaaW.PrintLast Go.Proofs.YtogfaahdbecdnaaW.PrintMore
/-- A slice of whole numbers that came in. -/
def IsRow (k : IntKind) (w : World) (a : Option Addr) (len cap : Nat) (zs : List Int) : Prop :=
  (a = none ∧ len = 0 ∧ cap = 0 ∧ zs = []) ∨
  ∃ x, a = some x ∧ len ≤ cap ∧ cap ≤ maxLen ∧ zs.length = cap ∧ (∀ i, i < zs.length → w.cell? (x.add i) = some (.int k (zs.getD i 0))) ∧ ∀ n ∈ zs, (Lit.int k n).wf = true
theorem IsRow.reads {k : IntKind} {w : World} {a : Option Addr} {len cap : Nat} {zs : List Int} (h : IsRow k w a len cap zs) : ∃ l, l.length = len ∧ l.length ≤ cap ∧ Kd.C (Kd.int k) w a l.length l ∧ ∀ x ∈ l, (Lit.int k x).wf = true := by
  rcases h with ⟨rfl, rfl, rfl, rfl⟩ | ⟨x, rfl, hl, hm, hz, hc, hw⟩
  · exact ⟨[], rfl, Nat.le_refl _, Kd.C_nil _ _, fun x hx => by cases hx⟩
  · have hlen : (zs.take len).length = len := by rw [List.length_take]; omega
    unfold maxLen at hm
    refine ⟨zs.take len, hlen, by omega, Kd.C_of_reads (d := 0) ⟨rfl, by omega, fun _ => ⟨x, rfl, fun j hj => ?_⟩⟩, fun y hy => hw y (List.mem_of_mem_take hy)⟩
    rw [hc j (by omega)]
    have hj2 : j < len := by omega
    congr 2
    simp only [List.getD, List.getElem?_take, if_pos hj2]
theorem byte_wf {x : Int} (h : (Lit.int .u8 x).wf = true) : 0 ≤ x ∧ x < 256 := by
  have : 0 ≤ x ∧ x ≤ 255 := by simpa [Lit.wf, IntKind.min, IntKind.max, IntKind.signed, IntKind.bits] using h
  omega
theorem int_wf {x : Int} (h : (Lit.int .i64 x).wf = true) : -9223372036854775808 ≤ x ∧ x ≤ 9223372036854775807 := by
  simpa [Lit.wf, IntKind.min, IntKind.max, IntKind.signed, IntKind.bits] using h
end Go.Proofs.Ytogfaahdbecdnaa.B

/-
  LinesRise, walked.
-/
namespace Go.Proofs.Ytogfaahdbecdnaa.B
open Go.RowKit Go.Proofs.YtogfaahdbecdnaaW.PrintWords Go.Proofs.YtogfaahdbecdnaaW.PrintLast Go.Proofs.YtogfaahdbecdnaaW.PrintMore Go.Proofs.Ytogfaahdbecdnaa.FBase
set_option linter.unusedVariables false

theorem bring_f (i n : Int) (h0 : 0 < n) (h1 : n < 9223372036854775807) : colophonref00_Bring.f i n = some (i % n) := by
  unfold colophonref00_Bring.f
  rw [if_neg (by omega), if_neg (by omega)]
  have hb := Int.emod_nonneg i (show n ≠ 0 by omega)
  have hl := Int.emod_lt_of_pos i h0
  rcases Int.lt_or_le i 0 with hi | hi
  · by_cases hd : i % n = 0
    · have e : Int.tmod i n = 0 := Int.tmod_eq_zero_of_dvd (Int.dvd_of_emod_eq_zero hd)
      rw [e, if_neg (by omega), hd]
    · have e : Int.tmod i n = i % n - n := by
        rw [Int.tmod_eq_emod]
        rw [if_neg (fun h => h.elim (fun h => by omega) (fun h => hd (Int.emod_eq_zero_of_dvd h)))]
        omega
      rw [e, if_pos (by omega)]
      congr 1
      unfold wrap64
      omega
  · have e : Int.tmod i n = i % n := Int.tmod_eq_emod_of_nonneg hi
    rw [e, if_neg (by omega)]

theorem FindAt.mono {L : List Ln} {fr e pa pb : Int} {r s : Nat} (hc : Chain L fr e) (h : FindAt L pa r) (k : FindAt L pb s) (hp : pa ≤ pb) : r ≤ s ∧ (s : Int) - r ≤ pb - pa := by
  have h1 : r ≤ s := by
    refine Nat.le_of_not_lt (fun hlt => ?_)
    have h2 := h.2.1 s hlt
    have h3 := k.2.2 (by have := h.1; omega)
    omega
  refine ⟨h1, ?_⟩
  rcases Nat.eq_or_lt_of_le h1 with rfl | hlt
  · omega
  · have h2 := h.2.2 (by have := k.1; omega)
    have h3 := k.2.1 (s - 1) (by omega)
    have h4 := (hc.step r (s - 1 - r) (by have := k.1; omega)).1
    rw [show r + (s - 1 - r) = s - 1 by omega, if_neg (by have := k.1; omega)] at h4
    omega

set_option maxHeartbeats 2000000 in
theorem LinesRise_ok (k : Nat) (A : Option Addr) (c : Nat) (l : List Int) (r1 r2 : Int) (p q : Int) (w : World) (hr : Kd.C (Kd.int .u8) w A l.length l) (hc : l.length ≤ c) (h : runes_Check.f k l = some (r1, r2)) (hs : l.length ≤ 1048576) :
    Calls Try.prog 7 #[.slice A l.length c, .int .i64 p, .int .i64 q] w fun e w' => e = .returned (.bool true) ∧ Below w.heap.size w w' := by
  have HR := Aside0.mk hr
  have HC := Aside0.mk hc
  have H := Aside0.mk h
  clear hr hc h
  by_cases hz : r2 = 0
  · subst hz
    have hch := lns_chain0 l
    have hln : (lns l 0 0).length ≤ 2097152 := by have := hch.length_le; omega
    have HCH := Aside0.mk hch
    have b1 := Int.emod_nonneg p (show (l.length : Int) + 1 ≠ 0 by omega)
    have b2 := Int.emod_lt_of_pos p (show (0 : Int) < (l.length : Int) + 1 by omega)
    have b3 := Int.emod_nonneg q (show (l.length : Int) + 1 ≠ 0 by omega)
    have b4 := Int.emod_lt_of_pos q (show (0 : Int) < (l.length : Int) + 1 by omega)
    have BP := Aside0.mk (bring_f p (l.length + 1) (by omega) (by omega))
    have BQ := Aside0.mk (bring_f q (l.length + 1) (by omega) (by omega))
    generalize hp' : p % ((l.length : Int) + 1) = p' at *
    generalize hq' : q % ((l.length : Int) + 1) = q' at *
    clear hp' hq'
    rcases Int.lt_trichotomy p' q' with hpq | rfl | hpq
    · skip
      obtain ⟨ra, ha⟩ := hch.find p'
      obtain ⟨rb, hb⟩ := hch.find q'
      obtain ⟨hm1, hm2⟩ := FindAt.mono hch ha hb (by omega)
      have HA := Aside0.mk ha
      have HBb := Aside0.mk hb
      clear ha hb hch
      have ra2 : ra < 2097152 := Nat.lt_of_lt_of_le HA.out.1 hln
      have rb2 : rb < 2097152 := Nat.lt_of_lt_of_le HBb.out.1 hln
      have d1 : decide (ra ≤ rb) = true := decide_eq_true hm1
      have d2 : decide ((rb : Int) - ra ≤ q' - p') = true := decide_eq_true hm2
      have tok := True.intro
      have tok2 := True.intro
      go_enter Try.func7, Try.ntmps7
      go_wp2_with (first | (go_at_call 24; refine (works_ok _).mono ?_; rintro e w' ⟨rfl, hb⟩; have HB := Aside0.mk hb; clear hb) | (go_at_call 21; refine (New_ok k A c l r1 _ (by repeat (first | exact Kd.C_below HR.out HB.out | exact HR.out | (with_reducible refine Kd.C_alloc ?_ _) | (with_reducible refine Kd.C_drewN ?_ _) | (with_reducible refine Kd.C_drew ?_))) HC.out H.out hs).mono ?_; rintro e w1 ⟨a, rfl, hle, hI, hb⟩; have HI := Aside0.mk hI; have m_ := Aside0.mk (below_step HB.out hb); clear HB; have HB := m_; clear hI hb m_) | (have _t := tok; go_at_call 29; refine (colophonref00_Bring.calls p _ p' _ BP.out).mono ?_; rintro e w' ⟨rfl, nq, rfl⟩; clear tok _t) | (go_at_call 29; refine (colophonref00_Bring.calls q _ q' _ BQ.out).mono ?_; rintro e w' ⟨rfl, nq2, rfl⟩) | (have _t := tok2; go_at_call 31; refine (Find_is a _ 0 l.length p' ra _ (by repeat (first | exact HI.out | apply IsIdx.alloc | apply IsIdx.drewN)) HCH.out (by omega) (by omega) hln HA.out).mono ?_; rintro e w' ⟨rfl, hb⟩; have n0_ := Aside0.mk (IsIdx.below (by repeat (first | exact HI.out | apply IsIdx.alloc | apply IsIdx.drewN)) hb); have m_ := Aside0.mk (below_step (by repeat (first | exact HB.out | apply below_alloc | apply pw_below_drewN | apply below_drew1)) hb); clear HI HB ; have HI := n0_; have HB := m_; clear n0_ m_; clear tok2 _t) | (go_at_call 31; refine (Find_is a _ 0 l.length q' rb _ (by repeat (first | exact HI.out | apply IsIdx.alloc | apply IsIdx.drewN)) HCH.out (by omega) (by omega) hln HBb.out).mono ?_; rintro e w' ⟨rfl, hb⟩; have n0_ := Aside0.mk (IsIdx.below (by repeat (first | exact HI.out | apply IsIdx.alloc | apply IsIdx.drewN)) hb); have m_ := Aside0.mk (below_step (by repeat (first | exact HB.out | apply below_alloc | apply pw_below_drewN | apply below_drew1)) hb); clear HI HB ; have HI := n0_; have HB := m_; clear n0_ m_))
      go_ret
      exact ⟨rfl, (by repeat (first | exact HB.out | apply below_alloc | apply pw_below_drewN | apply below_drew1))⟩
    · skip
      obtain ⟨ra, ha⟩ := hch.find p'
      obtain ⟨rb, hb⟩ := hch.find p'
      obtain ⟨hm1, hm2⟩ := FindAt.mono hch ha hb (by omega)
      have HA := Aside0.mk ha
      have HBb := Aside0.mk hb
      clear ha hb hch
      have ra2 : ra < 2097152 := Nat.lt_of_lt_of_le HA.out.1 hln
      have rb2 : rb < 2097152 := Nat.lt_of_lt_of_le HBb.out.1 hln
      have d1 : decide (ra ≤ rb) = true := decide_eq_true hm1
      have d2 : decide ((rb : Int) - ra ≤ 0) = true := decide_eq_true (by omega)
      have tok := True.intro
      have tok2 := True.intro
      go_enter Try.func7, Try.ntmps7
      go_wp2_with (first | (go_at_call 24; refine (works_ok _).mono ?_; rintro e w' ⟨rfl, hb⟩; have HB := Aside0.mk hb; clear hb) | (go_at_call 21; refine (New_ok k A c l r1 _ (by repeat (first | exact Kd.C_below HR.out HB.out | exact HR.out | (with_reducible refine Kd.C_alloc ?_ _) | (with_reducible refine Kd.C_drewN ?_ _) | (with_reducible refine Kd.C_drew ?_))) HC.out H.out hs).mono ?_; rintro e w1 ⟨a, rfl, hle, hI, hb⟩; have HI := Aside0.mk hI; have m_ := Aside0.mk (below_step HB.out hb); clear HB; have HB := m_; clear hI hb m_) | (have _t := tok; go_at_call 29; refine (colophonref00_Bring.calls p _ p' _ BP.out).mono ?_; rintro e w' ⟨rfl, nq, rfl⟩; clear tok _t) | (go_at_call 29; refine (colophonref00_Bring.calls q _ p' _ BQ.out).mono ?_; rintro e w' ⟨rfl, nq2, rfl⟩) | (have _t := tok2; go_at_call 31; refine (Find_is a _ 0 l.length p' ra _ (by repeat (first | exact HI.out | apply IsIdx.alloc | apply IsIdx.drewN)) HCH.out (by omega) (by omega) hln HA.out).mono ?_; rintro e w' ⟨rfl, hb⟩; have n0_ := Aside0.mk (IsIdx.below (by repeat (first | exact HI.out | apply IsIdx.alloc | apply IsIdx.drewN)) hb); have m_ := Aside0.mk (below_step (by repeat (first | exact HB.out | apply below_alloc | apply pw_below_drewN | apply below_drew1)) hb); clear HI HB ; have HI := n0_; have HB := m_; clear n0_ m_; clear tok2 _t) | (go_at_call 31; refine (Find_is a _ 0 l.length p' rb _ (by repeat (first | exact HI.out | apply IsIdx.alloc | apply IsIdx.drewN)) HCH.out (by omega) (by omega) hln HBb.out).mono ?_; rintro e w' ⟨rfl, hb⟩; have n0_ := Aside0.mk (IsIdx.below (by repeat (first | exact HI.out | apply IsIdx.alloc | apply IsIdx.drewN)) hb); have m_ := Aside0.mk (below_step (by repeat (first | exact HB.out | apply below_alloc | apply pw_below_drewN | apply below_drew1)) hb); clear HI HB ; have HI := n0_; have HB := m_; clear n0_ m_))
      go_ret
      exact ⟨rfl, (by repeat (first | exact HB.out | apply below_alloc | apply pw_below_drewN | apply below_drew1))⟩
    · skip
      obtain ⟨ra, ha⟩ := hch.find q'
      obtain ⟨rb, hb⟩ := hch.find p'
      obtain ⟨hm1, hm2⟩ := FindAt.mono hch ha hb (by omega)
      have HA := Aside0.mk ha
      have HBb := Aside0.mk hb
      clear ha hb hch
      have ra2 : ra < 2097152 := Nat.lt_of_lt_of_le HA.out.1 hln
      have rb2 : rb < 2097152 := Nat.lt_of_lt_of_le HBb.out.1 hln
      have d1 : decide (ra ≤ rb) = true := decide_eq_true hm1
      have d2 : decide ((rb : Int) - ra ≤ p' - q') = true := decide_eq_true hm2
      have tok := True.intro
      have tok2 := True.intro
      go_enter Try.func7, Try.ntmps7
      go_wp2_with (first | (go_at_call 24; refine (works_ok _).mono ?_; rintro e w' ⟨rfl, hb⟩; have HB := Aside0.mk hb; clear hb) | (go_at_call 21; refine (New_ok k A c l r1 _ (by repeat (first | exact Kd.C_below HR.out HB.out | exact HR.out | (with_reducible refine Kd.C_alloc ?_ _) | (with_reducible refine Kd.C_drewN ?_ _) | (with_reducible refine Kd.C_drew ?_))) HC.out H.out hs).mono ?_; rintro e w1 ⟨a, rfl, hle, hI, hb⟩; have HI := Aside0.mk hI; have m_ := Aside0.mk (below_step HB.out hb); clear HB; have HB := m_; clear hI hb m_) | (have _t := tok; go_at_call 29; refine (colophonref00_Bring.calls p _ p' _ BP.out).mono ?_; rintro e w' ⟨rfl, nq, rfl⟩; clear tok _t) | (go_at_call 29; refine (colophonref00_Bring.calls q _ q' _ BQ.out).mono ?_; rintro e w' ⟨rfl, nq2, rfl⟩) | (have _t := tok2; go_at_call 31; refine (Find_is a _ 0 l.length q' ra _ (by repeat (first | exact HI.out | apply IsIdx.alloc | apply IsIdx.drewN)) HCH.out (by omega) (by omega) hln HA.out).mono ?_; rintro e w' ⟨rfl, hb⟩; have n0_ := Aside0.mk (IsIdx.below (by repeat (first | exact HI.out | apply IsIdx.alloc | apply IsIdx.drewN)) hb); have m_ := Aside0.mk (below_step (by repeat (first | exact HB.out | apply below_alloc | apply pw_below_drewN | apply below_drew1)) hb); clear HI HB ; have HI := n0_; have HB := m_; clear n0_ m_; clear tok2 _t) | (go_at_call 31; refine (Find_is a _ 0 l.length p' rb _ (by repeat (first | exact HI.out | apply IsIdx.alloc | apply IsIdx.drewN)) HCH.out (by omega) (by omega) hln HBb.out).mono ?_; rintro e w' ⟨rfl, hb⟩; have n0_ := Aside0.mk (IsIdx.below (by repeat (first | exact HI.out | apply IsIdx.alloc | apply IsIdx.drewN)) hb); have m_ := Aside0.mk (below_step (by repeat (first | exact HB.out | apply below_alloc | apply pw_below_drewN | apply below_drew1)) hb); clear HI HB ; have HI := n0_; have HB := m_; clear n0_ m_))
      go_ret
      exact ⟨rfl, (by repeat (first | exact HB.out | apply below_alloc | apply pw_below_drewN | apply below_drew1))⟩
  · have hz2 : (r2 != 0) = true := bne_iff_ne.mpr hz
    go_enter Try.func7, Try.ntmps7
    go_wp2_with (first | (go_at_call 24; refine (works_ok _).mono ?_; rintro e w' ⟨rfl, hb⟩; have HB := Aside0.mk hb; clear hb) | (go_at_call 21; refine (New_err k A c l r1 r2 _ (by repeat (first | exact Kd.C_below HR.out HB.out | exact HR.out | (with_reducible refine Kd.C_alloc ?_ _) | (with_reducible refine Kd.C_drewN ?_ _) | (with_reducible refine Kd.C_drew ?_))) HC.out H.out hz).mono ?_; rintro e w1 ⟨rfl, hb⟩; have m_ := Aside0.mk (below_step HB.out hb); clear HB; have HB := m_; clear hb m_))
    go_ret
    exact ⟨rfl, (by repeat (first | exact HB.out | apply below_alloc | apply pw_below_drewN | apply below_drew1))⟩

theorem LinesRise_row (A : Option Addr) (n c : Nat) (zs : List Int) (p q : Int) (W : World) (h : IsRow .u8 W A n c zs) (hb : c ≤ 1048576) (_hp : (Lit.int .i64 p).wf = true) (_hq : (Lit.int .i64 q).wf = true) :
    Calls Try.prog 7 #[.slice A n c, .int .i64 p, .int .i64 q] W fun e w' => e = .returned (.bool true) ∧ Below W.heap.size W w' := by
  obtain ⟨l, rfl, hc, hC, hw⟩ := h.reads
  obtain ⟨k, r1, r2, hk⟩ := chk_total l (fun x hx => byte_wf (hw x hx)) (by omega)
  exact LinesRise_ok k A c l r1 r2 p q W hC hc hk (by omega)
end Go.Proofs.Ytogfaahdbecdnaa.B

/-
  LinesFound, walked.
-/
namespace Go.Proofs.Ytogfaahdbecdnaa.B
open Go.RowKit Go.Proofs.YtogfaahdbecdnaaW.PrintWords Go.Proofs.YtogfaahdbecdnaaW.PrintLast Go.Proofs.YtogfaahdbecdnaaW.PrintMore Go.Proofs.Ytogfaahdbecdnaa.FBase
set_option linter.unusedVariables false

set_option maxHeartbeats 2000000 in
theorem LinesFound_ok (k : Nat) (A : Option Addr) (c : Nat) (l : List Int) (r1 r2 : Int) (p : Int) (w : World) (hr : Kd.C (Kd.int .u8) w A l.length l) (hc : l.length ≤ c) (h : runes_Check.f k l = some (r1, r2)) (hs : l.length ≤ 1048576) :
    Calls Try.prog 6 #[.slice A l.length c, .int .i64 p] w fun e w' => e = .returned (.bool true) ∧ Below w.heap.size w w' := by
  have HR := Aside0.mk hr
  have HC := Aside0.mk hc
  have H := Aside0.mk h
  clear hr hc h
  by_cases hz : r2 = 0
  · subst hz
    have hch := lns_chain0 l
    have hln : (lns l 0 0).length ≤ 2097152 := by have := hch.length_le; omega
    have hpos := hch.pos
    obtain ⟨L, hL⟩ : ∃ L, lns l 0 0 = L := ⟨_, rfl⟩
    have HLE := Aside0.mk hL
    rw [hL] at hch hln hpos
    clear hL
    have HCH := Aside0.mk hch
    have b1 := Int.emod_nonneg p (show (L.length : Int) ≠ 0 by omega)
    have b2 := Int.emod_lt_of_pos p (show (0 : Int) < (L.length : Int) by omega)
    have bp := bring_f p L.length (by omega) (by omega)
    obtain ⟨n, hn⟩ : ∃ n : Nat, p % (L.length : Int) = n := ⟨_, (Int.toNat_of_nonneg b1).symm⟩
    rw [hn] at bp b1 b2
    have hnl : n < L.length := by omega
    have BP := Aside0.mk bp
    have hat := hch.at n hnl
    have HIN := Aside0.mk (hch.inside n hnl)
    have HE := Aside0.mk hch.atEnd
    clear hn bp hch
    have a1 : 0 ≤ (rdLn L n).f0 := by omega
    have a2 : (rdLn L n).f0 ≤ (rdLn L n).f2 := by omega
    have a3 : (rdLn L n).f2 ≤ l.length := by omega
    clear hat
    obtain ⟨z, hz⟩ : ∃ z, L.length - 1 = z := ⟨_, rfl⟩
    rw [hz] at HE
    have hz1 : wrap64 ((L.length : Int) - 1) = (z : Int) := by unfold wrap64; omega
    have hz2 : ((z : Int) == (L.length : Int) - 1) = true := beq_iff_eq.mpr (by omega)
    have hz3 : (L.length : Int) - 1 = z := by omega
    go_enter Try.func6, Try.ntmps6
    go_wp2_with (first | (go_at_call 24; refine (works_ok _).mono ?_; rintro e w' ⟨rfl, hb⟩; have HB := Aside0.mk hb; clear hb) | (go_at_call 21; refine (New_ok k A c l r1 _ (by repeat (first | exact Kd.C_below HR.out HB.out | exact HR.out | (with_reducible refine Kd.C_alloc ?_ _) | (with_reducible refine Kd.C_drewN ?_ _) | (with_reducible refine Kd.C_drew ?_))) HC.out H.out hs).mono ?_; rintro e w1 ⟨a, rfl, hle, hI, hb⟩; rw [HLE.out] at hI; have HI := Aside0.mk hI; have m_ := Aside0.mk (below_step HB.out hb); clear HB; have HB := m_; clear hI hb m_) | (go_at_call 26; refine (Count_ok a _ _ (by repeat (first | exact HI.out | apply IsIdx.alloc | apply IsIdx.drewN)) HCH.out.pos hln).mono ?_; rintro e w' ⟨rfl, hb⟩; have n0_ := Aside0.mk (IsIdx.below (by repeat (first | exact HI.out | apply IsIdx.alloc | apply IsIdx.drewN)) hb); have m_ := Aside0.mk (below_step (by repeat (first | exact HB.out | apply below_alloc | apply pw_below_drewN | apply below_drew1)) hb); clear HI HB ; have HI := n0_; have HB := m_; clear n0_ m_) | (go_at_call 29; refine (colophonref00_Bring.calls p _ (n : Int) _ BP.out).mono ?_; rintro e w' ⟨rfl, nq, rfl⟩) | (go_at_call 27; refine (Line_ok a _ n _ (by repeat (first | exact HI.out | apply IsIdx.alloc | apply IsIdx.drewN)) (by omega) (by omega) hln).mono ?_; rintro e w' ⟨rfl, hb⟩; have n0_ := Aside0.mk (IsIdx.below (by repeat (first | exact HI.out | apply IsIdx.alloc | apply IsIdx.drewN)) hb); have m_ := Aside0.mk (below_step (by repeat (first | exact HB.out | apply below_alloc | apply pw_below_drewN | apply below_drew1)) hb); clear HI HB ; have HI := n0_; have HB := m_; clear n0_ m_))
    obtain ⟨g, hg⟩ : ∃ g, w'.heap.size = g := ⟨_, rfl⟩
    have hI0 := (HI.out.alloc (.cells #[.int .i64 (rdLn L n).f0, .int .i64 (rdLn L n).f2] 35)).alloc (.cells #[.int .i64 (rdLn L n).f0, .int .i64 (rdLn L n).f1] 35)
    have hB0 := below_alloc (below_alloc HB.out (.cells #[.int .i64 (rdLn L n).f0, .int .i64 (rdLn L n).f2] 35)) (.cells #[.int .i64 (rdLn L n).f0, .int .i64 (rdLn L n).f1] 35)
    have hc1 := (two_blk w' (.cells #[.int .i64 (rdLn L n).f0, .int .i64 (rdLn L n).f2] 35) (.cells #[.int .i64 (rdLn L n).f0, .int .i64 (rdLn L n).f1] 35) 1).1.trans ((blk_cell (blk_new w' _) 1).trans (show _ = some (.int .i64 (rdLn L n).f2) from rfl))
    rw [hg] at hc1 ⊢
    clear hg HI HB hb
    generalize (rdLn L n).f0 = x0 at *
    generalize (rdLn L n).f1 = x1 at *
    generalize (rdLn L n).f2 = x2 at *
    generalize ((w'.alloc (.cells #[.int .i64 x0, .int .i64 x2] 35)).alloc (.cells #[.int .i64 x0, .int .i64 x1] 35)) = W0 at hI0 hB0 hc1 ⊢
    have HI := Aside0.mk hI0
    have HB := Aside0.mk hB0
    have HC1 : Aside0 (W0.cell? ⟨g, 1, none⟩ = some (.int .i64 x2)) := ⟨hc1⟩
    clear hI0 hB0 hc1
    go_loopw [10] (fun s10 W => ∃ i : Int, s10 = .int .i64 i ∧ x0 ≤ i ∧ i ≤ x2 ∧ Aside0 (IsIdx W a L) ∧ Aside0 (Below w.heap.size w W) ∧ Aside0 (W.cell? ⟨g, 1, none⟩ = some (.int .i64 x2))) (fun s10 _ => x2.toNat - (intOf s10).toNat)
    case atStart => exact ⟨x0, rfl, Int.le_refl _, a2, HI, HB, HC1⟩
    case round =>
      clear HI HB HC1
      obtain ⟨i, rfl, hi0, hi1, HI, HB, HC1⟩ := hrel
      have hc1 := HC1.out
      by_cases hlt : i < x2
      · have HF := Aside0.mk (HIN.out i hi0 hlt)
        go_wp2_with (go_at_call 31; refine (Find_is a _ 0 l.length i n _ (by repeat (first | exact HI.out | apply IsIdx.alloc | apply IsIdx.drewN)) HCH.out (by omega) (by omega) hln HF.out).mono ?_; rintro e w' ⟨rfl, hb⟩; have n0_ := Aside0.mk (IsIdx.below (by repeat (first | exact HI.out | apply IsIdx.alloc | apply IsIdx.drewN)) hb); have n1_ := Aside0.mk (cell_below (by repeat (first | exact HC1.out | apply cell_alloc1 | apply cell_drewN1)) hb); have m_ := Aside0.mk (below_step (by repeat (first | exact HB.out | apply below_alloc | apply pw_below_drewN | apply below_drew1)) hb); clear HI HC1 HB hc1; have HI := n0_; have HC1 := n1_; have HB := m_; clear n0_ n1_ m_)
        go_roundw
        case measure => simp [intOf]; omega
        case rel => exact ⟨i + 1, rfl, by omega, by omega, HI, HB, HC1⟩
      · have t2 := True.intro
        go_wp2_with (first | (have _t := t2; go_at_call 31; refine (Find_is a _ 0 l.length l.length z _ (by repeat (first | exact HI.out | apply IsIdx.alloc | apply IsIdx.drewN)) HCH.out (by omega) (by omega) hln HE.out).mono ?_; rintro e w' ⟨rfl, hb⟩; have n0_ := Aside0.mk (IsIdx.below (by repeat (first | exact HI.out | apply IsIdx.alloc | apply IsIdx.drewN)) hb); have m_ := Aside0.mk (below_step (by repeat (first | exact HB.out | apply below_alloc | apply pw_below_drewN | apply below_drew1)) hb); clear HI HB ; have HI := n0_; have HB := m_; clear n0_ m_; clear t2 _t) | (go_at_call 31; refine (Find_no a _ 0 l.length (l.length + 1) _ (by repeat (first | exact HI.out | apply IsIdx.alloc | apply IsIdx.drewN)) HCH.out (.inr (by omega)) hln).mono ?_; rintro e w' ⟨rfl, hb⟩; have n0_ := Aside0.mk (IsIdx.below (by repeat (first | exact HI.out | apply IsIdx.alloc | apply IsIdx.drewN)) hb); have m_ := Aside0.mk (below_step (by repeat (first | exact HB.out | apply below_alloc | apply pw_below_drewN | apply below_drew1)) hb); clear HI HB ; have HI := n0_; have HB := m_; clear n0_ m_) | (go_at_call 26; refine (Count_ok a _ _ (by repeat (first | exact HI.out | apply IsIdx.alloc | apply IsIdx.drewN)) HCH.out.pos hln).mono ?_; rintro e w' ⟨rfl, hb⟩; have n0_ := Aside0.mk (IsIdx.below (by repeat (first | exact HI.out | apply IsIdx.alloc | apply IsIdx.drewN)) hb); have m_ := Aside0.mk (below_step (by repeat (first | exact HB.out | apply below_alloc | apply pw_below_drewN | apply below_drew1)) hb); clear HI HB ; have HI := n0_; have HB := m_; clear n0_ m_))
        go_ret
        exact ⟨rfl, (by repeat (first | exact HB.out | apply below_alloc | apply pw_below_drewN | apply below_drew1))⟩
  · have hz2 : (r2 != 0) = true := bne_iff_ne.mpr hz
    go_enter Try.func6, Try.ntmps6
    go_wp2_with (first | (go_at_call 24; refine (works_ok _).mono ?_; rintro e w' ⟨rfl, hb⟩; have HB := Aside0.mk hb; clear hb) | (go_at_call 21; refine (New_err k A c l r1 r2 _ (by repeat (first | exact Kd.C_below HR.out HB.out | exact HR.out | (with_reducible refine Kd.C_alloc ?_ _) | (with_reducible refine Kd.C_drewN ?_ _) | (with_reducible refine Kd.C_drew ?_))) HC.out H.out hz).mono ?_; rintro e w1 ⟨rfl, hb⟩; have m_ := Aside0.mk (below_step HB.out hb); clear HB; have HB := m_; clear hb m_))
    go_ret
    exact ⟨rfl, (by repeat (first | exact HB.out | apply below_alloc | apply pw_below_drewN | apply below_drew1))⟩

theorem LinesFound_row (A : Option Addr) (n c : Nat) (zs : List Int) (p : Int) (W : World) (h : IsRow .u8 W A n c zs) (hb : c ≤ 1048576) (_hp : (Lit.int .i64 p).wf = true) :
    Calls Try.prog 6 #[.slice A n c, .int .i64 p] W fun e w' => e = .returned (.bool true) ∧ Below W.heap.size W w' := by
  obtain ⟨l, rfl, hc, hC, hw⟩ := h.reads
  obtain ⟨k, r1, r2, hk⟩ := chk_total l (fun x hx => byte_wf (hw x hx)) (by omega)
  exact LinesFound_ok k A c l r1 r2 p W hC hc hk (by omega)
end Go.Proofs.Ytogfaahdbecdnaa.B
