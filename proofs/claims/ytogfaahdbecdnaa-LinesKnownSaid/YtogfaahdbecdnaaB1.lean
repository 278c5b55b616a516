/-
  lines.New: walked. What it makes of bytes that are a text is 'lns', a plain function.
-/
import Derived.Test.YtogfaahdbecdnaaB0
namespace Go.Proofs.Ytogfaahdbecdnaa.B
open Go.RowKit Go.Proofs.YtogfaahdbecdnaaW.PrintWords Go.Proofs.YtogfaahdbecdnaaW.PrintLast Go.Proofs.YtogfaahdbecdnaaW.PrintMore Go.Proofs.Ytogfaahdbecdnaa.FBase
set_option linter.unusedVariables false

/-- The lines of l from its place i on, the first of which begins at fr. -/
def lns : List Int → Int → Int → List Ln
  | [], fr, i => [⟨fr, i, i⟩]
  | b :: r, fr, i =>
    if b = 10 then ⟨fr, i, i + 1⟩ :: lns r (i + 1) (i + 1)
    else if b = 13 then
      if r.head? = some 10 then ⟨fr, i, i + 2⟩ :: lns r.tail (i + 2) (i + 2) else ⟨fr, i, i + 1⟩ :: lns r (i + 1) (i + 1)
    else lns r fr (i + 1)
termination_by l => l.length
decreasing_by all_goals (simp; try omega)

theorem lns_drop (l : List Int) (fr i : Int) (h0 : 0 ≤ i) (h1 : i < l.length) : lns (l.drop i.toNat) fr i =
    if rd l i = 10 then ⟨fr, i, i + 1⟩ :: lns (l.drop (i + 1).toNat) (i + 1) (i + 1)
    else if rd l i = 13 then
      if i + 1 < l.length ∧ rd l (i + 1) = 10 then ⟨fr, i, i + 2⟩ :: lns (l.drop (i + 2).toNat) (i + 2) (i + 2) else ⟨fr, i, i + 1⟩ :: lns (l.drop (i + 1).toNat) (i + 1) (i + 1)
    else lns (l.drop (i + 1).toNat) fr (i + 1) := by
  obtain ⟨n, rfl⟩ := Int.eq_ofNat_of_zero_le h0
  have hn : n < l.length := by omega
  have e1 : ((n : Int) + 1).toNat = n + 1 := by omega
  have e2 : ((n : Int) + 2).toNat = n + 2 := by omega
  rw [e1, e2, Int.toNat_natCast, List.drop_eq_getElem_cons hn, lns]
  have hr : rd l (n : Int) = l[n] := by simp [rd, List.getD, hn]
  rw [hr, List.tail_drop]
  have hh : (l.drop (n + 1)).head? = some 10 ↔ ((n : Int) + 1 < l.length ∧ rd l ((n : Int) + 1) = 10) := by
    rw [List.head?_drop]
    constructor
    · intro h
      obtain ⟨h2, h3⟩ := List.getElem?_eq_some_iff.1 h
      exact ⟨by omega, by simp [rd, List.getD, e1, h2, h3]⟩
    · rintro ⟨h2, h3⟩
      have h4 : n + 1 < l.length := by omega
      rw [List.getElem?_eq_getElem h4]
      simp [rd, List.getD, e1, h4] at h3
      rw [h3]
  simp only [hh]

set_option maxHeartbeats 1000000 in
set_option maxRecDepth 100000 in
/-- What is no text. -/
theorem New_err (k : Nat) (A : Option Addr) (c : Nat) (l : List Int) (r1 r2 : Int) (w : World) (hr : Kd.C (Kd.int .u8) w A l.length l) (hc : l.length ≤ c) (h : runes_Check.f k l = some (r1, r2)) (hne : r2 ≠ 0) :
    Calls Try.prog 21 #[.slice A l.length c] w fun e w' => e = .returned (.tuple #[.pointer none, .int .i64 r2]) ∧ Below w.heap.size w w' := by
  have HR := Aside0.mk hr
  have HC := Aside0.mk hc
  have H := Aside0.mk h
  have hz : (r2 != 0) = true := bne_iff_ne.mpr hne
  clear hr hc h hne
  go_enter Try.func21, Try.ntmps21
  go_wp2_with (go_at_call 55; refine (runes_Check.calls k _ _ l r1 r2 _ HR.out HC.out H.out).mono ?_; rintro e w' ⟨rfl, n, rfl⟩)
  go_ret2
  exact ⟨rfl, by repeat (first | exact Below.refl _ _ | apply below_alloc | apply pw_below_drewN | apply below_drew1)⟩

/-- What is held at the head of the loop: the lines so far, and what is still to come. -/
structure Made (w W : World) (g : Nat) (l : List Int) (fr i : Int) : Prop where
  bel : Below w.heap.size w W
  new : w.heap.size ≤ g
  own : ∃ A c acc, W.heap[g]? = some (.cells #[.slice A acc.length c] 56 (0, 0)) ∧ Kd.R kLn 90 W w.heap.size (fun k => some k ≠ some g) (.slice A acc.length c) acc ∧ acc ++ lns (l.drop i.toNat) fr i = lns l 0 0 ∧ (acc.length : Int) ≤ i

theorem acc_step (acc r : List Ln) (x : Ln) (t : List Ln) (h : acc ++ (x :: r) = t) : (acc ++ [x]) ++ r = t := by simpa using h

/-- Behind an append to the index's row and the store of what it gave. -/
theorem Made.after {w w1 : World} {g : Nat} {l : List Int} {fr' i' : Int} {A2 : Option Addr} {c2 : Nat} {acc : List Ln} {x : Ln} {cs : Array Value}
    (hnew : w.heap.size ≤ g) (hb : Below w.heap.size w w1) (hblk : w1.heap[g]? = some (.cells cs 56 (0, 0))) (hcs : cs.size = 1)
    (ho : Kd.R kLn 90 w1 w.heap.size (fun k => some k ≠ some g) (.slice A2 (acc ++ [x]).length c2) (acc ++ [x])) (hl : (acc ++ [x]) ++ lns (l.drop i'.toNat) fr' i' = lns l 0 0) (ha : (acc.length : Int) + 1 ≤ i') :
    Made w (w1.setCell ⟨g, 0, none⟩ (.slice A2 (acc.length + 1) c2)) g l fr' i' := by
  rw [show acc.length + 1 = (acc ++ [x]).length by simp]
  refine ⟨hb.setCell hnew _, hnew, A2, c2, acc ++ [x], ?_, Kd.R_far (p := ⟨g, 0, none⟩) ho (fun k hk e => hk (by rw [e])) _, hl, by simp; omega⟩
  rw [blk_set hblk]
  congr 2
  obtain ⟨a, rfl⟩ : ∃ a, cs = #[a] := by
    match cs, hcs with
    | ⟨[a]⟩, _ => exact ⟨a, rfl⟩
  rfl

set_option maxHeartbeats 4000000 in
set_option maxRecDepth 100000 in
/-- What is a text. -/
theorem New_ok (k : Nat) (A : Option Addr) (c : Nat) (l : List Int) (r1 : Int) (w : World) (hr : Kd.C (Kd.int .u8) w A l.length l) (hc : l.length ≤ c) (h : runes_Check.f k l = some (r1, 0)) (hs : l.length ≤ 1048576) :
    Calls Try.prog 21 #[.slice A l.length c] w fun e w' => ∃ a, e = .returned (.tuple #[.pointer (some ⟨a, 0, none⟩), .int .i64 0]) ∧ w.heap.size ≤ a ∧ IsIdx w' a (lns l 0 0) ∧ Below w.heap.size w w' := by
  have HR := Aside0.mk hr
  have HC := Aside0.mk hc
  have H := Aside0.mk h
  clear hr hc h
  go_enter Try.func21, Try.ntmps21
  go_wp2_with (go_at_call 55; refine (runes_Check.calls k _ _ l r1 0 _ HR.out HC.out H.out).mono ?_; rintro e w' ⟨rfl, n, rfl⟩)
  have M0 : Made w ((w.drewN n).alloc (Obj.cells #[Value.slice none 0 0] 56)) w.heap.size l 0 0 :=
    ⟨below_alloc (pw_below_drewN (Below.refl _ _) _) _, Nat.le_refl _, none, 0, [], blk_new (w.drewN n) _, Kd.R_nil _ _ _ _ _, by simp, by simp⟩
  have HM := Aside0.mk M0
  clear M0 H
  obtain ⟨g, hg0⟩ : ∃ g, w.heap.size = g := ⟨_, rfl⟩
  have HG := Aside0.mk hg0
  rw [hg0] at HM ⊢
  clear hg0
  generalize ((w.drewN n).alloc (Obj.cells #[Value.slice none 0 0] 56)) = W0 at HM ⊢
  go_loopw [7, 8] (fun s7 s8 W => ∃ fr i : Int, s7 = .int .i64 fr ∧ s8 = .int .i64 i ∧ 0 ≤ i ∧ i ≤ l.length ∧ Aside0 (Made w W g l fr i)) (fun _ s8 _ => l.length - (intOf s8).toNat)
  case atStart => exact ⟨0, 0, rfl, rfl, by omega, by omega, HM⟩
  case round =>
    clear HM
    obtain ⟨fr, i, rfl, rfl, hi0, hi1, HM⟩ := hrel
    obtain ⟨hbel, hnew, A1, c1, acc, hb, HO, hl, ha⟩ := HM.out
    clear HM
    have HO := Aside0.mk HO
    have HBL := Aside0.mk hb
    have Ha := Aside0.mk ha
    have hc1 : wr.cell? ⟨g, 0, none⟩ = some (.slice A1 acc.length c1) := (blk_cell hb 0).trans rfl
    clear ha hb
    by_cases hlt : i < (l.length : Int)
    · obtain ⟨ad, e, hx⟩ := Kd.at_int HR.out i hi0 hlt
      cases e
      have hxi := (hbel.cell (World.block_lt_of_cell? w _ hx)).trans hx
      have HB := Aside0.mk hbel
      clear hbel hx
      rw [lns_drop l fr i hi0 hlt] at hl
      by_cases h10 : rd l i = 10
      · rw [if_pos h10] at hl
        have Hl := Aside0.mk (acc_step _ _ _ _ hl)
        clear hl
        rw [h10] at hxi
        go_wp2_with (at_builtin; refine Kd.R_append kLn (w0 := w) w.heap.size rfl (.tmp 67) (.tmp 73) 54 90 (.agg #[.int .i64 0, .int .i64 0, .int .i64 0]) 24 rfl Try.underlying54 infoLn rfl (by decide) (by omega) (.slice A1 acc.length c1) acc ⟨fr, i, i + 1⟩ [.int .i64 fr, .int .i64 (i), .int .i64 (i + 1)] (fun k => some k ≠ some g) (fun _ => False) rfl rfl (kLn_mkM _ _ _ ⟨fr, i, i + 1⟩) (fun _ h => h.elim) ?aF ?aO ?aB ?aS ?aL ?_; (case aF => intro k hk e; have := blk_lt HBL.out; injection e with e; first | omega | (simp at hk; omega)); (case aO => (with_reducible repeat (first | apply Kd.R_alloc | apply Kd.R_drewN | apply Kd.R_drew)); exact HO.out); (case aB => repeat (first | exact HB.out | apply pw_below_drewN | apply below_drew1)); (case aS => exact HB.out.size); (case aL => have := Ha.out; omega); intro v1 w1 ho hb hg hat; obtain ⟨A2, c2, rfl⟩ := Kd.R_slice ho; have hbl1 := blk_grown HBL.out hg (fun e => HO.out.1 g e.symm rfl); have hc2 : w1.cell? ⟨g, 0, none⟩ = some (.slice A1 acc.length c1) := (blk_cell hbl1 0).trans rfl; have hf2 := blk_frozen hbl1 0; have HO2 := Aside0.mk ho; have HB2 := Aside0.mk hb; have HBL2 := Aside0.mk hbl1; clear ho hb hg hat hbl1)
        go_roundw
        case measure => simp [intOf]; omega
        case rel => exact ⟨i + 1, i + 1, rfl, rfl, by omega, by omega, ⟨Made.after hnew HB2.out HBL2.out rfl HO2.out Hl.out (by have := Ha.out; omega)⟩⟩
      · rw [if_neg h10] at hl
        have b10 : (rd l i != 10) = true := bne_iff_ne.mpr h10
        by_cases h13 : rd l i = 13
        · rw [if_pos h13] at hl
          clear b10
          rw [h13] at hxi
          by_cases h2 : i + 1 < (l.length : Int)
          · obtain ⟨ad2, e2, hx2⟩ := Kd.at_int HR.out (i + 1) (by omega) h2
            cases e2
            have hxj := (HB.out.cell (World.block_lt_of_cell? w _ hx2)).trans hx2
            clear hx2
            have p2 : 0 ≤ i + 1 := by omega
            by_cases h3 : rd l (i + 1) = 10
            · rw [if_pos ⟨h2, h3⟩] at hl
              have Hl := Aside0.mk (acc_step _ _ _ _ hl)
              clear hl
              rw [h3] at hxj
              go_wp2_with (at_builtin; refine Kd.R_append kLn (w0 := w) w.heap.size rfl (.tmp 67) (.tmp 73) 54 90 (.agg #[.int .i64 0, .int .i64 0, .int .i64 0]) 24 rfl Try.underlying54 infoLn rfl (by decide) (by omega) (.slice A1 acc.length c1) acc ⟨fr, i, i + 1 + 1⟩ [.int .i64 fr, .int .i64 (i), .int .i64 (i + 1 + 1)] (fun k => some k ≠ some g) (fun _ => False) rfl rfl (kLn_mkM _ _ _ ⟨fr, i, i + 1 + 1⟩) (fun _ h => h.elim) ?aF ?aO ?aB ?aS ?aL ?_; (case aF => intro k hk e; have := blk_lt HBL.out; injection e with e; first | omega | (simp at hk; omega)); (case aO => (with_reducible repeat (first | apply Kd.R_alloc | apply Kd.R_drewN | apply Kd.R_drew)); exact HO.out); (case aB => repeat (first | exact HB.out | apply pw_below_drewN | apply below_drew1)); (case aS => exact HB.out.size); (case aL => have := Ha.out; omega); intro v1 w1 ho hb hg hat; obtain ⟨A2, c2, rfl⟩ := Kd.R_slice ho; have hbl1 := blk_grown HBL.out hg (fun e => HO.out.1 g e.symm rfl); have hc2 : w1.cell? ⟨g, 0, none⟩ = some (.slice A1 acc.length c1) := (blk_cell hbl1 0).trans rfl; have hf2 := blk_frozen hbl1 0; have HO2 := Aside0.mk ho; have HB2 := Aside0.mk hb; have HBL2 := Aside0.mk hbl1; clear ho hb hg hat hbl1)
              go_roundw
              case measure => simp [intOf]; omega
              case rel => exact ⟨i + 1 + 1, i + 1 + 1, rfl, rfl, by omega, by omega, ⟨Made.after hnew HB2.out HBL2.out rfl HO2.out (by rw [show i + 1 + 1 = i + 2 by omega]; exact Hl.out) (by have := Ha.out; omega)⟩⟩
            · rw [if_neg (fun h => h3 h.2)] at hl
              have Hl := Aside0.mk (acc_step _ _ _ _ hl)
              have b3 : (rd l (i + 1) == 10) = false := beq_eq_false_iff_ne.mpr h3
              clear hl
              go_wp2_with (at_builtin; refine Kd.R_append kLn (w0 := w) w.heap.size rfl (.tmp 67) (.tmp 73) 54 90 (.agg #[.int .i64 0, .int .i64 0, .int .i64 0]) 24 rfl Try.underlying54 infoLn rfl (by decide) (by omega) (.slice A1 acc.length c1) acc ⟨fr, i, i + 1⟩ [.int .i64 fr, .int .i64 (i), .int .i64 (i + 1)] (fun k => some k ≠ some g) (fun _ => False) rfl rfl (kLn_mkM _ _ _ ⟨fr, i, i + 1⟩) (fun _ h => h.elim) ?aF ?aO ?aB ?aS ?aL ?_; (case aF => intro k hk e; have := blk_lt HBL.out; injection e with e; first | omega | (simp at hk; omega)); (case aO => (with_reducible repeat (first | apply Kd.R_alloc | apply Kd.R_drewN | apply Kd.R_drew)); exact HO.out); (case aB => repeat (first | exact HB.out | apply pw_below_drewN | apply below_drew1)); (case aS => exact HB.out.size); (case aL => have := Ha.out; omega); intro v1 w1 ho hb hg hat; obtain ⟨A2, c2, rfl⟩ := Kd.R_slice ho; have hbl1 := blk_grown HBL.out hg (fun e => HO.out.1 g e.symm rfl); have hc2 : w1.cell? ⟨g, 0, none⟩ = some (.slice A1 acc.length c1) := (blk_cell hbl1 0).trans rfl; have hf2 := blk_frozen hbl1 0; have HO2 := Aside0.mk ho; have HB2 := Aside0.mk hb; have HBL2 := Aside0.mk hbl1; clear ho hb hg hat hbl1)
              go_roundw
              case measure => simp [intOf]; omega
              case rel => exact ⟨i + 1, i + 1, rfl, rfl, by omega, by omega, ⟨Made.after hnew HB2.out HBL2.out rfl HO2.out Hl.out (by have := Ha.out; omega)⟩⟩
          · rw [if_neg (fun h => h2 h.1)] at hl
            have Hl := Aside0.mk (acc_step _ _ _ _ hl)
            clear hl
            go_wp2_with (at_builtin; refine Kd.R_append kLn (w0 := w) w.heap.size rfl (.tmp 67) (.tmp 73) 54 90 (.agg #[.int .i64 0, .int .i64 0, .int .i64 0]) 24 rfl Try.underlying54 infoLn rfl (by decide) (by omega) (.slice A1 acc.length c1) acc ⟨fr, i, i + 1⟩ [.int .i64 fr, .int .i64 (i), .int .i64 (i + 1)] (fun k => some k ≠ some g) (fun _ => False) rfl rfl (kLn_mkM _ _ _ ⟨fr, i, i + 1⟩) (fun _ h => h.elim) ?aF ?aO ?aB ?aS ?aL ?_; (case aF => intro k hk e; have := blk_lt HBL.out; injection e with e; first | omega | (simp at hk; omega)); (case aO => (with_reducible repeat (first | apply Kd.R_alloc | apply Kd.R_drewN | apply Kd.R_drew)); exact HO.out); (case aB => repeat (first | exact HB.out | apply pw_below_drewN | apply below_drew1)); (case aS => exact HB.out.size); (case aL => have := Ha.out; omega); intro v1 w1 ho hb hg hat; obtain ⟨A2, c2, rfl⟩ := Kd.R_slice ho; have hbl1 := blk_grown HBL.out hg (fun e => HO.out.1 g e.symm rfl); have hc2 : w1.cell? ⟨g, 0, none⟩ = some (.slice A1 acc.length c1) := (blk_cell hbl1 0).trans rfl; have hf2 := blk_frozen hbl1 0; have HO2 := Aside0.mk ho; have HB2 := Aside0.mk hb; have HBL2 := Aside0.mk hbl1; clear ho hb hg hat hbl1)
            go_roundw
            case measure => simp [intOf]; omega
            case rel => exact ⟨i + 1, i + 1, rfl, rfl, by omega, by omega, ⟨Made.after hnew HB2.out HBL2.out rfl HO2.out Hl.out (by have := Ha.out; omega)⟩⟩
        · rw [if_neg h13] at hl
          have Hl := Aside0.mk hl
          have b13 : (rd l i != 13) = true := bne_iff_ne.mpr h13
          clear hl
          go_wp2
          go_roundw
          case measure => simp [intOf]; omega
          case rel => exact ⟨fr, i + 1, rfl, rfl, by omega, by omega, ⟨HB.out, hnew, A1, c1, acc, HBL.out, HO.out, Hl.out, by have := Ha.out; omega⟩⟩
    · obtain rfl : i = l.length := by omega
      have hl2 : acc ++ [⟨fr, (l.length : Int), (l.length : Int)⟩] = lns l 0 0 := by rw [← hl]; simp [lns]
      have Hl := Aside0.mk hl2
      have HB := Aside0.mk hbel
      clear hl hl2 hbel
      go_wp2_with (at_builtin; refine Kd.R_append kLn (w0 := w) w.heap.size rfl (.tmp 83) (.tmp 90) 54 90 (.agg #[.int .i64 0, .int .i64 0, .int .i64 0]) 24 rfl Try.underlying54 infoLn rfl (by decide) (by omega) (.slice A1 acc.length c1) acc ⟨fr, (l.length : Int), (l.length : Int)⟩ [.int .i64 fr, .int .i64 ((l.length : Int)), .int .i64 ((l.length : Int))] (fun k => some k ≠ some g) (fun _ => False) rfl rfl (kLn_mkM _ _ _ ⟨fr, (l.length : Int), (l.length : Int)⟩) (fun _ h => h.elim) ?aF ?aO ?aB ?aS ?aL ?_; (case aF => intro k hk e; have := blk_lt HBL.out; injection e with e; first | omega | (simp at hk; omega)); (case aO => (with_reducible repeat (first | apply Kd.R_alloc | apply Kd.R_drewN | apply Kd.R_drew)); exact HO.out); (case aB => repeat (first | exact HB.out | apply pw_below_drewN | apply below_drew1)); (case aS => exact HB.out.size); (case aL => have := Ha.out; omega); intro v1 w1 ho hb hg hat; obtain ⟨A2, c2, rfl⟩ := Kd.R_slice ho; have hbl1 := blk_grown HBL.out hg (fun e => HO.out.1 g e.symm rfl); have hc2 : w1.cell? ⟨g, 0, none⟩ = some (.slice A1 acc.length c1) := (blk_cell hbl1 0).trans rfl; have hf2 := blk_frozen hbl1 0; have HO2 := Aside0.mk ho; have HB2 := Aside0.mk hb; have HBL2 := Aside0.mk hbl1; clear ho hb hg hat hbl1)
      go_ret2
      have hR := Kd.R_far (p := ⟨g, 0, none⟩) HO2.out (fun k hk e => hk (by rw [e])) (.slice A2 (acc.length + 1) c2)
      obtain ⟨_, hcap, hC⟩ := Kd.R_reads' hR
      refine ⟨g, rfl, hnew, ?_, HB2.out.setCell hnew _⟩
      rw [← Hl.out]
      refine ⟨A2, c2, ?_, hcap, hC⟩
      rw [show (acc ++ [(⟨fr, (l.length : Int), (l.length : Int)⟩ : Ln)]).length = acc.length + 1 by simp, blk_set HBL2.out]
      rfl
end Go.Proofs.Ytogfaahdbecdnaa.B
