/-
  LinesJoin, walked.
-/
import Derived.Test.YtogfaahdbecdnaaE8
namespace Go.Proofs.Ytogfaahdbecdnaa.B
open Go.RowKit Go.Proofs.YtogfaahdbecdnaaW.PrintWords Go.Proofs.YtogfaahdbecdnaaW.PrintLast Go.Proofs.YtogfaahdbecdnaaW.PrintMore Go.Proofs.Ytogfaahdbecdnaa.FBase
set_option linter.unusedVariables false

/-- A line of a text: nothing in it ends a line; and how it ends. -/
def EndOf (l : List Int) (x : Ln) : Prop := (∀ k : Int, x.f0 ≤ k → k < x.f1 → rd l k ≠ 10 ∧ rd l k ≠ 13) ∧
  ((x.f1 = l.length ∧ x.f2 = l.length) ∨ (x.f1 < l.length ∧ ((x.f2 = x.f1 + 1 ∧ rd l x.f1 = 10) ∨ (x.f2 = x.f1 + 2 ∧ x.f1 + 1 < l.length ∧ rd l x.f1 = 13 ∧ rd l (x.f1 + 1) = 10) ∨ (x.f2 = x.f1 + 1 ∧ rd l x.f1 = 13 ∧ (x.f2 < l.length → rd l x.f2 ≠ 10)))))
theorem lns_ends (l : List Int) (n : Nat) : ∀ (fr i : Int), 0 ≤ i → i ≤ l.length → (l.length : Int) - i ≤ n → (∀ k : Int, fr ≤ k → k < i → rd l k ≠ 10 ∧ rd l k ≠ 13) → ∀ x ∈ lns (l.drop i.toNat) fr i, EndOf l x := by
  induction n with
  | zero =>
    intro fr i h0 h1 hn hk x hx
    rw [show l.drop i.toNat = [] by rw [List.drop_eq_nil_iff]; omega, lns, List.mem_singleton] at hx
    subst hx
    exact ⟨hk, .inl ⟨by show i = _; omega, by show i = _; omega⟩⟩
  | succ n ih =>
    intro fr i h0 h1 hn hk x hx
    by_cases hi : i < (l.length : Int)
    · have none_ : ∀ j : Int, ∀ k : Int, j ≤ k → k < j → rd l k ≠ 10 ∧ rd l k ≠ 13 := fun j k a b => by omega
      rw [lns_drop l fr i h0 hi] at hx
      by_cases h10 : rd l i = 10
      · rw [if_pos h10, List.mem_cons] at hx
        rcases hx with rfl | hx
        · exact ⟨hk, .inr ⟨hi, .inl ⟨rfl, h10⟩⟩⟩
        · exact ih _ _ (by omega) (by omega) (by omega) (none_ _) x hx
      · rw [if_neg h10] at hx
        by_cases h13 : rd l i = 13
        · rw [if_pos h13] at hx
          by_cases h2 : i + 1 < (l.length : Int) ∧ rd l (i + 1) = 10
          · rw [if_pos h2, List.mem_cons] at hx
            rcases hx with rfl | hx
            · exact ⟨hk, .inr ⟨hi, .inr (.inl ⟨rfl, h2.1, h13, h2.2⟩)⟩⟩
            · exact ih _ _ (by omega) (by omega) (by omega) (none_ _) x hx
          · rw [if_neg h2, List.mem_cons] at hx
            rcases hx with rfl | hx
            · exact ⟨hk, .inr ⟨hi, .inr (.inr ⟨rfl, h13, fun a b => h2 ⟨a, b⟩⟩)⟩⟩
            · exact ih _ _ (by omega) (by omega) (by omega) (none_ _) x hx
        · rw [if_neg h13] at hx
          refine ih _ _ (by omega) (by omega) (by omega) (fun k a b => ?_) x hx
          rcases Int.lt_or_le k i with h | h
          · exact hk k a h
          · obtain rfl : k = i := by omega
            exact ⟨h10, h13⟩
    · rw [show l.drop i.toNat = [] by rw [List.drop_eq_nil_iff]; omega, lns, List.mem_singleton] at hx
      subst hx
      exact ⟨hk, .inl ⟨by show i = _; omega, by show i = _; omega⟩⟩
theorem lns_ends0 (l : List Int) (t : Nat) (ht : t < (lns l 0 0).length) : EndOf l (rdLn (lns l 0 0) t) := by
  refine lns_ends l l.length 0 0 (Int.le_refl _) (by omega) (by omega) (fun k a b => by omega) _ ?_
  simp only [Int.toNat_zero, List.drop_zero]
  have e : rdLn (lns l 0 0) t = (lns l 0 0)[t] := by simp [rdLn, List.getD, ht]
  rw [e]
  exact List.getElem_mem ht
theorem two_cells (W : World) (x0 x1 x2 : Int) (t : TypeId) :
    ((W.alloc (.cells #[.int .i64 x0, .int .i64 x2] t)).alloc (.cells #[.int .i64 x0, .int .i64 x1] t)).cell? ⟨W.heap.size, 0, none⟩ = some (.int .i64 x0) ∧ ((W.alloc (.cells #[.int .i64 x0, .int .i64 x2] t)).alloc (.cells #[.int .i64 x0, .int .i64 x1] t)).cell? ⟨W.heap.size, 1, none⟩ = some (.int .i64 x2) ∧
    ((W.alloc (.cells #[.int .i64 x0, .int .i64 x2] t)).alloc (.cells #[.int .i64 x0, .int .i64 x1] t)).cell? ⟨W.heap.size + 1, 0, none⟩ = some (.int .i64 x0) ∧ ((W.alloc (.cells #[.int .i64 x0, .int .i64 x2] t)).alloc (.cells #[.int .i64 x0, .int .i64 x1] t)).cell? ⟨W.heap.size + 1, 1, none⟩ = some (.int .i64 x1) :=
  ⟨(two_blk W _ _ 0).1.trans ((blk_cell (blk_new W _) 0).trans rfl), (two_blk W _ _ 1).1.trans ((blk_cell (blk_new W _) 1).trans rfl), (two_blk W _ _ 0).2.trans ((blk_cell (blk_new _ _) 0).trans rfl), (two_blk W _ _ 1).2.trans ((blk_cell (blk_new _ _) 1).trans rfl)⟩
theorem take_at (l : List Int) (i : Int) (h0 : 0 ≤ i) (h1 : i < l.length) : (l.take (i + 1).toNat).drop i.toNat = [rd l i] := by
  rw [show (i + 1).toNat = i.toNat + 1 by omega]
  have hi : i.toNat < l.length := by omega
  rw [List.take_add_one, List.drop_append_of_le_length (by rw [List.length_take]; omega), List.drop_take_self]
  simp [rd, List.getD, hi]
theorem take_at2 (l : List Int) (i : Int) (h0 : 0 ≤ i) (h1 : i + 1 < l.length) : (l.take (i + 2).toNat).drop i.toNat = [rd l i, rd l (i + 1)] := by
  rw [show (i + 2).toNat = (i + 1).toNat + 1 by omega, List.take_add_one, List.drop_append_of_le_length (by rw [List.length_take]; omega), take_at l i h0 (by omega)]
  have hi : (i + 1).toNat < l.length := by omega
  simp [rd, List.getD, hi]
theorem take_none (l : List Int) (i : Nat) : (l.take i).drop i = [] := by rw [List.drop_take_self]

set_option maxRecDepth 100000 in
set_option maxHeartbeats 4000000 in
theorem LinesJoin_ok (k : Nat) (A : Option Addr) (c : Nat) (l : List Int) (r1 r2 : Int) (w : World) (hr : Kd.C (Kd.int .u8) w A l.length l) (hc : l.length ≤ c) (h : runes_Check.f k l = some (r1, r2)) (hs : l.length ≤ 1048576) :
    Calls Try.prog 5 #[.slice A l.length c] w fun e w' => e = .returned (.bool true) ∧ Below w.heap.size w w' := by
  have HR := Aside0.mk hr
  have HC := Aside0.mk hc
  have H := Aside0.mk h
  clear hr hc h
  by_cases hz : r2 = 0
  · subst hz
    have hch := lns_chain0 l
    have hen := lns_ends0 l
    have hln : (lns l 0 0).length ≤ 2097152 := by have := hch.length_le; omega
    obtain ⟨L, hL⟩ : ∃ L, lns l 0 0 = L := ⟨_, rfl⟩
    have HLE := Aside0.mk hL
    rw [hL] at hch hln hen
    have hpos := hch.pos
    have HCH := Aside0.mk hch
    have HEN := Aside0.mk hen
    have HP := Aside0.mk hpos
    have a0 := (hch.at 0 hpos).2.2.2.2.1 rfl
    clear hL hen hch
    go_enter Try.func5, Try.ntmps5
    go_wp2_with (first | (go_at_call 24; refine (works_ok _).mono ?_; rintro e w' ⟨rfl, hb⟩; have HB := Aside0.mk hb; clear hb) | (go_at_call 21; refine (New_ok k A c l r1 _ (by repeat (first | exact Kd.C_below HR.out HB.out | exact HR.out | (with_reducible refine Kd.C_alloc ?_ _) | (with_reducible refine Kd.C_drewN ?_ _) | (with_reducible refine Kd.C_drew ?_))) HC.out H.out hs).mono ?_; rintro e w1 ⟨a, rfl, hle, hI, hb⟩; rw [HLE.out] at hI; have HI := Aside0.mk hI; have m_ := Aside0.mk (below_step HB.out hb); clear HB; have HB := m_; clear hI hb m_))
    go_loopw [5, 6] (fun s5 s6 W => ∃ i : Nat, i < L.length ∧ s6 = .int .i64 i ∧ s5 = .int .i64 (rdLn L i).f0 ∧ Aside0 (IsIdx W a L) ∧ Aside0 (Below w.heap.size w W)) (fun _ s6 _ => L.length - (intOf s6).toNat)
    case atStart => exact ⟨0, hpos, rfl, by rw [Int.natCast_zero] at a0; rw [Int.natCast_zero, a0], HI, HB⟩
    case round =>
      clear HI HB
      obtain ⟨i, hi, rfl, rfl, HI, HB⟩ := hrel
      have hat := HCH.out.at i hi
      obtain ⟨hek, hee⟩ := HEN.out i hi
      have HEK := Aside0.mk hek
      clear hek
      have il : (i : Int) < L.length := by omega
      have z1 : (rdLn L i).f0 ≤ (rdLn L i).f1 := by omega
      have z2 : (rdLn L i).f1 ≤ (rdLn L i).f2 := by omega
      have z3 : (rdLn L i).f2 ≤ l.length := by omega
      have z0 : 0 ≤ (rdLn L i).f0 := by omega
      have zn : i + 1 < L.length → (rdLn L (i + 1 : Nat)).f0 = (rdLn L i).f2 ∧ (rdLn L i).f1 < (rdLn L i).f2 := fun h => by have := hat.2.2.2.2.2.1 h; omega
      have zl : i + 1 = L.length → (rdLn L i).f1 = l.length ∧ (rdLn L i).f2 = l.length := fun h => hat.2.2.2.2.2.2.1 h
      have HEE := Aside0.mk hee
      have ZN := Aside0.mk zn
      have ZL := Aside0.mk zl
      clear hat hee zn zl
      have d1 : decide ((rdLn L i).f1 < (rdLn L i).f0) = false := decide_eq_false (by omega)
      have d2 : decide ((rdLn L i).f2 < (rdLn L i).f1) = false := decide_eq_false (by omega)
      have d3 : decide ((l.length : Int) < (rdLn L i).f2) = false := decide_eq_false (by omega)
      go_wp2_with (first | (go_at_call 26; refine (Count_ok a _ _ (by repeat (first | exact HI.out | apply IsIdx.alloc | apply IsIdx.drewN)) HP.out hln).mono ?_; rintro e w' ⟨rfl, hb⟩; have n0_ := Aside0.mk (IsIdx.below (by repeat (first | exact HI.out | apply IsIdx.alloc | apply IsIdx.drewN)) hb); have m_ := Aside0.mk (below_step (by repeat (first | exact HB.out | apply below_alloc | apply pw_below_drewN | apply below_drew1)) hb); clear HI HB ; have HI := n0_; have HB := m_; clear n0_ m_) | (go_at_call 27; refine (Line_ok a _ i _ (by repeat (first | exact HI.out | apply IsIdx.alloc | apply IsIdx.drewN)) (by omega) (by omega) hln).mono ?_; rintro e w' ⟨rfl, hb⟩; have n0_ := Aside0.mk (IsIdx.below (by repeat (first | exact HI.out | apply IsIdx.alloc | apply IsIdx.drewN)) hb); have m_ := Aside0.mk (below_step (by repeat (first | exact HB.out | apply below_alloc | apply pw_below_drewN | apply below_drew1)) hb); clear HI HB ; have HI := n0_; have HB := m_; clear n0_ m_))
      obtain ⟨g, hg⟩ : ∃ g, w'.heap.size = g := ⟨_, rfl⟩
      have hI0 := (HI.out.alloc (.cells #[.int .i64 (rdLn L i).f0, .int .i64 (rdLn L i).f2] 35)).alloc (.cells #[.int .i64 (rdLn L i).f0, .int .i64 (rdLn L i).f1] 35)
      have hB0 := below_alloc (below_alloc HB.out (.cells #[.int .i64 (rdLn L i).f0, .int .i64 (rdLn L i).f2] 35)) (.cells #[.int .i64 (rdLn L i).f0, .int .i64 (rdLn L i).f1] 35)
      obtain ⟨-, hc2, -, hc1⟩ := two_cells w' (rdLn L i).f0 (rdLn L i).f1 (rdLn L i).f2 35
      rw [hg] at hc1 hc2 ⊢
      clear hg HI HB hb
      generalize hx0 : (rdLn L i).f0 = x0 at *
      generalize hx1 : (rdLn L i).f1 = x1 at *
      generalize hx2 : (rdLn L i).f2 = x2 at *
      generalize ((w'.alloc (.cells #[.int .i64 x0, .int .i64 x2] 35)).alloc (.cells #[.int .i64 x0, .int .i64 x1] 35)) = W0 at hI0 hB0 hc1 hc2 ⊢
      clear hx0 hx1 hx2
      have HI := Aside0.mk hI0
      have HB := Aside0.mk hB0
      have H7 : Aside0 (W0.cell? ⟨g, 1, none⟩ = some (.int .i64 x2)) := ⟨hc2⟩
      have HRW := Aside0.mk (Kd.C_below HR.out hB0)
      clear hI0 hB0
      go_loop [10] (fun s10 => ∃ k : Int, s10 = .int .i64 k ∧ x0 ≤ k ∧ k ≤ x1) (fun s10 => x1.toNat - (intOf s10).toNat)
      case atStart => exact ⟨x0, rfl, Int.le_refl _, z1⟩
      case round =>
        obtain ⟨k, rfl, hk0, hk1⟩ := hrel
        by_cases hlt : k < x1
        · obtain ⟨ad, e, hx⟩ := Kd.at_int HRW.out k (by omega) (by omega)
          cases e
          obtain ⟨e10, e13⟩ := HEK.out k hk0 hlt
          have b10 : (rd l k == 10) = false := beq_eq_false_iff_ne.mpr e10
          have b13 : (rd l k == 13) = false := beq_eq_false_iff_ne.mpr e13
          have k0 : 0 ≤ k := by omega
          have k1 : k < l.length := by omega
          go_wp2
          go_round
          case measure => simp [intOf]; omega
          case rel => exact ⟨k + 1, rfl, by omega, by omega⟩
        · obtain rfl : k = x1 := by omega
          obtain ⟨i0, hi0, _, hsz, _⟩ := info_parts info5
          have hcut := cut_mid (P := Try.prog) 22 5 .i64 .i64 Try.underlying22 hi0 1 hsz A l.length c k x2 (by omega) z2 z3 HC.out
          have hmid := Kd.C_mid HRW.out (lo := k.toNat) (hi := x2.toNat) (by omega) (by omega) HC.out
          have hml : ((l.take x2.toNat).drop k.toNat).length = x2.toNat - k.toNat := by rw [List.length_drop, List.length_take]; omega
          rw [hml] at hmid
          have ek : (Kd.int .u8).sz = 1 := rfl
          rw [ek] at hmid
          generalize (if c = k.toNat then A else A.map (·.add (k.toNat * 1))) = B at hcut hmid
          have hcv := Kd.C_string (P := Try.prog) (A := B) (c := c - k.toNat) Try.underlying22 Try.underlying5 Try.underlying9 hmid
          clear hmid hml ek hsz
          have HEE2 := HEE.out
          clear HEE
          rcases HEE2 with ⟨e1, e2⟩ | ⟨e0, ⟨e1, e2⟩ | ⟨e1, e2, e3, e4⟩ | ⟨e1, e2, e3⟩⟩
          · have hi1 : i + 1 = L.length := by
              rcases Nat.eq_or_lt_of_le (show i + 1 ≤ L.length by omega) with h | h
              · exact h
              · have := (ZN.out h).2; omega
            have hz1 : wrap64 ((L.length : Int) - 1) = (i : Int) := by unfold wrap64; omega
            have hz3 : (L.length : Int) - 1 = i := by omega
            have c7 := H7.out
            rw [show (l.take x2.toNat).drop k.toNat = [] by rw [e1, e2, take_none], show strOfNums [] = ⟨#[]⟩ from rfl] at hcv
            have hzz : (x2 == (l.length : Int)) = true := beq_iff_eq.mpr e2
            clear e1 e2
            go_wp2_with (go_at_call 26; refine (Count_ok a _ _ (by repeat (first | exact HI.out | apply IsIdx.alloc | apply IsIdx.drewN)) HP.out hln).mono ?_; rintro e w' ⟨rfl, hb⟩; have n0_ := Aside0.mk (IsIdx.below (by repeat (first | exact HI.out | apply IsIdx.alloc | apply IsIdx.drewN)) hb); have n1_ := Aside0.mk (cell_below (by repeat (first | exact H7.out | apply cell_alloc1 | apply cell_drewN1)) hb); have m_ := Aside0.mk (below_step (by repeat (first | exact HB.out | apply below_alloc | apply pw_below_drewN | apply below_drew1)) hb); clear HI H7 HB c7; have HI := n0_; have H7 := n1_; have HB := m_; clear n0_ n1_ m_; have c7 := H7.out)
            go_ret
            exact ⟨rfl, (by repeat (first | exact HB.out | apply below_alloc | apply pw_below_drewN | apply below_drew1))⟩
          · have hi1 : i + 1 < L.length := by
              rcases Nat.eq_or_lt_of_le (show i + 1 ≤ L.length by omega) with h | h
              · have := (ZL.out h).1; omega
              · exact h
            obtain ⟨e5, -⟩ := ZN.out hi1
            have hz1 : wrap64 ((L.length : Int) - 1) = (L.length : Int) - 1 := by unfold wrap64; omega
            have hz3 : ((i : Int) == (L.length : Int) - 1) = false := beq_eq_false_iff_ne.mpr (by omega)
            have c7 := H7.out
            subst e1
            rw [take_at l k (by omega) e0, e2, show strOfNums [10] = ⟨#[10]⟩ from rfl] at hcv
            go_wp2_with (go_at_call 26; refine (Count_ok a _ _ (by repeat (first | exact HI.out | apply IsIdx.alloc | apply IsIdx.drewN)) HP.out hln).mono ?_; rintro e w' ⟨rfl, hb⟩; have n0_ := Aside0.mk (IsIdx.below (by repeat (first | exact HI.out | apply IsIdx.alloc | apply IsIdx.drewN)) hb); have n1_ := Aside0.mk (cell_below (by repeat (first | exact H7.out | apply cell_alloc1 | apply cell_drewN1)) hb); have m_ := Aside0.mk (below_step (by repeat (first | exact HB.out | apply below_alloc | apply pw_below_drewN | apply below_drew1)) hb); clear HI H7 HB c7; have HI := n0_; have H7 := n1_; have HB := m_; clear n0_ n1_ m_; have c7 := H7.out)
            go_roundw
            case measure => simp [intOf]; omega
            case rel => exact ⟨i + 1, hi1, by simp, by rw [e5], HI, HB⟩
          · have hi1 : i + 1 < L.length := by
              rcases Nat.eq_or_lt_of_le (show i + 1 ≤ L.length by omega) with h | h
              · have := (ZL.out h).1; omega
              · exact h
            obtain ⟨e5, -⟩ := ZN.out hi1
            have hz1 : wrap64 ((L.length : Int) - 1) = (L.length : Int) - 1 := by unfold wrap64; omega
            have hz3 : ((i : Int) == (L.length : Int) - 1) = false := beq_eq_false_iff_ne.mpr (by omega)
            have c7 := H7.out
            subst e1
            rw [take_at2 l k (by omega) e2, e3, e4, show strOfNums [13, 10] = ⟨#[13, 10]⟩ from rfl] at hcv
            go_wp2_with (go_at_call 26; refine (Count_ok a _ _ (by repeat (first | exact HI.out | apply IsIdx.alloc | apply IsIdx.drewN)) HP.out hln).mono ?_; rintro e w' ⟨rfl, hb⟩; have n0_ := Aside0.mk (IsIdx.below (by repeat (first | exact HI.out | apply IsIdx.alloc | apply IsIdx.drewN)) hb); have n1_ := Aside0.mk (cell_below (by repeat (first | exact H7.out | apply cell_alloc1 | apply cell_drewN1)) hb); have m_ := Aside0.mk (below_step (by repeat (first | exact HB.out | apply below_alloc | apply pw_below_drewN | apply below_drew1)) hb); clear HI H7 HB c7; have HI := n0_; have H7 := n1_; have HB := m_; clear n0_ n1_ m_; have c7 := H7.out)
            go_roundw
            case measure => simp [intOf]; omega
            case rel => exact ⟨i + 1, hi1, by simp, by rw [e5], HI, HB⟩
          · have hi1 : i + 1 < L.length := by
              rcases Nat.eq_or_lt_of_le (show i + 1 ≤ L.length by omega) with h | h
              · have := (ZL.out h).1; omega
              · exact h
            obtain ⟨e5, -⟩ := ZN.out hi1
            have hz1 : wrap64 ((L.length : Int) - 1) = (L.length : Int) - 1 := by unfold wrap64; omega
            have hz3 : ((i : Int) == (L.length : Int) - 1) = false := beq_eq_false_iff_ne.mpr (by omega)
            have c7 := H7.out
            subst e1
            rw [take_at l k (by omega) e0, e2, show strOfNums [13] = ⟨#[13]⟩ from rfl] at hcv
            by_cases hq : k + 1 < (l.length : Int)
            · obtain ⟨ad, e, hx⟩ := Kd.at_int HRW.out (k + 1) (by omega) hq
              cases e
              have HY := Aside0.mk hx
              have y1 := hx
              clear hx
              have b10 : (rd l (k + 1) == 10) = false := beq_eq_false_iff_ne.mpr (e3 hq)
              have p1 : 0 ≤ k + 1 := by omega
              clear e3
              go_wp2_with (go_at_call 26; refine (Count_ok a _ _ (by repeat (first | exact HI.out | apply IsIdx.alloc | apply IsIdx.drewN)) HP.out hln).mono ?_; rintro e w' ⟨rfl, hb⟩; have n0_ := Aside0.mk (IsIdx.below (by repeat (first | exact HI.out | apply IsIdx.alloc | apply IsIdx.drewN)) hb); have n1_ := Aside0.mk (cell_below (by repeat (first | exact H7.out | apply cell_alloc1 | apply cell_drewN1)) hb); have n2_ := Aside0.mk (cell_below (by repeat (first | exact HY.out | apply cell_alloc1 | apply cell_drewN1)) hb); have m_ := Aside0.mk (below_step (by repeat (first | exact HB.out | apply below_alloc | apply pw_below_drewN | apply below_drew1)) hb); clear HI H7 HY HB c7 y1; have HI := n0_; have H7 := n1_; have HY := n2_; have HB := m_; clear n0_ n1_ n2_ m_; have c7 := H7.out; have y1 := HY.out)
              go_roundw
              case measure => simp [intOf]; omega
              case rel => exact ⟨i + 1, hi1, by simp, by rw [e5], HI, HB⟩
            · clear e3
              go_wp2_with (go_at_call 26; refine (Count_ok a _ _ (by repeat (first | exact HI.out | apply IsIdx.alloc | apply IsIdx.drewN)) HP.out hln).mono ?_; rintro e w' ⟨rfl, hb⟩; have n0_ := Aside0.mk (IsIdx.below (by repeat (first | exact HI.out | apply IsIdx.alloc | apply IsIdx.drewN)) hb); have n1_ := Aside0.mk (cell_below (by repeat (first | exact H7.out | apply cell_alloc1 | apply cell_drewN1)) hb); have m_ := Aside0.mk (below_step (by repeat (first | exact HB.out | apply below_alloc | apply pw_below_drewN | apply below_drew1)) hb); clear HI H7 HB c7; have HI := n0_; have H7 := n1_; have HB := m_; clear n0_ n1_ m_; have c7 := H7.out)
              go_roundw
              case measure => simp [intOf]; omega
              case rel => exact ⟨i + 1, hi1, by simp, by rw [e5], HI, HB⟩
  · have hz2 : (r2 != 0) = true := bne_iff_ne.mpr hz
    go_enter Try.func5, Try.ntmps5
    go_wp2_with (first | (go_at_call 24; refine (works_ok _).mono ?_; rintro e w' ⟨rfl, hb⟩; have HB := Aside0.mk hb; clear hb) | (go_at_call 21; refine (New_err k A c l r1 r2 _ (by repeat (first | exact Kd.C_below HR.out HB.out | exact HR.out | (with_reducible refine Kd.C_alloc ?_ _) | (with_reducible refine Kd.C_drewN ?_ _) | (with_reducible refine Kd.C_drew ?_))) HC.out H.out hz).mono ?_; rintro e w1 ⟨rfl, hb⟩; have m_ := Aside0.mk (below_step HB.out hb); clear HB; have HB := m_; clear hb m_))
    go_ret
    exact ⟨rfl, (by repeat (first | exact HB.out | apply below_alloc | apply pw_below_drewN | apply below_drew1))⟩

theorem LinesJoin_row (A : Option Addr) (n c : Nat) (zs : List Int) (W : World) (h : IsRow .u8 W A n c zs) (hb : c ≤ 1048576) :
    Calls Try.prog 5 #[.slice A n c] W fun e w' => e = .returned (.bool true) ∧ Below W.heap.size W w' := by
  obtain ⟨l, rfl, hc, hC, hw⟩ := h.reads
  obtain ⟨k, r1, r2, hk⟩ := chk_total l (fun x hx => byte_wf (hw x hx)) (by omega)
  exact LinesJoin_ok k A c l r1 r2 W hC hc hk (by omega)
end Go.Proofs.Ytogfaahdbecdnaa.B
