/-
  Chapter 16's statements: StoreRises.
-/
import Derived.Test.YtjebkpcekkkbkaaZO143
set_option linter.unusedSimpArgs false
set_option linter.unusedVariables false
namespace Go.Proofs.Ytjebkpcekkkbkaa.B
open Go.RowKit Go.Shelf Go.ChangeMaps Go.Proofs Go.Proofs.YtjebkpcekkkbkaaW.PrintWords Go.Proofs.YtjebkpcekkkbkaaW.PrintLast Go.Proofs.YtjebkpcekkkbkaaW.PrintMore Go.Proofs.Ytjebkpcekkkbkaa.FBase
theorem bring_is (a n : Int) (hn : 0 < n) (hN : n ≤ 1000) : colophonref00_Bring.f a n = some (a % n) := by
  have h1 := Int.emod_nonneg a (show n ≠ 0 by omega)
  have h2 := Int.emod_lt_of_pos a hn
  unfold colophonref00_Bring.f
  rw [if_neg (by omega), if_neg (by omega)]
  have h3 : Int.tmod a n = a % n - ((if 0 ≤ a ∨ n ∣ a then 0 else n.natAbs : Nat) : Int) := Int.tmod_eq_emod
  rw [h3]
  by_cases h : 0 ≤ a ∨ n ∣ a
  · rw [if_pos h, if_neg (by omega)]
    simp
  · rw [if_neg h, if_pos (by omega)]
    congr 1
    unfold wrap64
    omega
def nm (j : Nat) : ByteArray := strOfNums [((97 + j : Nat) : Int)]
theorem nm_size (j : Nat) : (nm j).size = 1 := rfl
theorem nm_sz (j : Nat) : (nm j).size ≤ maxLen := by rw [nm_size]; decide
theorem nm_len (j : Nat) : 1 ≤ (nm j).size ∧ (nm j).size ≤ 256 := by rw [nm_size]; decide
theorem nm_inj : ∀ i, i < 10 → ∀ j, j < 10 → key (nm i) = key (nm j) → i = j := by decide
theorem nm_x : ∀ i, i < 10 → key (nm i) ≠ [120] := by decide
theorem name_is (a : Int) (j : Nat) (h : a % 10 = j) (w : World) : Calls Try.prog 45 #[.int .i64 a] w fun e w' => e = .returned (.string (nm j)) ∧ Below w.heap.size w w' := by
  have h1 := Int.emod_nonneg a (show (10 : Int) ≠ 0 by decide)
  have h2 := Int.emod_lt_of_pos a (show (0 : Int) < 10 by decide)
  refine colophonlaw16_name.calls a (nm j) w ?_
  unfold colophonlaw16_name.f
  rw [bring_is a 10 (by decide) (by decide), h]
  show some (strOfNums [(wrap64 (97 + (j : Int))) % 256]) = _
  have : wrap64 (97 + (j : Int)) % 256 = ((97 + j : Nat) : Int) := by unfold wrap64; omega
  rw [this]
  rfl
theorem lk_iff (L : DL) (k : List UInt8) : lk L k = none ↔ k ∉ L.map (·.1) := by
  constructor
  · intro h hm
    obtain ⟨p, hp, e⟩ := List.mem_map.1 hm
    exact lk_none h p hp e
  · intro h
    unfold lk
    rw [Option.map_eq_none_iff, List.find?_eq_none]
    intro p hp e
    exact h (List.mem_map.2 ⟨p, hp, by simpa using e⟩)
theorem lk_of_mem {L : DL} {k : List UInt8} (h : k ∈ L.map (·.1)) : ∃ d, lk L k = some d := by
  cases hl : lk L k with
  | some d => exact ⟨d, rfl⟩
  | none => exact absurd h ((lk_iff L k).1 hl)
theorem names_x {L : DL} {k : List UInt8} (g : Nat) (A : Option Addr) (c : Nat) (h : L.length + 1 = 8) (v n : Int) : (names ((k, (⟨g, v, n, A, c, []⟩ : Dc)) :: L)).length = 8 := by rw [names_len, List.length_cons]; exact h
theorem names_y {L : DL} {k : List UInt8} (g : Nat) (A : Option Addr) (c : Nat) (h : L.length + 1 = 8) (v n : Int) : ((k, (⟨g, v, n, A, c, []⟩ : Dc)) :: L).length ≤ 8 := by rw [List.length_cons]; omega
set_option maxRecDepth 100000 in
set_option maxHeartbeats 8000000 in
theorem StoreFull_ok (n : Int) (w : World) : Calls Try.prog 15 #[.int .i64 n] w fun e w' => e = .returned (.bool true) ∧ Below w.heap.size w w' := by
  go_enter Try.func15, Try.ntmps15
  go_upto_region 2 with (go_at_call 33; refine (SNew_ok _).mono ?_; rintro e w1 ⟨s, M0, rfl, hs, hM, hb⟩; have HS := Aside0.mk (Sto.of_new trivial keeps_tt hs hM hb); clear hs hM hb)
  go_upto_block 0 with (fail)
  go_cut [4] from 4 (fun s4 W => ∃ (i : Nat) (M : Nat → Prop) (L : DL), i = 8 ∧ s4 = .int .i64 i ∧ Aside0 (L.map (·.1) = ((List.range i).map fun j => key (nm j)).reverse) ∧ Aside0 (Sto w W M s L i (fun _ => True)))
  case first =>
    go_wp2
    go_loopw [4] (fun s4 W => ∃ (i : Nat) (M : Nat → Prop) (L : DL), i ≤ 8 ∧ s4 = .int .i64 i ∧ Aside0 (L.map (·.1) = ((List.range i).map fun j => key (nm j)).reverse) ∧ Aside0 (Sto w W M s L i (fun _ => True))) (fun s4 _ => 8 - (intOf s4).toNat)
    case atStart => exact ⟨0, M0, [], by omega, rfl, ⟨rfl⟩, HS⟩
    case round =>
      clear HS
      obtain ⟨i, M, L, hi, rfl, HL, HS⟩ := hrel
      by_cases h8 : i < 8
      · have hlen := congrArg List.length HL.out
        simp only [List.length_map, List.length_reverse, List.length_range] at hlen
        have hi2 : (0 : Int) ≤ (i : Int) ∧ (i : Int) ≤ 9007199254740991 := by omega
        have hm8 : (0 : Int) ≤ (i : Int) ∧ (i : Int) ≤ 1000000 := by omega
        have hl8 : L.length < 8 := by omega
        have hno : lk L (key (nm i)) = none := by
          rw [lk_iff, HL.out]
          intro hm
          obtain ⟨q, hq, e⟩ := List.mem_map.1 (List.mem_reverse.1 hm)
          have hq := List.mem_range.1 hq
          have := nm_inj q (by omega) i (by omega) e
          omega
        have h10 : (i : Int) % 10 = i := by omega
        have g8 : decide (i < 8) = true := decide_eq_true h8
        clear hlen
        go_wp2_with (first | (go_at_call 45; refine (name_is (i : Int) _ h10 _).mono ?_; rintro e w4 ⟨rfl, hb⟩; have m_ := Aside0.mk ((HS.out.step (by repeat (first | exact Below.refl _ _ | apply zq2 | apply zq3 | apply zq4 | apply zq5))).step hb); clear HS hb; have HS := m_; clear m_) | (go_at_call 35; refine (Open_ok (HS.out.step (by repeat (first | exact Below.refl _ _ | apply zq2 | apply zq3 | apply zq4 | apply zq5))).st (nm i) i _ _ [] (nm_sz i) (nil_out _ _) (Nat.le_refl _) (fun _ => rfl) aw_Bnil (nm_len i) hi2 aw_cnil (by decide) hno hl8 hm8).mono ?_; rintro e w5 ⟨rfl, M1, g1, A1, c1, hs, hg⟩; have m_ := Aside0.mk ((HS.out.step (by repeat (first | exact Below.refl _ _ | apply zq2 | apply zq3 | apply zq4 | apply zq5))).op hs hg); clear HS hs hg; have HS := m_; clear m_))
        go_roundw
        case measure => simp [intOf]; omega
        case rel =>
          refine ⟨i + 1, M1, _, by omega, by simp, ⟨?_⟩, HS⟩
          rw [List.map_cons, HL.out, List.range_succ, List.map_append, List.reverse_append]
          rfl
      · obtain rfl : i = 8 := by omega
        go_wp2
        go_meet
        exact ⟨8, M, L, rfl, rfl, HL, HS⟩
  case rest =>
    clear HS
    obtain ⟨i, M, L, rfl, rfl, HL, HS⟩ := hcut
    have hlen := congrArg List.length HL.out
    simp only [List.length_map, List.length_reverse, List.length_range] at hlen
    have hL8 : 8 ≤ L.length := by omega
    have hL8b : L.length ≤ 8 := by omega
    have hnl : (names L).length = 8 := by rw [names_len]; exact hlen
    have hx : lk L (key ⟨#[120]⟩) = none := by
      rw [lk_iff, HL.out]
      intro hm
      obtain ⟨q, hq, e⟩ := List.mem_map.1 (List.mem_reverse.1 hm)
      have hq := List.mem_range.1 hq
      exact nm_x q (by omega) e
    have b1 := Int.emod_nonneg n (show (8 : Int) ≠ 0 by decide)
    have b2 := Int.emod_lt_of_pos n (show (0 : Int) < 8 by decide)
    obtain ⟨j, hj⟩ : ∃ j : Nat, n % 8 = j := ⟨(n % 8).toNat, by omega⟩
    have hbr : colophonref00_Bring.f n 8 = some (j : Int) := by rw [bring_is n 8 (by decide) (by decide), hj]
    have hj10 : (j : Int) % 10 = j := by omega
    obtain ⟨d, hd⟩ : ∃ d, lk L (key (nm j)) = some d := lk_of_mem (by
      rw [HL.out]
      exact List.mem_reverse.2 (List.mem_map.2 ⟨j, List.mem_range.2 (by omega), rfl⟩))
    have hxj : key (nm j) ≠ key ⟨#[120]⟩ := nm_x j (by omega)
    have hx2 : lk (rm L (key (nm j))) (key ⟨#[120]⟩) = none := by rw [lk_rm_ne L hxj]; exact hx
    have hnd : (L.map (·.1)).Nodup := by
      obtain ⟨_, _, _, _, h, _⟩ := HS.out.st
      obtain ⟨_, _, _, hn⟩ := h.rep
      exact hn
    have hr8 : (rm L (key (nm j))).length + 1 = 8 := by rw [rm_len hnd hd]; exact hlen
    have hr7 : (rm L (key (nm j))).length < 8 := by omega
    clear b1 b2 hj hlen hnd HL hxj
    have t1 := True.intro; have t2 := True.intro; have t3 := True.intro; have t4 := True.intro; have t5 := True.intro; have t6 := True.intro; have t7 := True.intro
    go_upto_region 8 with (go_at_call 29; refine (colophonref00_Bring.calls n 8 j _ hbr).mono ?_; rintro e w7 ⟨rfl, hd⟩; have hb := hd.below; clear hd; have m_ := Aside0.mk ((HS.out.step (by repeat (first | exact Below.refl _ _ | apply zq2 | apply zq3 | apply zq4 | apply zq5))).step hb); clear HS hb; have HS := m_; clear m_)
    go_upto_region 9 with (first | (have _t := t1; go_at_call 35; refine (Open_f (HS.out.step (by repeat (first | exact Below.refl _ _ | apply zq2 | apply zq3 | apply zq4 | apply zq5))).st ⟨#[120]⟩ 0 none 0 [] (by decide) (Kd.C_nil _ _) (Nat.le_refl _) (fun _ => rfl) aw_Bnil (by decide) (by decide) (by decide) aw_cnil (by decide) hx hL8).mono ?_; rintro e w8 ⟨rfl, hb⟩; have m_ := Aside0.mk ((HS.out.step (by repeat (first | exact Below.refl _ _ | apply zq2 | apply zq3 | apply zq4 | apply zq5))).step hb); clear HS hb; have HS := m_; clear m_; clear t1 _t) | (have _t := t2; go_at_call 49; refine (List_is (HS.out.step (by repeat (first | exact Below.refl _ _ | apply zq2 | apply zq3 | apply zq4 | apply zq5))).st hL8b).mono ?_; rintro e w9 ⟨v, rfl, hR, -, hb⟩; obtain ⟨A9, cA9, rfl, -, -⟩ := Kd.R_reads hR; clear hR; have m_ := Aside0.mk ((HS.out.step (by repeat (first | exact Below.refl _ _ | apply zq2 | apply zq3 | apply zq4 | apply zq5))).step hb); clear HS hb; have HS := m_; clear m_; clear t2 _t))
    go_upto_region 10 with (first | (have _t := t3; go_at_call 45; refine (name_is (j : Int) _ hj10 _).mono ?_; rintro e w10 ⟨rfl, hb⟩; have m_ := Aside0.mk ((HS.out.step (by repeat (first | exact Below.refl _ _ | apply zq2 | apply zq3 | apply zq4 | apply zq5))).step hb); clear HS hb; have HS := m_; clear m_; clear t3 _t) | (have _t := t4; go_at_call 35; refine (Open_y (HS.out.step (by repeat (first | exact Below.refl _ _ | apply zq2 | apply zq3 | apply zq4 | apply zq5))).st (nm j) 0 none 0 [] (nm_sz j) (Kd.C_nil _ _) (Nat.le_refl _) (fun _ => rfl) aw_Bnil (by decide) (nm_len j) (by decide) aw_cnil (by decide) d hd).mono ?_; rintro e w11 ⟨rfl, hb⟩; have m_ := Aside0.mk ((HS.out.step (by repeat (first | exact Below.refl _ _ | apply zq2 | apply zq3 | apply zq4 | apply zq5))).step hb); clear HS hb; have HS := m_; clear m_; clear t4 _t))
    go_wp2_with (first | (have _t := t5; go_at_call 45; refine (name_is (j : Int) _ hj10 _).mono ?_; rintro e w12 ⟨rfl, hb⟩; have m_ := Aside0.mk ((HS.out.step (by repeat (first | exact Below.refl _ _ | apply zq2 | apply zq3 | apply zq4 | apply zq5))).step hb); clear HS hb; have HS := m_; clear m_; clear t5 _t) | (go_at_call 39; refine (Close_yes (HS.out.step (by repeat (first | exact Below.refl _ _ | apply zq2 | apply zq3 | apply zq4 | apply zq5))).st (nm j) (nm_sz j) d hd).mono ?_; rintro e w13 ⟨rfl, hs, hg⟩; have m_ := Aside0.mk ((HS.out.step (by repeat (first | exact Below.refl _ _ | apply zq2 | apply zq3 | apply zq4 | apply zq5))).op hs hg); clear HS hs hg; have HS := m_; clear m_) | (have _t := t6; go_at_call 35; refine (Open_ok (HS.out.step (by repeat (first | exact Below.refl _ _ | apply zq2 | apply zq3 | apply zq4 | apply zq5))).st ⟨#[120]⟩ 0 none 0 [] (by decide) (nil_out _ _) (Nat.le_refl _) (fun _ => rfl) aw_Bnil (by decide) (by decide) aw_cnil (by decide) hx2 hr7 (by decide)).mono ?_; rintro e w14 ⟨rfl, M2, g2, A2, c2, hs, hg⟩; have hs2 : IsStore M2 w14 s ((key ⟨#[120]⟩, ⟨g2, 0, 9, A2, c2, []⟩) :: rm L (key (nm j))) 9 := hs; have m_ := Aside0.mk ((HS.out.step (by repeat (first | exact Below.refl _ _ | apply zq2 | apply zq3 | apply zq4 | apply zq5))).op hs2 hg); clear HS hs hs2 hg; have HS := m_; clear m_; have hn9 := names_x (k := key ⟨#[120]⟩) g2 A2 c2 hr8 0 9; have hr9 := names_y (k := key ⟨#[120]⟩) g2 A2 c2 hr8 0 9; clear t6 _t) | (go_at_call 48; refine (has_yes (HS.out.step (by repeat (first | exact Below.refl _ _ | apply zq2 | apply zq3 | apply zq4 | apply zq5))).st ⟨#[120]⟩ (by decide) ⟨g2, 0, 9, A2, c2, []⟩ rfl ⟨#[]⟩ rfl).mono ?_; rintro e w15 ⟨rfl, hb⟩; have m_ := Aside0.mk ((HS.out.step (by repeat (first | exact Below.refl _ _ | apply zq2 | apply zq3 | apply zq4 | apply zq5))).step hb); clear HS hb; have HS := m_; clear m_) | (have _t := t7; go_at_call 49; refine (List_is (HS.out.step (by repeat (first | exact Below.refl _ _ | apply zq2 | apply zq3 | apply zq4 | apply zq5))).st hr9).mono ?_; rintro e w16 ⟨v, rfl, hR, -, hb⟩; obtain ⟨A16, cA16, rfl, -, -⟩ := Kd.R_reads hR; clear hR; have m_ := Aside0.mk ((HS.out.step (by repeat (first | exact Below.refl _ _ | apply zq2 | apply zq3 | apply zq4 | apply zq5))).step hb); clear HS hb; have HS := m_; clear m_; clear t7 _t) | (go_at_call 42; refine (awake_ok _).mono ?_; rintro e w17 ⟨rfl, hb⟩; have m_ := Aside0.mk ((HS.out.step (by repeat (first | exact Below.refl _ _ | apply zq2 | apply zq3 | apply zq4 | apply zq5))).step hb); clear HS hb; have HS := m_; clear m_))
    go_ret
    exact ⟨rfl, HS.out.bel⟩
theorem StoreFull_said (n : Int) (W : World) (_h : (Lit.int .i64 n).wf = true) : Calls Try.prog 15 #[.int .i64 n] W fun e W' => e = .returned (.bool true) ∧ Below W.heap.size W W' := StoreFull_ok n W
theorem cutE_seg (W : World) (E : Option Addr) (c : Nat) (es : List S29) (x0 x1 : Int) (hC : Kd.C k29 W E es.length es) (hc : es.length ≤ c) (h0 : 0 ≤ x0) (h1 : x0 ≤ x1) (h2 : x1 ≤ es.length) :
    ∃ B d, (∀ W1 : World, (Instr.slice 47 (.slice E es.length c) (some (.int .i64 x0)) (some (.int .i64 x1)) none).run Try.prog W1 = .ok (.slice B ((es.take x1.toNat).drop x0.toNat).length d) W1) ∧
      ∀ W1 : World, Kd.C k29 W1 E es.length es → Kd.C k29 W1 B ((es.take x1.toNat).drop x0.toNat).length ((es.take x1.toNat).drop x0.toNat) := by
  obtain ⟨i0, hi0, _, hsz, _⟩ := info_parts info29
  have hcut := cut_mid (P := Try.prog) 47 29 .i64 .i64 Try.underlying47 hi0 6 hsz E es.length c x0 x1 h0 h1 h2 hc
  have hml : ((es.take x1.toNat).drop x0.toNat).length = x1.toNat - x0.toNat := by rw [List.length_drop, List.length_take]; omega
  refine ⟨_, c - x0.toNat, fun W1 => ?_, fun W1 hC1 => Kd.C_mid hC1 (lo := x0.toNat) (hi := x1.toNat) (by omega) (by omega) hc⟩
  rw [hml]; exact hcut W1
theorem take_drop_one {α : Type} (es : List α) (i : Nat) (h : i < es.length) : (es.take (i + 1)).drop i = [es[i]] := by
  rw [List.take_succ_eq_append_getElem h, List.drop_left' (by rw [List.length_take]; omega)]
theorem eapp_one (l : List Int) (e : Ed) : eapp l [e] = if (eone l e).2 ≠ 0 then ([], (eone l e).2) else ((eone l e).1, 0) := by
  unfold eapp
  by_cases h1 : (chk l).2 ≠ 0
  · have h2 : eone l e = ([], (chk l).2) := by
      unfold eone ech
      rw [if_pos h1]
    rw [if_pos h1, h2, if_pos h1]
  · rw [if_neg h1, if_neg (by simp)]
    unfold eall
    by_cases h : (eone l e).2 ≠ 0
    · rw [if_pos h, if_pos h]
    · rw [if_neg h, if_neg h]
      unfold eall
      rfl
theorem lcode_nil (k : List UInt8) : lcode [] k = 161 := rfl
theorem if_pos_lk (dd : Dc) : lk [(key ⟨#[97]⟩, dd)] (key ⟨#[97]⟩) = some dd := rfl
theorem lcode_one (dd : Dc) : lcode [(key ⟨#[97]⟩, dd)] (key ⟨#[97]⟩) = 0 := rfl
theorem ltxt_mk (g : Nat) (v n : Int) (A : Option Addr) (c : Nat) (t : List Int) : ltxt [(key ⟨#[97]⟩, (⟨g, v, n, A, c, t⟩ : Dc))] (key ⟨#[97]⟩) = t := rfl
theorem ltxt_one (dd : Dc) : ltxt [(key ⟨#[97]⟩, dd)] (key ⟨#[97]⟩) = dd.txt := rfl
set_option maxRecDepth 100000 in
set_option maxHeartbeats 8000000 in
theorem StoreMakes_c (E : Option Addr) (d : Nat) (es : List S29) (A : Option Addr) (c : Nat) (l : List Int) (w : World) (hre : Kd.C k29 w E es.length es) (hd : es.length ≤ d) (he : ∀ x ∈ es, x.f2.size ≤ 1048576 ∧ x.f1.f0.f1 ≤ 9223372036854775807 ∧ x.f1.f1.f1 ≤ 9223372036854775807) (hr : Kd.C (Kd.int .u8) w A l.length l) (hc : l.length ≤ c) (hn : A = none → c = 0) (hB : Bytes l) (hs : l.length ≤ 1048576) (h1 : (chk l).2 ≠ 0) : Calls Try.prog 14 #[.slice E es.length d, .slice A l.length c] w fun e w' => e = .returned (.bool true) ∧ Below w.heap.size w w' := by
  have HF : Aside0 ((fun W => Kd.C k29 W E es.length es ∧ Kd.C (Kd.int .u8) W A l.length l) w) := ⟨⟨hre, hr⟩⟩
  have HC := Aside0.mk hc
  have HBY := Aside0.mk hB
  have HK := Aside0.mk h1
  have hs7 : l.length ≤ 140737488351232 := by omega
  obtain ⟨r, hk⟩ : ∃ r, (chk l).2 = r := ⟨_, rfl⟩
  have HKR := Aside0.mk hk
  have g1 : (r != 0) = true := bne_iff_ne.mpr (by rw [← hk]; exact h1)
  clear hre hd he hr hc hB h1 hk
  go_enter Try.func14, Try.ntmps14
  go_wp2_with (first | (go_at_call 33; refine (SNew_ok _).mono ?_; rintro e w1 ⟨s, M0, rfl, hs_, hM, hb⟩; have HS := Aside0.mk (Sto.of_new HF.out (keeps_and (keeps_C _ _ _ _) (keeps_C _ _ _ _)) hs_ hM hb); clear hs_ hM hb HF) | (go_at_call 35; refine (Open_c (HS.out.step (by repeat (first | exact Below.refl _ _ | apply zq2 | apply zq3 | apply zq4 | apply zq5))).st ⟨#[97]⟩ 0 A c l (by decide) (HS.out.step (by repeat (first | exact Below.refl _ _ | apply zq2 | apply zq3 | apply zq4 | apply zq5))).out.now.2 HC.out hn HBY.out hs7 (by decide) (by decide) HK.out).mono ?_; rintro e w2 ⟨rfl, hb⟩; rw [HKR.out]; have m_ := Aside0.mk ((HS.out.step (by repeat (first | exact Below.refl _ _ | apply zq2 | apply zq3 | apply zq4 | apply zq5))).step hb); clear HS hb; have HS := m_; clear m_) | (go_at_call 47; refine (Text_is (HS.out.step (by repeat (first | exact Below.refl _ _ | apply zq2 | apply zq3 | apply zq4 | apply zq5))).st ⟨#[97]⟩ (by decide)).mono ?_; rintro e w3 ⟨v3, rfl, hR, hb⟩; rw [lcode_nil]; clear hR; have m_ := Aside0.mk ((HS.out.step (by repeat (first | exact Below.refl _ _ | apply zq2 | apply zq3 | apply zq4 | apply zq5))).step hb); clear HS hb; have HS := m_; clear m_) | (go_at_call 49; refine (List_is (HS.out.step (by repeat (first | exact Below.refl _ _ | apply zq2 | apply zq3 | apply zq4 | apply zq5))).st (by decide)).mono ?_; rintro e w4 ⟨v4, rfl, -, hv4, hb⟩; obtain rfl := hv4 rfl; have m_ := Aside0.mk ((HS.out.step (by repeat (first | exact Below.refl _ _ | apply zq2 | apply zq3 | apply zq4 | apply zq5))).step hb); clear HS hb; have HS := m_; clear m_) | (go_at_call 42; refine (awake_ok _).mono ?_; rintro e w17 ⟨rfl, hb⟩; have m_ := Aside0.mk ((HS.out.step (by repeat (first | exact Below.refl _ _ | apply zq2 | apply zq3 | apply zq4 | apply zq5))).step hb); clear HS hb; have HS := m_; clear m_))
  go_ret
  exact ⟨rfl, HS.out.bel⟩
set_option maxRecDepth 100000 in
set_option maxHeartbeats 8000000 in
theorem StoreMakes_l (E : Option Addr) (d : Nat) (es : List S29) (A : Option Addr) (c : Nat) (l : List Int) (w : World) (hre : Kd.C k29 w E es.length es) (hd : es.length ≤ d) (he : ∀ x ∈ es, x.f2.size ≤ 1048576 ∧ x.f1.f0.f1 ≤ 9223372036854775807 ∧ x.f1.f1.f1 ≤ 9223372036854775807) (hr : Kd.C (Kd.int .u8) w A l.length l) (hc : l.length ≤ c) (hn : A = none → c = 0) (hB : Bytes l) (hs : l.length ≤ 1048576) (h1 : (chk l).2 = 0) (h8 : 8192 < l.length) : Calls Try.prog 14 #[.slice E es.length d, .slice A l.length c] w fun e w' => e = .returned (.bool true) ∧ Below w.heap.size w w' := by
  have HF : Aside0 ((fun W => Kd.C k29 W E es.length es ∧ Kd.C (Kd.int .u8) W A l.length l) w) := ⟨⟨hre, hr⟩⟩
  have HC := Aside0.mk hc
  have HBY := Aside0.mk hB
  have HK := Aside0.mk h1
  have hs7 : l.length ≤ 140737488351232 := by omega
  clear hre hd he hr hc hB h1
  go_enter Try.func14, Try.ntmps14
  go_wp2_with (first | (go_at_call 33; refine (SNew_ok _).mono ?_; rintro e w1 ⟨s, M0, rfl, hs_, hM, hb⟩; have HS := Aside0.mk (Sto.of_new HF.out (keeps_and (keeps_C _ _ _ _) (keeps_C _ _ _ _)) hs_ hM hb); clear hs_ hM hb HF) | (go_at_call 35; refine (Open_l (HS.out.step (by repeat (first | exact Below.refl _ _ | apply zq2 | apply zq3 | apply zq4 | apply zq5))).st ⟨#[97]⟩ 0 A c l (by decide) (HS.out.step (by repeat (first | exact Below.refl _ _ | apply zq2 | apply zq3 | apply zq4 | apply zq5))).out.now.2 HC.out hn HBY.out hs7 (by decide) (by decide) HK.out h8).mono ?_; rintro e w2 ⟨rfl, hb⟩; have m_ := Aside0.mk ((HS.out.step (by repeat (first | exact Below.refl _ _ | apply zq2 | apply zq3 | apply zq4 | apply zq5))).step hb); clear HS hb; have HS := m_; clear m_) | (go_at_call 47; refine (Text_is (HS.out.step (by repeat (first | exact Below.refl _ _ | apply zq2 | apply zq3 | apply zq4 | apply zq5))).st ⟨#[97]⟩ (by decide)).mono ?_; rintro e w3 ⟨v3, rfl, hR, hb⟩; rw [lcode_nil]; clear hR; have m_ := Aside0.mk ((HS.out.step (by repeat (first | exact Below.refl _ _ | apply zq2 | apply zq3 | apply zq4 | apply zq5))).step hb); clear HS hb; have HS := m_; clear m_) | (go_at_call 49; refine (List_is (HS.out.step (by repeat (first | exact Below.refl _ _ | apply zq2 | apply zq3 | apply zq4 | apply zq5))).st (by decide)).mono ?_; rintro e w4 ⟨v4, rfl, -, hv4, hb⟩; obtain rfl := hv4 rfl; have m_ := Aside0.mk ((HS.out.step (by repeat (first | exact Below.refl _ _ | apply zq2 | apply zq3 | apply zq4 | apply zq5))).step hb); clear HS hb; have HS := m_; clear m_) | (go_at_call 42; refine (awake_ok _).mono ?_; rintro e w17 ⟨rfl, hb⟩; have m_ := Aside0.mk ((HS.out.step (by repeat (first | exact Below.refl _ _ | apply zq2 | apply zq3 | apply zq4 | apply zq5))).step hb); clear HS hb; have HS := m_; clear m_))
  go_ret
  exact ⟨rfl, HS.out.bel⟩
set_option maxRecDepth 100000 in
set_option maxHeartbeats 8000000 in
theorem StoreMakes_ok (E : Option Addr) (d : Nat) (es : List S29) (A : Option Addr) (c : Nat) (l : List Int) (w : World) (hre : Kd.C k29 w E es.length es) (hd : es.length ≤ d) (he : ∀ x ∈ es, x.f2.size ≤ 1048576 ∧ x.f1.f0.f1 ≤ 9223372036854775807 ∧ x.f1.f1.f1 ≤ 9223372036854775807) (hr : Kd.C (Kd.int .u8) w A l.length l) (hc : l.length ≤ c) (hn : A = none → c = 0) (hB : Bytes l) (hs : l.length ≤ 1048576) (h1 : (chk l).2 = 0) (h8 : l.length ≤ 8192) : Calls Try.prog 14 #[.slice E es.length d, .slice A l.length c] w fun e w' => e = .returned (.bool true) ∧ Below w.heap.size w w' := by
  have HF : Aside0 ((fun W => Kd.C k29 W E es.length es ∧ Kd.C (Kd.int .u8) W A l.length l) w) := ⟨⟨hre, hr⟩⟩
  have HC := Aside0.mk hc
  have HBY := Aside0.mk hB
  have HK := Aside0.mk h1
  have HE := Aside0.mk he
  have HRE := Aside0.mk hre
  have HD := Aside0.mk hd
  clear hre hd he hr hc hB h1
  go_enter Try.func14, Try.ntmps14
  go_wp2_with (first | (go_at_call 33; refine (SNew_ok _).mono ?_; rintro e w1 ⟨s, M0, rfl, hs_, hM, hb⟩; have HS := Aside0.mk (Sto.of_new HF.out (keeps_and (keeps_C _ _ _ _) (keeps_C _ _ _ _)) hs_ hM hb); clear hs_ hM hb HF) | (go_at_call 35; refine (Open_ok (HS.out.step (by repeat (first | exact Below.refl _ _ | apply zq2 | apply zq3 | apply zq4 | apply zq5))).st ⟨#[97]⟩ 0 A c l (by decide) ((HS.out.step (by repeat (first | exact Below.refl _ _ | apply zq2 | apply zq3 | apply zq4 | apply zq5))).out.mono fun W h => h.2) HC.out hn HBY.out (by decide) (by decide) HK.out h8 rfl (by decide) (by decide)).mono ?_; rintro e w2 ⟨rfl, M1, g1, A1, c1, hs_, hg⟩; have m_ := Aside0.mk ((HS.out.step (by repeat (first | exact Below.refl _ _ | apply zq2 | apply zq3 | apply zq4 | apply zq5))).op hs_ hg); clear HS hs_ hg; have HS := m_; clear m_) | (go_at_call 17; refine (Copy_ok A c l _ (HS.out.step (by repeat (first | exact Below.refl _ _ | apply zq2 | apply zq3 | apply zq4 | apply zq5))).out.now.2 HC.out hs).mono ?_; rintro e w3 ⟨v, rfl, hR, hb⟩; have HLT := Aside0.mk (fun k hk => (HS.out.step (by repeat (first | exact Below.refl _ _ | apply zq2 | apply zq3 | apply zq4 | apply zq5))).st.lt (k := k) hk); obtain ⟨A8, c8, rfl, hl8, hn8, -⟩ := Ap.read (.inr hR); have ho := Out.of_from (own_from hR) HLT.out; have HL8 := Aside0.mk hl8; have HN8 := Aside0.mk hn8; have m_ := Aside0.mk ((((HS.out.step (by repeat (first | exact Below.refl _ _ | apply zq2 | apply zq3 | apply zq4 | apply zq5))).step hb).map fun W h => h.1).add ho); clear HS hb hR ho hl8 hn8 HLT; have HS := m_; clear m_))
  go_loopw [8, 9] (fun s8 s9 W => ∃ (i : Nat) (M : Nat → Prop) (A8 : Option Addr) (c8 : Nat) (cur : List Int) (dd : Dc), s9 = .int .i64 i ∧ s8 = .slice A8 cur.length c8 ∧ i ≤ es.length ∧ cur.length ≤ 8192 ∧ Aside0 (cur.length ≤ c8) ∧ Aside0 (A8 = none → c8 = 0) ∧ Aside0 (Bytes cur) ∧ Aside0 (dd.txt = cur) ∧ dd.ver ≤ i ∧ Aside0 (Sto w W M s [(key ⟨#[97]⟩, dd)] 1 (fun W => Kd.C (Kd.int .u8) W A8 cur.length cur ∧ Kd.C k29 W E es.length es))) (fun _ s9 _ => es.length - (intOf s9).toNat)
  case atStart => exact ⟨0, M1, A8, c8, l, _, rfl, rfl, Nat.zero_le _, h8, HL8, HN8, HBY, ⟨rfl⟩, by simp, HS⟩
  case round =>
    clear HS HL8 HN8
    obtain ⟨i, M, A8, c8, cur, dd, rfl, rfl, hi, hcl8, HL8, HN8, HBC, HDT, hdv, HS⟩ := hrel
    by_cases h1 : i < es.length
    · have g1 : decide (i < es.length) = true := decide_eq_true h1
      by_cases h2 : i < 30
      · have g2 : decide (i < 30) = true := decide_eq_true h2
        have g2' : decide ((i : Int) < 30) = true := decide_eq_true (by omega)
        have hcl : cur.length ≤ 1048576 := by omega
        have hw : wrap64 ((i : Int) + 1) = (i : Int) + 1 := by unfold wrap64; omega
        obtain ⟨B5, d5, hcut, hCX⟩ := cutE_seg w E d es i ((i : Int) + 1) HRE.out HD.out (by omega) (by omega) (by omega)
        obtain ⟨ad, e1, y0, y1, y2, y3, y4, y5⟩ := at_T29 HS.out.out.now.2 (i : Int) (by omega) (by omega)
        cases e1
        rw [Int.toNat_natCast] at y0 y1 y2 y3 y4 y5
        have hx : rd_T29 es (i : Int) = es[i] := by simp [rd_T29, List.getD, h1]
        have htd : (es.take ((i : Int) + 1).toNat).drop ((i : Int)).toNat = [rd_T29 es (i : Int)] := by
          rw [hx, show ((i : Int) + 1).toNat = i + 1 by omega, Int.toNat_natCast]
          exact take_drop_one es i h1
        rw [htd] at hcut hCX
        have HCX := Aside0.mk hCX
        obtain ⟨hx0', hx1, hx2⟩ := HE.out _ (show rd_T29 es (i : Int) ∈ es by rw [hx]; exact List.getElem_mem _)
        clear htd hx hCX
        generalize rd_T29 es (i : Int) = x at *
        have hx0 : x.f2.size ≤ 140737488351232 := by omega
        have hxs : ∀ y ∈ [x], y.f2.size ≤ 140737488351232 ∧ y.f1.f0.f1 ≤ 9223372036854775807 ∧ y.f1.f1.f1 ≤ 9223372036854775807 := fun y hy => by
          obtain rfl := List.mem_singleton.1 hy
          exact ⟨hx0, hx1, hx2⟩
        have hver : dd.ver < (i : Int) + 1 ∧ (i : Int) + 1 ≤ 9007199254740991 := by omega
        obtain ⟨out, hout⟩ : ∃ o, (ech cur (bytesOf x.f2) x.f0 x.f1.f0.f0 x.f1.f0.f1 x.f1.f1.f0 x.f1.f1.f1).2.2.1 = o := ⟨_, rfl⟩
        obtain ⟨er, her⟩ : ∃ o, (ech cur (bytesOf x.f2) x.f0 x.f1.f0.f0 x.f1.f0.f1 x.f1.f1.f0 x.f1.f1.f1).2.2.2 = o := ⟨_, rfl⟩
        have e2 : eone cur (edOf x) = (out, er) := Prod.ext hout her
        have HEO := Aside0.mk hout
        have HEE := Aside0.mk her
        have hap := eapp_one cur (edOf x)
        rw [e2] at hap
        by_cases hz : er = 0
        · rw [if_neg (by simpa using hz)] at hap
          subst hz
          have hV2 := eone_V (e := edOf x) HBC.out (bytesOf_B _) (by rw [e2])
          rw [e2] at hV2
          have HB3 := Aside0.mk hV2.2.1
          have hl3 : out.length ≤ 8192 := hV2.2.2
          have HAP : Aside0 (eapp dd.txt ([x].map edOf) = (out, 0)) := ⟨by rw [HDT.out]; exact hap⟩
          have HEQ := Aside0.mk (eq_f out (by omega))
          clear hap hV2 e2 hout her
          go_wp2_with (first | (go_at_call 23; refine (One_is A8 c8 cur x.f0 x.f1.f0.f0 x.f1.f0.f1 x.f1.f1.f0 x.f1.f1.f1 x.f2 _ (HS.out.step (by repeat (first | exact Below.refl _ _ | apply zq2 | apply zq3 | apply zq4 | apply zq5))).out.now.1 HL8.out HN8.out HBC.out hcl hx0 hx1 hx2).mono ?_; rintro e w5 ⟨v, rfl, hR, hb⟩; rw [HEO.out] at hR; rw [HEE.out]; have HLT := Aside0.mk (fun k hk => (HS.out.step (by repeat (first | exact Below.refl _ _ | apply zq2 | apply zq3 | apply zq4 | apply zq5))).st.lt (k := k) hk); obtain ⟨A3, c3, rfl, hl3, hn3, -⟩ := Ap.read (.inr hR); have ho := Out.of_from (own_from hR) HLT.out; have HL3 := Aside0.mk hl3; have HN3 := Aside0.mk hn3; have m_ := Aside0.mk (((HS.out.step (by repeat (first | exact Below.refl _ _ | apply zq2 | apply zq3 | apply zq4 | apply zq5))).step hb).add ho); clear HS hb hR ho hl3 hn3 HLT; have HS := m_; clear m_) | (go_at_call 37; refine (Change_ok (HS.out.step (by repeat (first | exact Below.refl _ _ | apply zq2 | apply zq3 | apply zq4 | apply zq5))).st ⟨#[97]⟩ (i + 1) B5 d5 [x] (by decide) (HCX.out _ (HS.out.step (by repeat (first | exact Below.refl _ _ | apply zq2 | apply zq3 | apply zq4 | apply zq5))).out.now.2.2) hxs dd (if_pos_lk dd) hver out HAP.out).mono ?_; rintro e w6 ⟨rfl, M6, A6, c6, hs_, hg⟩; have hs2 : IsStore M6 w6 s [(key ⟨#[97]⟩, ⟨dd.g, (i : Int) + 1, dd.ser, A6, c6, out⟩)] 1 := hs_; have m_ := Aside0.mk ((HS.out.step (by repeat (first | exact Below.refl _ _ | apply zq2 | apply zq3 | apply zq4 | apply zq5))).op hs2 hg); clear HS hs_ hs2 hg; have HS := m_; clear m_) | (go_at_call 47; refine (Text_is (HS.out.step (by repeat (first | exact Below.refl _ _ | apply zq2 | apply zq3 | apply zq4 | apply zq5))).st ⟨#[97]⟩ (by decide)).mono ?_; rintro e w7 ⟨v7, rfl, hR, hb⟩; rw [lcode_one]; rw [ltxt_mk] at hR; obtain ⟨A7, c7, rfl, hl7, hn7, -⟩ := Ap.read (.inr hR); have HLT := Aside0.mk (fun k hk => (HS.out.step (by repeat (first | exact Below.refl _ _ | apply zq2 | apply zq3 | apply zq4 | apply zq5))).st.lt (k := k) hk); have ho := Out.of_from (own_from hR) HLT.out; have HL7 := Aside0.mk hl7; have m_ := Aside0.mk (((HS.out.step (by repeat (first | exact Below.refl _ _ | apply zq2 | apply zq3 | apply zq4 | apply zq5))).step hb).add ho); clear HS hb hR ho hl7 hn7 HLT; have HS := m_; clear m_) | (go_at_call 20; refine (colophonref00_EqBytes.calls _ A7 c7 out A3 c3 out true _ (HS.out.step (by repeat (first | exact Below.refl _ _ | apply zq2 | apply zq3 | apply zq4 | apply zq5))).out.now.1 HL7.out (HS.out.step (by repeat (first | exact Below.refl _ _ | apply zq2 | apply zq3 | apply zq4 | apply zq5))).out.now.2.1 HL3.out HEQ.out).mono ?_; rintro e w8 ⟨rfl, hd⟩; have hb := hd.below; clear hd; have m_ := Aside0.mk ((HS.out.step (by repeat (first | exact Below.refl _ _ | apply zq2 | apply zq3 | apply zq4 | apply zq5))).step hb); clear HS hb; have HS := m_; clear m_))
          go_roundw
          case measure => simp [intOf]; omega
          case rel =>
            exact ⟨i + 1, M6, A3, c3, out, _, by simp, rfl, by omega, hl3, HL3, HN3, HB3, ⟨rfl⟩, by simp, ⟨HS.out.map fun W h => ⟨h.2.1, h.2.2.2⟩⟩⟩
        · have hz1 : (er == 0) = false := by simpa using hz
          rw [if_pos hz] at hap
          have HAP : Aside0 ((eapp dd.txt ([x].map edOf)).2 = er) := ⟨by rw [HDT.out]; show (eapp cur [edOf x]).2 = er; rw [hap]⟩
          have HEQ := Aside0.mk (eq_f cur hcl)
          clear hap e2 hout her
          go_wp2_with (first | (go_at_call 23; refine (One_is A8 c8 cur x.f0 x.f1.f0.f0 x.f1.f0.f1 x.f1.f1.f0 x.f1.f1.f1 x.f2 _ (HS.out.step (by repeat (first | exact Below.refl _ _ | apply zq2 | apply zq3 | apply zq4 | apply zq5))).out.now.1 HL8.out HN8.out HBC.out hcl hx0 hx1 hx2).mono ?_; rintro e w5 ⟨v, rfl, hR, hb⟩; rw [HEO.out] at hR; rw [HEE.out]; have HLT := Aside0.mk (fun k hk => (HS.out.step (by repeat (first | exact Below.refl _ _ | apply zq2 | apply zq3 | apply zq4 | apply zq5))).st.lt (k := k) hk); obtain ⟨A3, c3, rfl, hl3, hn3, -⟩ := Ap.read (.inr hR); have ho := Out.of_from (own_from hR) HLT.out; have HL3 := Aside0.mk hl3; have HN3 := Aside0.mk hn3; have m_ := Aside0.mk (((HS.out.step (by repeat (first | exact Below.refl _ _ | apply zq2 | apply zq3 | apply zq4 | apply zq5))).step hb).add ho); clear HS hb hR ho hl3 hn3 HLT; have HS := m_; clear m_) | (go_at_call 37; refine (Change_e (HS.out.step (by repeat (first | exact Below.refl _ _ | apply zq2 | apply zq3 | apply zq4 | apply zq5))).st ⟨#[97]⟩ (i + 1) B5 d5 [x] (by decide) (HCX.out _ (HS.out.step (by repeat (first | exact Below.refl _ _ | apply zq2 | apply zq3 | apply zq4 | apply zq5))).out.now.2.2) hxs dd (if_pos_lk dd) hver er HAP.out hz).mono ?_; rintro e w6 ⟨rfl, hb⟩; have m_ := Aside0.mk ((HS.out.step (by repeat (first | exact Below.refl _ _ | apply zq2 | apply zq3 | apply zq4 | apply zq5))).step hb); clear HS hb; have HS := m_; clear m_) | (go_at_call 47; refine (Text_is (HS.out.step (by repeat (first | exact Below.refl _ _ | apply zq2 | apply zq3 | apply zq4 | apply zq5))).st ⟨#[97]⟩ (by decide)).mono ?_; rintro e w7 ⟨v7, rfl, hR, hb⟩; rw [lcode_one]; rw [ltxt_one, HDT.out] at hR; obtain ⟨A7, c7, rfl, hl7, hn7, -⟩ := Ap.read (.inr hR); have HLT := Aside0.mk (fun k hk => (HS.out.step (by repeat (first | exact Below.refl _ _ | apply zq2 | apply zq3 | apply zq4 | apply zq5))).st.lt (k := k) hk); have ho := Out.of_from (own_from hR) HLT.out; have HL7 := Aside0.mk hl7; have m_ := Aside0.mk (((HS.out.step (by repeat (first | exact Below.refl _ _ | apply zq2 | apply zq3 | apply zq4 | apply zq5))).step hb).add ho); clear HS hb hR ho hl7 hn7 HLT; have HS := m_; clear m_) | (go_at_call 20; refine (colophonref00_EqBytes.calls _ A7 c7 cur A8 c8 cur true _ (HS.out.step (by repeat (first | exact Below.refl _ _ | apply zq2 | apply zq3 | apply zq4 | apply zq5))).out.now.1 HL7.out (HS.out.step (by repeat (first | exact Below.refl _ _ | apply zq2 | apply zq3 | apply zq4 | apply zq5))).out.now.2.2.1 HL8.out HEQ.out).mono ?_; rintro e w8 ⟨rfl, hd⟩; have hb := hd.below; clear hd; have m_ := Aside0.mk ((HS.out.step (by repeat (first | exact Below.refl _ _ | apply zq2 | apply zq3 | apply zq4 | apply zq5))).step hb); clear HS hb; have HS := m_; clear m_))
          go_roundw
          case measure => simp [intOf]; omega
          case rel =>
            exact ⟨i + 1, M, A8, c8, cur, dd, by simp, rfl, by omega, hcl8, HL8, HN8, HBC, HDT, by omega, ⟨HS.out.map fun W h => ⟨h.2.2.1, h.2.2.2⟩⟩⟩
      · have g2 : decide (i < 30) = false := decide_eq_false h2
        have g2' : decide ((i : Int) < 30) = false := decide_eq_false (by omega)
        go_wp2_with (go_at_call 42; refine (awake_ok _).mono ?_; rintro e w17 ⟨rfl, hb⟩; have m_ := Aside0.mk ((HS.out.step (by repeat (first | exact Below.refl _ _ | apply zq2 | apply zq3 | apply zq4 | apply zq5))).step hb); clear HS hb; have HS := m_; clear m_)
        go_ret
        exact ⟨rfl, HS.out.bel⟩
    · have g1 : decide (i < es.length) = false := decide_eq_false h1
      go_wp2_with (go_at_call 42; refine (awake_ok _).mono ?_; rintro e w17 ⟨rfl, hb⟩; have m_ := Aside0.mk ((HS.out.step (by repeat (first | exact Below.refl _ _ | apply zq2 | apply zq3 | apply zq4 | apply zq5))).step hb); clear HS hb; have HS := m_; clear m_)
      go_ret
      exact ⟨rfl, HS.out.bel⟩
theorem StoreMakes_row (E : Option Addr) (m d : Nat) (es : List S29) (A : Option Addr) (n c : Nat) (zs : List Int) (W : World) (g : IsEds W E m d es) (h : IsRow .u8 W A n c zs) (hb : c ≤ 1048576) :
    Calls Try.prog 14 #[.slice E m d, .slice A n c] W fun e W' => e = .returned (.bool true) ∧ Below W.heap.size W W' := by
  have hn : A = none → c = 0 := fun e => by
    subst e
    rcases h with ⟨_, _, h, _⟩ | ⟨x, h, _⟩
    · exact h
    · cases h
  obtain ⟨l, rfl, hc, hC, hw⟩ := h.reads
  obtain ⟨rfl, hd, hm, _, hre, he⟩ := g
  have hB : Bytes l := fun x hx => byte_wf (hw x hx)
  by_cases h1 : (chk l).2 = 0
  · by_cases h8 : l.length ≤ 8192
    · exact StoreMakes_ok E d es A c l W hre hd he hC hc hn hB (by omega) h1 h8
    · exact StoreMakes_l E d es A c l W hre hd he hC hc hn hB (by omega) h1 (by omega)
  · exact StoreMakes_c E d es A c l W hre hd he hC hc hn hB (by omega) h1
section
variable {M : Nat → Prop} {W : World} {s : Nat} {L : DL} {many : Int}
theorem Open_any (h : IsStore M W s L many) (u : ByteArray) (ver : Int) (A : Option Addr) (c : Nat) (l : List Int) (hu : u.size ≤ maxLen) (hro : Out M W (fun W => Kd.C (Kd.int .u8) W A l.length l)) (hc : l.length ≤ c) (hn : A = none → c = 0) (hB : Bytes l)
    (h1 : 1 ≤ u.size ∧ u.size ≤ 256) (h2 : 0 ≤ ver ∧ ver ≤ 9007199254740991) (h3 : (chk l).2 = 0) (h4 : l.length ≤ 8192) (h8 : L.length ≤ 8) (hmn : 0 ≤ many ∧ many ≤ 1000000) :
    Calls Try.prog 35 #[.pointer (some ⟨s, 0, none⟩), .string u, .int .i64 ver, .slice A l.length c] W fun e W' => ∃ (er : Int) (M' : Nat → Prop) (L' : DL) (many' : Int), e = .returned (.int .i64 er) ∧ IsStore M' W' s L' many' ∧ Grow M M' W W' ∧
      ((er = 0 ∧ lk L (key u) = none ∧ L.length < 8 ∧ many' = many + 1 ∧ ∃ g A2 c2, L' = (key u, ⟨g, ver, many + 1, A2, c2, l⟩) :: L) ∨ (er ≠ 0 ∧ L' = L ∧ many' = many)) := by
  cases hl : lk L (key u) with
  | some d =>
    refine (Open_y h u ver A c l hu hro.now hc hn hB (by omega) h1 h2 h3 h4 d hl).mono ?_
    rintro e W' ⟨rfl, hb⟩
    exact ⟨160, M, L, many, rfl, h.below hb, Grow.of_below hb, .inr ⟨by decide, rfl, rfl⟩⟩
  | none =>
    by_cases h7 : L.length < 8
    · refine (Open_ok h u ver A c l hu hro hc hn hB h1 h2 h3 h4 hl h7 hmn).mono ?_
      rintro e W' ⟨rfl, M', g, A2, c2, hs, hg⟩
      exact ⟨0, M', _, _, rfl, hs, hg, .inl ⟨rfl, rfl, h7, rfl, g, A2, c2, rfl⟩⟩
    · refine (Open_f h u ver A c l hu hro.now hc hn hB (by omega) h1 h2 h3 h4 hl (by omega)).mono ?_
      rintro e W' ⟨rfl, hb⟩
      exact ⟨7, M, L, many, rfl, h.below hb, Grow.of_below hb, .inr ⟨by decide, rfl, rfl⟩⟩
theorem Change_any (h : IsStore M W s L many) (u : ByteArray) (ver : Int) (E : Option Addr) (e2 : Nat) (es : List S29) (hu : u.size ≤ maxLen) (hre : Kd.C k29 W E es.length es) (hes : ∀ x ∈ es, x.f2.size ≤ 140737488351232 ∧ x.f1.f0.f1 ≤ 9223372036854775807 ∧ x.f1.f1.f1 ≤ 9223372036854775807) (hv : ver ≤ 9007199254740991) :
    Calls Try.prog 37 #[.pointer (some ⟨s, 0, none⟩), .string u, .int .i64 ver, .slice E es.length e2] W fun e W' => ∃ (er : Int) (M' : Nat → Prop) (L' : DL), e = .returned (.int .i64 er) ∧ IsStore M' W' s L' many ∧ Grow M M' W W' ∧
      ((er = 0 ∧ ∃ d A2 c2 out, lk L (key u) = some d ∧ d.ver < ver ∧ L' = upd L (key u) ver A2 c2 out) ∨ (er ≠ 0 ∧ L' = L)) := by
  cases hl : lk L (key u) with
  | none =>
    refine (Change_no h u ver E e2 es hu hre hes hl).mono ?_
    rintro e W' ⟨rfl, hb⟩
    exact ⟨161, M, L, rfl, h.below hb, Grow.of_below hb, .inr ⟨by decide, rfl⟩⟩
  | some d =>
    by_cases h7 : d.ver < ver
    · by_cases hz : (eapp d.txt (es.map edOf)).2 = 0
      · refine (Change_ok h u ver E e2 es hu hre hes d hl ⟨h7, hv⟩ (eapp d.txt (es.map edOf)).1 (Prod.ext rfl hz)).mono ?_
        rintro e W' ⟨rfl, M', A2, c2, hs, hg⟩
        exact ⟨0, M', _, rfl, hs, hg, .inl ⟨rfl, d, A2, c2, _, rfl, h7, rfl⟩⟩
      · refine (Change_e h u ver E e2 es hu hre hes d hl ⟨h7, hv⟩ _ rfl hz).mono ?_
        rintro e W' ⟨rfl, hb⟩
        exact ⟨_, M, L, rfl, h.below hb, Grow.of_below hb, .inr ⟨hz, rfl⟩⟩
    · refine (Change_v h u ver E e2 es hu hre hes d hl (.inl (by omega))).mono ?_
      rintro e W' ⟨rfl, hb⟩
      exact ⟨160, M, L, rfl, h.below hb, Grow.of_below hb, .inr ⟨by decide, rfl⟩⟩
theorem Close_any (h : IsStore M W s L many) (u : ByteArray) (hu : u.size ≤ maxLen) :
    Calls Try.prog 39 #[.pointer (some ⟨s, 0, none⟩), .string u] W fun e W' => ∃ (er : Int) (M' : Nat → Prop) (L' : DL), e = .returned (.int .i64 er) ∧ IsStore M' W' s L' many ∧ Grow M M' W W' ∧
      ((er = 0 ∧ (∃ d, lk L (key u) = some d) ∧ L' = rm L (key u)) ∨ (er = 161 ∧ lk L (key u) = none ∧ L' = L)) := by
  cases hl : lk L (key u) with
  | none =>
    refine (Close_no h u hu hl).mono ?_
    rintro e W' ⟨rfl, hb⟩
    exact ⟨161, M, L, rfl, h.below hb, Grow.of_below hb, .inr ⟨rfl, rfl, rfl⟩⟩
  | some d =>
    refine (Close_yes h u hu d hl).mono ?_
    rintro e W' ⟨rfl, hs, hg⟩
    exact ⟨0, M, _, rfl, hs, hg, .inl ⟨rfl, ⟨d, rfl⟩, rfl⟩⟩
end
structure Dd where
  kind : Int
  n : Int
  ver : Int
  e : S29
abbrev ddCells (x : Dd) : List Value := [.int .i64 x.kind, .int .i64 x.n, .int .i64 x.ver, .bool x.e.f0, .int .i64 x.e.f1.f0.f0, .int .i64 x.e.f1.f0.f1, .int .i64 x.e.f1.f1.f0, .int .i64 x.e.f1.f1.f1, .string x.e.f2]
theorem ed_mark (W : World) (g : Nat) (x : S29) (t : TypeId) (fr : Nat × Nat) (hg : W.heap.size = g) : Kd.C k29 (W.alloc (.cells #[.bool x.f0, .int .i64 x.f1.f0.f0, .int .i64 x.f1.f0.f1, .int .i64 x.f1.f1.f0, .int .i64 x.f1.f1.f1, .string x.f2] t fr)) (some ⟨g, 0, none⟩) [x].length [x] := by
  subst hg
  refine ⟨rfl, of_decide_eq_true rfl, fun _ => ⟨_, rfl, fun j p hj => ?_⟩⟩
  obtain ⟨hj1, rfl⟩ := List.getElem?_eq_some_iff.1 hj
  obtain rfl : j = 0 := by simpa using hj1
  refine ⟨_, rfl, k29_mk _ _, fun i u hu => ?_⟩
  rw [show (⟨W.heap.size, 0, none⟩ : Addr).add (0 * k29.sz + i) = ⟨W.heap.size, i, none⟩ by simp [Addr.add]; exact fun h => h.symm, cell_of_row _ _ i _ t fr (blk_new W _), ← Array.getElem?_toList]
  exact hu
theorem aw_Bbeg : Bytes [98, 101, 103, 105, 110, 10, 111, 102, 32, 105, 116] := by intro x hx; simp at hx; omega
theorem aw_cbeg : (chk [98, 101, 103, 105, 110, 10, 111, 102, 32, 105, 116]).2 = 0 := by decide +kernel
def DoesTo (L : DL) (many : Int) (x : Dd) (j : Nat) (er : Int) (L' : DL) (many' : Int) : Prop :=
  (x.kind % 3 = 0 → (er = 0 ∧ lk L (key (nm j)) = none ∧ L.length < 8 ∧ many' = many + 1 ∧ ∃ g A2 c2, L' = (key (nm j), ⟨g, x.ver % 60, many + 1, A2, c2, [98, 101, 103, 105, 110, 10, 111, 102, 32, 105, 116]⟩) :: L) ∨ (er ≠ 0 ∧ L' = L ∧ many' = many)) ∧
  (x.kind % 3 = 1 → many' = many ∧ ((er = 0 ∧ ∃ d A2 c2 out, lk L (key (nm j)) = some d ∧ d.ver < x.ver % 60 ∧ L' = upd L (key (nm j)) (x.ver % 60) A2 c2 out) ∨ (er ≠ 0 ∧ L' = L))) ∧
  (x.kind % 3 = 2 → many' = many ∧ ((er = 0 ∧ (∃ d, lk L (key (nm j)) = some d) ∧ L' = rm L (key (nm j))) ∨ (er = 161 ∧ lk L (key (nm j)) = none ∧ L' = L)))
section
variable {M : Nat → Prop} {W : World} {s : Nat} {L : DL} {many : Int}
set_option maxRecDepth 100000 in
set_option maxHeartbeats 8000000 in
theorem does_is (h : IsStore M W s L many) (x : Dd) (j : Nat) (hj : x.n % 10 = j) (hxe : x.e.f2.size ≤ 140737488351232 ∧ x.e.f1.f0.f1 ≤ 9223372036854775807 ∧ x.e.f1.f1.f1 ≤ 9223372036854775807) (h8 : L.length ≤ 8) (hmn : 0 ≤ many ∧ many ≤ 1000000) :
    Calls Try.prog 43 #[.pointer (some ⟨s, 0, none⟩), .agg #[.int .i64 x.kind, .int .i64 x.n, .int .i64 x.ver, .bool x.e.f0, .int .i64 x.e.f1.f0.f0, .int .i64 x.e.f1.f0.f1, .int .i64 x.e.f1.f1.f0, .int .i64 x.e.f1.f1.f1, .string x.e.f2]] W fun e W' => ∃ (er : Int) (M' : Nat → Prop) (L' : DL) (many' : Int), e = .returned (.int .i64 er) ∧ IsStore M' W' s L' many' ∧ Grow M M' W W' ∧ DoesTo L many x j er L' many' := by
  have kc := conv_lit
  have hb1 := below_alloc (Below.refl _ W) (.cells #[.int .i64 x.kind, .int .i64 x.n, .int .i64 x.ver, .bool x.e.f0, .int .i64 x.e.f1.f0.f0, .int .i64 x.e.f1.f0.f1, .int .i64 x.e.f1.f1.f0, .int .i64 x.e.f1.f1.f1, .string x.e.f2] 71)
  have HS : Aside0 (Stc W (W.alloc (.cells #[.int .i64 x.kind, .int .i64 x.n, .int .i64 x.ver, .bool x.e.f0, .int .i64 x.e.f1.f0.f0, .int .i64 x.e.f1.f0.f1, .int .i64 x.e.f1.f1.f0, .int .i64 x.e.f1.f1.f1, .string x.e.f2] 71)) M s L many (fun W1 => IsBlk W1 W.heap.size (.cells #[.int .i64 x.kind, .int .i64 x.n, .int .i64 x.ver, .bool x.e.f0, .int .i64 x.e.f1.f0.f0, .int .i64 x.e.f1.f0.f1, .int .i64 x.e.f1.f1.f0, .int .i64 x.e.f1.f1.f1, .string x.e.f2] 71) ∧ True)) := ⟨⟨hb1, h.below hb1, fun W2 h2 => ⟨(h2.blk _ (blk_lt (blk_new W _)) (fun hm => by have := h.lt hm; omega)).trans (blk_new W _), trivial⟩⟩⟩
  have k0 := Int.emod_nonneg x.kind (show (3 : Int) ≠ 0 by decide)
  have k1 := Int.emod_lt_of_pos x.kind (show (0 : Int) < 3 by decide)
  have v0 := Int.emod_nonneg x.ver (show (60 : Int) ≠ 0 by decide)
  have v1 := Int.emod_lt_of_pos x.ver (show (0 : Int) < 60 by decide)
  have B1 := bring_is x.ver 60 (by decide) (by decide)
  have B2 := bring_is x.kind 3 (by decide) (by decide)
  have hxs : ∀ y ∈ [x.e], y.f2.size ≤ 140737488351232 ∧ y.f1.f0.f1 ≤ 9223372036854775807 ∧ y.f1.f1.f1 ≤ 9223372036854775807 := fun y hy => by
    obtain rfl := List.mem_singleton.1 hy
    exact hxe
  unfold DoesTo
  generalize x.ver % 60 = v at *
  generalize x.kind % 3 = k at *
  have hv : 0 ≤ v ∧ v ≤ 9007199254740991 := by omega
  clear v0 v1 h hb1 hxe
  have c0 : (W.alloc (.cells #[.int .i64 x.kind, .int .i64 x.n, .int .i64 x.ver, .bool x.e.f0, .int .i64 x.e.f1.f0.f0, .int .i64 x.e.f1.f0.f1, .int .i64 x.e.f1.f1.f0, .int .i64 x.e.f1.f1.f1, .string x.e.f2] 71)).cell? ⟨W.heap.size, 0, none⟩ = some (.int .i64 x.kind) := HS.out.out.now.1.cell 0
  have c1 : (W.alloc (.cells #[.int .i64 x.kind, .int .i64 x.n, .int .i64 x.ver, .bool x.e.f0, .int .i64 x.e.f1.f0.f0, .int .i64 x.e.f1.f0.f1, .int .i64 x.e.f1.f1.f0, .int .i64 x.e.f1.f1.f1, .string x.e.f2] 71)).cell? ⟨W.heap.size, 1, none⟩ = some (.int .i64 x.n) := HS.out.out.now.1.cell 1
  have c2 : (W.alloc (.cells #[.int .i64 x.kind, .int .i64 x.n, .int .i64 x.ver, .bool x.e.f0, .int .i64 x.e.f1.f0.f0, .int .i64 x.e.f1.f0.f1, .int .i64 x.e.f1.f1.f0, .int .i64 x.e.f1.f1.f1, .string x.e.f2] 71)).cell? ⟨W.heap.size, 2, none⟩ = some (.int .i64 x.ver) := HS.out.out.now.1.cell 2
  have c3 : (W.alloc (.cells #[.int .i64 x.kind, .int .i64 x.n, .int .i64 x.ver, .bool x.e.f0, .int .i64 x.e.f1.f0.f0, .int .i64 x.e.f1.f0.f1, .int .i64 x.e.f1.f1.f0, .int .i64 x.e.f1.f1.f1, .string x.e.f2] 71)).cell? ⟨W.heap.size, 3, none⟩ = some (.bool x.e.f0) := HS.out.out.now.1.cell 3
  have c4 : (W.alloc (.cells #[.int .i64 x.kind, .int .i64 x.n, .int .i64 x.ver, .bool x.e.f0, .int .i64 x.e.f1.f0.f0, .int .i64 x.e.f1.f0.f1, .int .i64 x.e.f1.f1.f0, .int .i64 x.e.f1.f1.f1, .string x.e.f2] 71)).cell? ⟨W.heap.size, 4, none⟩ = some (.int .i64 x.e.f1.f0.f0) := HS.out.out.now.1.cell 4
  have c5 : (W.alloc (.cells #[.int .i64 x.kind, .int .i64 x.n, .int .i64 x.ver, .bool x.e.f0, .int .i64 x.e.f1.f0.f0, .int .i64 x.e.f1.f0.f1, .int .i64 x.e.f1.f1.f0, .int .i64 x.e.f1.f1.f1, .string x.e.f2] 71)).cell? ⟨W.heap.size, 5, none⟩ = some (.int .i64 x.e.f1.f0.f1) := HS.out.out.now.1.cell 5
  have c6 : (W.alloc (.cells #[.int .i64 x.kind, .int .i64 x.n, .int .i64 x.ver, .bool x.e.f0, .int .i64 x.e.f1.f0.f0, .int .i64 x.e.f1.f0.f1, .int .i64 x.e.f1.f1.f0, .int .i64 x.e.f1.f1.f1, .string x.e.f2] 71)).cell? ⟨W.heap.size, 6, none⟩ = some (.int .i64 x.e.f1.f1.f0) := HS.out.out.now.1.cell 6
  have c7 : (W.alloc (.cells #[.int .i64 x.kind, .int .i64 x.n, .int .i64 x.ver, .bool x.e.f0, .int .i64 x.e.f1.f0.f0, .int .i64 x.e.f1.f0.f1, .int .i64 x.e.f1.f1.f0, .int .i64 x.e.f1.f1.f1, .string x.e.f2] 71)).cell? ⟨W.heap.size, 7, none⟩ = some (.int .i64 x.e.f1.f1.f1) := HS.out.out.now.1.cell 7
  have c8 : (W.alloc (.cells #[.int .i64 x.kind, .int .i64 x.n, .int .i64 x.ver, .bool x.e.f0, .int .i64 x.e.f1.f0.f0, .int .i64 x.e.f1.f0.f1, .int .i64 x.e.f1.f1.f0, .int .i64 x.e.f1.f1.f1, .string x.e.f2] 71)).cell? ⟨W.heap.size, 8, none⟩ = some (.string x.e.f2) := HS.out.out.now.1.cell 8
  have t1 := True.intro
  have t2 := True.intro
  have hk : k = 0 ∨ k = 1 ∨ k = 2 := by omega
  clear k0 k1
  rcases hk with rfl | rfl | rfl
  · go_enter Try.func43, Try.ntmps43
    go_wp2_with (first | (have _t := t1; go_at_call 29; refine (colophonref00_Bring.calls x.ver 60 _ _ B1).mono ?_; rintro e w2 ⟨rfl, hd⟩; have hb := hd.below; clear hd; have m_ := Aside0.mk ((HS.out.step (by repeat (first | exact Below.refl _ _ | apply zq2 | apply zq3 | apply zq4 | apply zq5))).step hb); clear HS hb; have HS := m_; clear m_; have c0 : w2.cell? ⟨W.heap.size, 0, none⟩ = some (.int .i64 x.kind) := HS.out.out.now.1.cell 0; have c1 : w2.cell? ⟨W.heap.size, 1, none⟩ = some (.int .i64 x.n) := HS.out.out.now.1.cell 1; have c2 : w2.cell? ⟨W.heap.size, 2, none⟩ = some (.int .i64 x.ver) := HS.out.out.now.1.cell 2; have c3 : w2.cell? ⟨W.heap.size, 3, none⟩ = some (.bool x.e.f0) := HS.out.out.now.1.cell 3; have c4 : w2.cell? ⟨W.heap.size, 4, none⟩ = some (.int .i64 x.e.f1.f0.f0) := HS.out.out.now.1.cell 4; have c5 : w2.cell? ⟨W.heap.size, 5, none⟩ = some (.int .i64 x.e.f1.f0.f1) := HS.out.out.now.1.cell 5; have c6 : w2.cell? ⟨W.heap.size, 6, none⟩ = some (.int .i64 x.e.f1.f1.f0) := HS.out.out.now.1.cell 6; have c7 : w2.cell? ⟨W.heap.size, 7, none⟩ = some (.int .i64 x.e.f1.f1.f1) := HS.out.out.now.1.cell 7; have c8 : w2.cell? ⟨W.heap.size, 8, none⟩ = some (.string x.e.f2) := HS.out.out.now.1.cell 8; clear t1 _t) | (have _t := t2; go_at_call 29; refine (colophonref00_Bring.calls x.kind 3 _ _ B2).mono ?_; rintro e w2 ⟨rfl, hd⟩; have hb := hd.below; clear hd; have m_ := Aside0.mk ((HS.out.step (by repeat (first | exact Below.refl _ _ | apply zq2 | apply zq3 | apply zq4 | apply zq5))).step hb); clear HS hb; have HS := m_; clear m_; have c0 : w2.cell? ⟨W.heap.size, 0, none⟩ = some (.int .i64 x.kind) := HS.out.out.now.1.cell 0; have c1 : w2.cell? ⟨W.heap.size, 1, none⟩ = some (.int .i64 x.n) := HS.out.out.now.1.cell 1; have c2 : w2.cell? ⟨W.heap.size, 2, none⟩ = some (.int .i64 x.ver) := HS.out.out.now.1.cell 2; have c3 : w2.cell? ⟨W.heap.size, 3, none⟩ = some (.bool x.e.f0) := HS.out.out.now.1.cell 3; have c4 : w2.cell? ⟨W.heap.size, 4, none⟩ = some (.int .i64 x.e.f1.f0.f0) := HS.out.out.now.1.cell 4; have c5 : w2.cell? ⟨W.heap.size, 5, none⟩ = some (.int .i64 x.e.f1.f0.f1) := HS.out.out.now.1.cell 5; have c6 : w2.cell? ⟨W.heap.size, 6, none⟩ = some (.int .i64 x.e.f1.f1.f0) := HS.out.out.now.1.cell 6; have c7 : w2.cell? ⟨W.heap.size, 7, none⟩ = some (.int .i64 x.e.f1.f1.f1) := HS.out.out.now.1.cell 7; have c8 : w2.cell? ⟨W.heap.size, 8, none⟩ = some (.string x.e.f2) := HS.out.out.now.1.cell 8; clear t2 _t) | (go_at_call 45; refine (name_is x.n j hj _).mono ?_; rintro e w3 ⟨rfl, hb⟩; have m_ := Aside0.mk ((HS.out.step (by repeat (first | exact Below.refl _ _ | apply zq2 | apply zq3 | apply zq4 | apply zq5))).step hb); clear HS hb; have HS := m_; clear m_; have c0 : w3.cell? ⟨W.heap.size, 0, none⟩ = some (.int .i64 x.kind) := HS.out.out.now.1.cell 0; have c1 : w3.cell? ⟨W.heap.size, 1, none⟩ = some (.int .i64 x.n) := HS.out.out.now.1.cell 1; have c2 : w3.cell? ⟨W.heap.size, 2, none⟩ = some (.int .i64 x.ver) := HS.out.out.now.1.cell 2; have c3 : w3.cell? ⟨W.heap.size, 3, none⟩ = some (.bool x.e.f0) := HS.out.out.now.1.cell 3; have c4 : w3.cell? ⟨W.heap.size, 4, none⟩ = some (.int .i64 x.e.f1.f0.f0) := HS.out.out.now.1.cell 4; have c5 : w3.cell? ⟨W.heap.size, 5, none⟩ = some (.int .i64 x.e.f1.f0.f1) := HS.out.out.now.1.cell 5; have c6 : w3.cell? ⟨W.heap.size, 6, none⟩ = some (.int .i64 x.e.f1.f1.f0) := HS.out.out.now.1.cell 6; have c7 : w3.cell? ⟨W.heap.size, 7, none⟩ = some (.int .i64 x.e.f1.f1.f1) := HS.out.out.now.1.cell 7; have c8 : w3.cell? ⟨W.heap.size, 8, none⟩ = some (.string x.e.f2) := HS.out.out.now.1.cell 8) | (go_at_call 35; refine (Open_any (HS.out.step (by repeat (first | exact Below.refl _ _ | apply zq2 | apply zq3 | apply zq4 | apply zq5))).st (nm j) v _ _ [98, 101, 103, 105, 110, 10, 111, 102, 32, 105, 116] (nm_sz j) (lit_out HS.out.st _ [98, 101, 103, 105, 110, 10, 111, 102, 32, 105, 116] #[.int .u8 98, .int .u8 101, .int .u8 103, .int .u8 105, .int .u8 110, .int .u8 10, .int .u8 111, .int .u8 102, .int .u8 32, .int .u8 105, .int .u8 116] 5 (11, 12) rfl rfl (by decide)) (Nat.le_refl _) (fun e => nomatch e) aw_Bbeg (nm_len j) hv aw_cbeg (by decide) h8 hmn).mono ?_; rintro e w4 ⟨er, M', L', many', rfl, hs, hg, hto⟩; have HTO := Aside0.mk hto; have HS4 := Aside0.mk hs; have HG4 := Aside0.mk hg; have HB4 := Aside0.mk HS.out.bel; clear hs hg hto))
    go_ret
    exact ⟨er, M', L', many', rfl, HS4.out, (Grow.of_below (below_step HB4.out (below_alloc (Below.refl _ _) _))).trans HG4.out, fun _ => HTO.out, fun h => absurd h (by decide), fun h => absurd h (by decide)⟩
  · go_enter Try.func43, Try.ntmps43
    go_upto_region 6 with (first | (have _t := t1; go_at_call 29; refine (colophonref00_Bring.calls x.ver 60 _ _ B1).mono ?_; rintro e w2 ⟨rfl, hd⟩; have hb := hd.below; clear hd; have m_ := Aside0.mk ((HS.out.step (by repeat (first | exact Below.refl _ _ | apply zq2 | apply zq3 | apply zq4 | apply zq5))).step hb); clear HS hb; have HS := m_; clear m_; have c0 : w2.cell? ⟨W.heap.size, 0, none⟩ = some (.int .i64 x.kind) := HS.out.out.now.1.cell 0; have c1 : w2.cell? ⟨W.heap.size, 1, none⟩ = some (.int .i64 x.n) := HS.out.out.now.1.cell 1; have c2 : w2.cell? ⟨W.heap.size, 2, none⟩ = some (.int .i64 x.ver) := HS.out.out.now.1.cell 2; have c3 : w2.cell? ⟨W.heap.size, 3, none⟩ = some (.bool x.e.f0) := HS.out.out.now.1.cell 3; have c4 : w2.cell? ⟨W.heap.size, 4, none⟩ = some (.int .i64 x.e.f1.f0.f0) := HS.out.out.now.1.cell 4; have c5 : w2.cell? ⟨W.heap.size, 5, none⟩ = some (.int .i64 x.e.f1.f0.f1) := HS.out.out.now.1.cell 5; have c6 : w2.cell? ⟨W.heap.size, 6, none⟩ = some (.int .i64 x.e.f1.f1.f0) := HS.out.out.now.1.cell 6; have c7 : w2.cell? ⟨W.heap.size, 7, none⟩ = some (.int .i64 x.e.f1.f1.f1) := HS.out.out.now.1.cell 7; have c8 : w2.cell? ⟨W.heap.size, 8, none⟩ = some (.string x.e.f2) := HS.out.out.now.1.cell 8; clear t1 _t) | (have _t := t2; go_at_call 29; refine (colophonref00_Bring.calls x.kind 3 _ _ B2).mono ?_; rintro e w2 ⟨rfl, hd⟩; have hb := hd.below; clear hd; have m_ := Aside0.mk ((HS.out.step (by repeat (first | exact Below.refl _ _ | apply zq2 | apply zq3 | apply zq4 | apply zq5))).step hb); clear HS hb; have HS := m_; clear m_; have c0 : w2.cell? ⟨W.heap.size, 0, none⟩ = some (.int .i64 x.kind) := HS.out.out.now.1.cell 0; have c1 : w2.cell? ⟨W.heap.size, 1, none⟩ = some (.int .i64 x.n) := HS.out.out.now.1.cell 1; have c2 : w2.cell? ⟨W.heap.size, 2, none⟩ = some (.int .i64 x.ver) := HS.out.out.now.1.cell 2; have c3 : w2.cell? ⟨W.heap.size, 3, none⟩ = some (.bool x.e.f0) := HS.out.out.now.1.cell 3; have c4 : w2.cell? ⟨W.heap.size, 4, none⟩ = some (.int .i64 x.e.f1.f0.f0) := HS.out.out.now.1.cell 4; have c5 : w2.cell? ⟨W.heap.size, 5, none⟩ = some (.int .i64 x.e.f1.f0.f1) := HS.out.out.now.1.cell 5; have c6 : w2.cell? ⟨W.heap.size, 6, none⟩ = some (.int .i64 x.e.f1.f1.f0) := HS.out.out.now.1.cell 6; have c7 : w2.cell? ⟨W.heap.size, 7, none⟩ = some (.int .i64 x.e.f1.f1.f1) := HS.out.out.now.1.cell 7; have c8 : w2.cell? ⟨W.heap.size, 8, none⟩ = some (.string x.e.f2) := HS.out.out.now.1.cell 8; clear t2 _t))
    have HEA := Aside0.mk (ed_mark w2 w2.heap.size x.e 29 (0, 0) rfl)
    have HEB := Aside0.mk (ed_mark w2.drew w2.heap.size x.e 29 (0, 0) rfl)
    have HEC := Aside0.mk (Kd.C_drew HEA.out)
    have d0 := Nat.ne_of_lt (World.block_lt_of_cell? _ _ c0)
    have d1 := Ne.symm d0
    go_region_held3 (fun wx => wx.cell? ⟨W.heap.size, 1, none⟩ = some (.int .i64 x.n) ∧ wx.cell? ⟨W.heap.size, 3, none⟩ = some (.bool x.e.f0) ∧ wx.cell? ⟨W.heap.size, 4, none⟩ = some (.int .i64 x.e.f1.f0.f0) ∧ wx.cell? ⟨W.heap.size, 5, none⟩ = some (.int .i64 x.e.f1.f0.f1) ∧ wx.cell? ⟨W.heap.size, 6, none⟩ = some (.int .i64 x.e.f1.f1.f0) ∧ wx.cell? ⟨W.heap.size, 7, none⟩ = some (.int .i64 x.e.f1.f1.f1) ∧ wx.cell? ⟨W.heap.size, 8, none⟩ = some (.string x.e.f2)) (go_keep) (first | (go_at_call 45; refine (name_is x.n j hj _).mono ?_; rintro e w6 ⟨rfl, hb⟩; (try (first | (with_reducible have he_ := Kd.C_below HEA.out hb) | (with_reducible have he_ := Kd.C_below HEB.out hb) | (with_reducible have he_ := Kd.C_below HEC.out hb)); have HE0 := Aside0.mk he_; clear he_); have HE1 := Aside0.mk (ed_mark w6 w6.heap.size x.e 29 (0, 0) rfl); have HE2 := Aside0.mk (ed_mark w6.drew w6.heap.size x.e 29 (0, 0) rfl); have m_ := Aside0.mk ((HS.out.step (by repeat (first | exact Below.refl _ _ | apply zq2 | apply zq3 | apply zq4 | apply zq5))).step hb); clear HS hb; have HS := m_; clear m_; have c0 : w6.cell? ⟨W.heap.size, 0, none⟩ = some (.int .i64 x.kind) := HS.out.out.now.1.cell 0; have c1 : w6.cell? ⟨W.heap.size, 1, none⟩ = some (.int .i64 x.n) := HS.out.out.now.1.cell 1; have c2 : w6.cell? ⟨W.heap.size, 2, none⟩ = some (.int .i64 x.ver) := HS.out.out.now.1.cell 2; have c3 : w6.cell? ⟨W.heap.size, 3, none⟩ = some (.bool x.e.f0) := HS.out.out.now.1.cell 3; have c4 : w6.cell? ⟨W.heap.size, 4, none⟩ = some (.int .i64 x.e.f1.f0.f0) := HS.out.out.now.1.cell 4; have c5 : w6.cell? ⟨W.heap.size, 5, none⟩ = some (.int .i64 x.e.f1.f0.f1) := HS.out.out.now.1.cell 5; have c6 : w6.cell? ⟨W.heap.size, 6, none⟩ = some (.int .i64 x.e.f1.f1.f0) := HS.out.out.now.1.cell 6; have c7 : w6.cell? ⟨W.heap.size, 7, none⟩ = some (.int .i64 x.e.f1.f1.f1) := HS.out.out.now.1.cell 7; have c8 : w6.cell? ⟨W.heap.size, 8, none⟩ = some (.string x.e.f2) := HS.out.out.now.1.cell 8) | (go_at_call 37; refine (Change_any (HS.out.step (by repeat (first | exact Below.refl _ _ | apply zq2 | apply zq3 | apply zq4 | apply zq5))).st (nm j) v _ 1 [x.e] (nm_sz j) (by repeat (first | with_reducible exact HE0.out | with_reducible exact HE1.out | with_reducible exact HE2.out | with_reducible refine Kd.C_drew ?_)) hxs hv.2).mono ?_; rintro e w5 ⟨er, M', L', rfl, hs, hg, hto⟩; have hk5 := (((HS.out.step (by repeat (first | exact Below.refl _ _ | apply zq2 | apply zq3 | apply zq4 | apply zq5)))).out.grow hg).now.1; have e1 : w5.cell? ⟨W.heap.size, 1, none⟩ = some (.int .i64 x.n) := hk5.cell 1; have e3 : w5.cell? ⟨W.heap.size, 3, none⟩ = some (.bool x.e.f0) := hk5.cell 3; have e4 : w5.cell? ⟨W.heap.size, 4, none⟩ = some (.int .i64 x.e.f1.f0.f0) := hk5.cell 4; have e5 : w5.cell? ⟨W.heap.size, 5, none⟩ = some (.int .i64 x.e.f1.f0.f1) := hk5.cell 5; have e6 : w5.cell? ⟨W.heap.size, 6, none⟩ = some (.int .i64 x.e.f1.f1.f0) := hk5.cell 6; have e7 : w5.cell? ⟨W.heap.size, 7, none⟩ = some (.int .i64 x.e.f1.f1.f1) := hk5.cell 7; have e8 : w5.cell? ⟨W.heap.size, 8, none⟩ = some (.string x.e.f2) := hk5.cell 8; clear hk5; have HTO := Aside0.mk hto; have HS4 := Aside0.mk hs; have HG4 := Aside0.mk hg; have HB4 := Aside0.mk HS.out.bel; clear hs hg hto))
    all_goals
      go_wp2
      go_ret
      exact ⟨er, M', L', many, rfl, HS4.out, (Grow.of_below (below_step HB4.out (by repeat (first | exact Below.refl _ _ | apply zq2 | apply zq3 | apply zq4 | apply zq5)))).trans HG4.out, fun h => absurd h (by decide), fun _ => ⟨rfl, HTO.out⟩, fun h => absurd h (by decide)⟩
  · go_enter Try.func43, Try.ntmps43
    go_wp2_with (first | (have _t := t1; go_at_call 29; refine (colophonref00_Bring.calls x.ver 60 _ _ B1).mono ?_; rintro e w2 ⟨rfl, hd⟩; have hb := hd.below; clear hd; have m_ := Aside0.mk ((HS.out.step (by repeat (first | exact Below.refl _ _ | apply zq2 | apply zq3 | apply zq4 | apply zq5))).step hb); clear HS hb; have HS := m_; clear m_; have c0 : w2.cell? ⟨W.heap.size, 0, none⟩ = some (.int .i64 x.kind) := HS.out.out.now.1.cell 0; have c1 : w2.cell? ⟨W.heap.size, 1, none⟩ = some (.int .i64 x.n) := HS.out.out.now.1.cell 1; have c2 : w2.cell? ⟨W.heap.size, 2, none⟩ = some (.int .i64 x.ver) := HS.out.out.now.1.cell 2; have c3 : w2.cell? ⟨W.heap.size, 3, none⟩ = some (.bool x.e.f0) := HS.out.out.now.1.cell 3; have c4 : w2.cell? ⟨W.heap.size, 4, none⟩ = some (.int .i64 x.e.f1.f0.f0) := HS.out.out.now.1.cell 4; have c5 : w2.cell? ⟨W.heap.size, 5, none⟩ = some (.int .i64 x.e.f1.f0.f1) := HS.out.out.now.1.cell 5; have c6 : w2.cell? ⟨W.heap.size, 6, none⟩ = some (.int .i64 x.e.f1.f1.f0) := HS.out.out.now.1.cell 6; have c7 : w2.cell? ⟨W.heap.size, 7, none⟩ = some (.int .i64 x.e.f1.f1.f1) := HS.out.out.now.1.cell 7; have c8 : w2.cell? ⟨W.heap.size, 8, none⟩ = some (.string x.e.f2) := HS.out.out.now.1.cell 8; clear t1 _t) | (have _t := t2; go_at_call 29; refine (colophonref00_Bring.calls x.kind 3 _ _ B2).mono ?_; rintro e w2 ⟨rfl, hd⟩; have hb := hd.below; clear hd; have m_ := Aside0.mk ((HS.out.step (by repeat (first | exact Below.refl _ _ | apply zq2 | apply zq3 | apply zq4 | apply zq5))).step hb); clear HS hb; have HS := m_; clear m_; have c0 : w2.cell? ⟨W.heap.size, 0, none⟩ = some (.int .i64 x.kind) := HS.out.out.now.1.cell 0; have c1 : w2.cell? ⟨W.heap.size, 1, none⟩ = some (.int .i64 x.n) := HS.out.out.now.1.cell 1; have c2 : w2.cell? ⟨W.heap.size, 2, none⟩ = some (.int .i64 x.ver) := HS.out.out.now.1.cell 2; have c3 : w2.cell? ⟨W.heap.size, 3, none⟩ = some (.bool x.e.f0) := HS.out.out.now.1.cell 3; have c4 : w2.cell? ⟨W.heap.size, 4, none⟩ = some (.int .i64 x.e.f1.f0.f0) := HS.out.out.now.1.cell 4; have c5 : w2.cell? ⟨W.heap.size, 5, none⟩ = some (.int .i64 x.e.f1.f0.f1) := HS.out.out.now.1.cell 5; have c6 : w2.cell? ⟨W.heap.size, 6, none⟩ = some (.int .i64 x.e.f1.f1.f0) := HS.out.out.now.1.cell 6; have c7 : w2.cell? ⟨W.heap.size, 7, none⟩ = some (.int .i64 x.e.f1.f1.f1) := HS.out.out.now.1.cell 7; have c8 : w2.cell? ⟨W.heap.size, 8, none⟩ = some (.string x.e.f2) := HS.out.out.now.1.cell 8; clear t2 _t) | (go_at_call 45; refine (name_is x.n j hj _).mono ?_; rintro e w3 ⟨rfl, hb⟩; have m_ := Aside0.mk ((HS.out.step (by repeat (first | exact Below.refl _ _ | apply zq2 | apply zq3 | apply zq4 | apply zq5))).step hb); clear HS hb; have HS := m_; clear m_; have c0 : w3.cell? ⟨W.heap.size, 0, none⟩ = some (.int .i64 x.kind) := HS.out.out.now.1.cell 0; have c1 : w3.cell? ⟨W.heap.size, 1, none⟩ = some (.int .i64 x.n) := HS.out.out.now.1.cell 1; have c2 : w3.cell? ⟨W.heap.size, 2, none⟩ = some (.int .i64 x.ver) := HS.out.out.now.1.cell 2; have c3 : w3.cell? ⟨W.heap.size, 3, none⟩ = some (.bool x.e.f0) := HS.out.out.now.1.cell 3; have c4 : w3.cell? ⟨W.heap.size, 4, none⟩ = some (.int .i64 x.e.f1.f0.f0) := HS.out.out.now.1.cell 4; have c5 : w3.cell? ⟨W.heap.size, 5, none⟩ = some (.int .i64 x.e.f1.f0.f1) := HS.out.out.now.1.cell 5; have c6 : w3.cell? ⟨W.heap.size, 6, none⟩ = some (.int .i64 x.e.f1.f1.f0) := HS.out.out.now.1.cell 6; have c7 : w3.cell? ⟨W.heap.size, 7, none⟩ = some (.int .i64 x.e.f1.f1.f1) := HS.out.out.now.1.cell 7; have c8 : w3.cell? ⟨W.heap.size, 8, none⟩ = some (.string x.e.f2) := HS.out.out.now.1.cell 8) | (go_at_call 39; refine (Close_any (HS.out.step (by repeat (first | exact Below.refl _ _ | apply zq2 | apply zq3 | apply zq4 | apply zq5))).st (nm j) (nm_sz j)).mono ?_; rintro e w4 ⟨er, M', L', rfl, hs, hg, hto⟩; have HTO := Aside0.mk hto; have HS4 := Aside0.mk hs; have HG4 := Aside0.mk hg; have HB4 := Aside0.mk HS.out.bel; clear hs hg hto))
    go_ret
    exact ⟨er, M', L', many, rfl, HS4.out, (Grow.of_below HB4.out).trans HG4.out, fun h => absurd h (by decide), fun h => absurd h (by decide), fun _ => ⟨rfl, HTO.out⟩⟩
end
end Go.Proofs.Ytjebkpcekkkbkaa.B
namespace Go.Proofs.Ytjebkpcekkkbkaa.B
open Go.RowKit Go.ChangeShapes Go.WideShapes Go.Joins Go.Deep Go.Proofs.YtjebkpcekkkbkaaW.PrintWords Go.Proofs.Ytjebkpcekkkbkaa.FBase
section
variable {H : Type} {enc : TypeId × Value → H} {W : World} {base : Nat} {spare : Nat → Bool} {held : Bool}
set_option maxRecDepth 100000 in
theorem trod_deed {fuel : Nat} {cs : List Value} {x : DataW H × List MemPlace} (h : DataW.trod enc Try.prog W base spare held fuel 71 cs = some x) :
    ∃ (d : Dd) (y z0 z1 z2 : DataW H), cs = ddCells d ∧ x.1 = .agg [z0, z1, z2, .agg [.lit (.bool d.e.f0), y, .lit (.string d.e.f2.data.toList)]] ∧ (Lit.int .i64 d.e.f1.f0.f1).wf = true ∧ (Lit.int .i64 d.e.f1.f1.f1).wf = true := by
  obtain ⟨y0, y1, y2, y3, n, hx, hl, h0, h1, h2, h3⟩ := trod_struct4 Try.underlying71 h
  have hE : Try.prog.cellsOf 71 = 9 := by kernel_rfl
  have c1 : Try.prog.cellsOf 3 = 1 := by kernel_rfl
  have c6 : Try.prog.cellsOf 29 = 6 := by kernel_rfl
  match cs, hl.trans hE with
  | [v0, v1, v2, v3, v4, v5, v6, v7, v8], _ =>
    simp [c1, c6] at h0 h1 h2 h3
    obtain ⟨x0, q0, rfl, w0⟩ := DataW.trod_int Try.underlying3 h0
    obtain ⟨x1, q1, rfl, w1⟩ := DataW.trod_int Try.underlying3 h1
    obtain ⟨x2, q2, rfl, w2⟩ := DataW.trod_int Try.underlying3 h2
    obtain ⟨b, a0, a1, a2, a3, s, y, q3, hy, e0, e1, e2, e3, hs⟩ := trod_edit h3
    cases q0
    cases q1
    cases q2
    cases q3
    exact ⟨⟨x0, x1, x2, ⟨b, ⟨⟨a0, a1⟩, ⟨a2, a3⟩⟩, s⟩⟩, y, _, _, _, rfl, by rw [hx, hy], e1, e3⟩
def IsDeeds (W : World) (E : Option Addr) (len cap : Nat) (ds : List Dd) : Prop :=
  ds.length = len ∧ len ≤ cap ∧ (E = none → cap = 0) ∧ (∀ i (h : i < ds.length), ∃ a, E = some a ∧ ∀ j u, (ddCells ds[i])[j]? = some u → W.cell? (a.add (i * 9 + j)) = some u) ∧
    ∀ x ∈ ds, x.e.f2.size ≤ 1048576 ∧ x.e.f1.f0.f1 ≤ 9223372036854775807 ∧ x.e.f1.f1.f1 ≤ 9223372036854775807
set_option maxRecDepth 100000 in
theorem open_deeds {fuel : Nat} {E : Option Addr} {len cap : Nat} {x : DataW H × List MemPlace} (h : DataW.trod enc Try.prog W base spare held fuel 68 [.slice E len cap] = some x) (hk : Rows.uptoBulk x.1 ≤ 1048576) :
    ∃ es, IsDeeds W E len cap es := by
  rcases open_slice Try.underlying68 h with ⟨hcs, _⟩ | ⟨a, len', cap', m, n, D, Pl, hcs, hb, hl, hm, hmm, rfl, hx⟩
  · obtain ⟨rfl, rfl, rfl⟩ : E = none ∧ len = 0 ∧ cap = 0 := by simpa using hcs
    exact ⟨[], rfl, Nat.le_refl _, fun _ => rfl, fun i h => absurd h (Nat.not_lt_zero _), fun x hx => nomatch hx⟩
  · obtain ⟨rfl, rfl, rfl⟩ : E = some a ∧ len = len' ∧ cap = cap' := by simpa using hcs
    clear hcs
    have hlm : len ≤ m := by rw [hmm]; split <;> omega
    have h9 : Try.prog.cellsOf 71 = 9 := by kernel_rfl
    have hse := bulks.slice_elems (H := H) ((List.range len).map D) ((List.range (m - len)).map fun j => D (len + j))
    have key : ∀ i, i < len → ∃ x : Dd, (∀ j u, (ddCells x)[j]? = some u → W.cell? (a.add (i * 9 + j)) = some u) ∧ x.e.f2.size ≤ 1048576 ∧ x.e.f1.f0.f1 ≤ 9223372036854775807 ∧ x.e.f1.f1.f1 ≤ 9223372036854775807 := by
      intro i hi
      obtain ⟨cs', h1, h2⟩ := hx i (by omega)
      obtain ⟨d, y, z0, z1, z2, rfl, hd, w1, w3⟩ := trod_deed h2
      obtain ⟨_, hlen, hcell⟩ := World.cells?_some h1
      refine ⟨d, fun j u hj => ?_, ?_, (int_wf w1).2, (int_wf w3).2⟩
      · have hj9 : j < 9 := by
          have := (List.getElem?_eq_some_iff.1 hj).1
          simpa using this
        have := hcell j (by rw [h9]; exact hj9)
        rw [addr_add, h9] at this
        rw [this]
        exact hj
      · have hD : D i ∈ (List.range len).map D := List.mem_map.2 ⟨i, List.mem_range.2 hi, rfl⟩
        have p1 := bulks.part_le hD
        rw [show D i = .agg [z0, z1, z2, .agg [.lit (.bool d.e.f0), y, .lit (.string d.e.f2.data.toList)]] from hd] at p1
        have p2 : Rows.uptoBulkAll [z0, z1, z2, .agg [DataW.lit (H := H) (.bool d.e.f0), y, .lit (.string d.e.f2.data.toList)]] ≤ Rows.uptoBulk (.agg [z0, z1, z2, .agg [DataW.lit (H := H) (.bool d.e.f0), y, .lit (.string d.e.f2.data.toList)]]) := by simp [Rows.uptoBulk]
        have p3 := bulks.part_le (H := H) (d := .agg [DataW.lit (H := H) (.bool d.e.f0), y, .lit (.string d.e.f2.data.toList)]) (l := [z0, z1, z2, .agg [DataW.lit (H := H) (.bool d.e.f0), y, .lit (.string d.e.f2.data.toList)]]) (by simp)
        have p4 : Rows.uptoBulkAll [DataW.lit (H := H) (.bool d.e.f0), y, .lit (.string d.e.f2.data.toList)] ≤ Rows.uptoBulk (.agg [DataW.lit (H := H) (.bool d.e.f0), y, .lit (.string d.e.f2.data.toList)]) := by simp [Rows.uptoBulk]
        have p5 := bulks.part_le (H := H) (d := .lit (.string d.e.f2.data.toList)) (l := [DataW.lit (H := H) (.bool d.e.f0), y, .lit (.string d.e.f2.data.toList)]) (by simp)
        rw [bulks.string_eq] at p5
        have p6 : d.e.f2.data.toList.length = d.e.f2.size := Array.length_toList
        simp only at hk
        show d.e.f2.size ≤ 1048576
        omega
    haveI : Inhabited Dd := ⟨⟨0, 0, 0, z29⟩⟩
    obtain ⟨V, hV⟩ := choose_lt key
    have hel : ((List.range len).map V).length = len := by simp
    refine ⟨(List.range len).map V, hel, hl, fun e => (by cases e), fun i hi => ⟨a, rfl, fun j u hu => ?_⟩, fun x hxm => ?_⟩
    · simp only [List.getElem_map, List.getElem_range] at hu
      exact (hV i (by rw [hel] at hi; exact hi)).1 j u hu
    · obtain ⟨i, hi, rfl⟩ := List.mem_map.1 hxm
      exact (hV i (List.mem_range.1 hi)).2
end
theorem at_deed {W : World} {E : Option Addr} {len cap : Nat} {ds : List Dd} (h : IsDeeds W E len cap ds) (i : Nat) (hi : i < len) : ∃ a x, E = some a ∧ ds[i]? = some x ∧ (∀ W1, Below W.heap.size W W1 → 
    W1.cell? (a.add (i * 9)) = some (.int .i64 x.kind) ∧ W1.cell? ⟨(a.add (i * 9)).block, (a.add (i * 9)).off + 1, none⟩ = some (.int .i64 x.n) ∧ W1.cell? ⟨(a.add (i * 9)).block, (a.add (i * 9)).off + 2, none⟩ = some (.int .i64 x.ver) ∧ W1.cell? ⟨(a.add (i * 9)).block, (a.add (i * 9)).off + 3, none⟩ = some (.bool x.e.f0) ∧
    W1.cell? ⟨(a.add (i * 9)).block, (a.add (i * 9)).off + 4, none⟩ = some (.int .i64 x.e.f1.f0.f0) ∧ W1.cell? ⟨(a.add (i * 9)).block, (a.add (i * 9)).off + 5, none⟩ = some (.int .i64 x.e.f1.f0.f1) ∧ W1.cell? ⟨(a.add (i * 9)).block, (a.add (i * 9)).off + 6, none⟩ = some (.int .i64 x.e.f1.f1.f0) ∧ W1.cell? ⟨(a.add (i * 9)).block, (a.add (i * 9)).off + 7, none⟩ = some (.int .i64 x.e.f1.f1.f1) ∧ W1.cell? ⟨(a.add (i * 9)).block, (a.add (i * 9)).off + 8, none⟩ = some (.string x.e.f2)) ∧
    x.e.f2.size ≤ 140737488351232 ∧ x.e.f1.f0.f1 ≤ 9223372036854775807 ∧ x.e.f1.f1.f1 ≤ 9223372036854775807 := by
  obtain ⟨rfl, _, _, hc, hb⟩ := h
  obtain ⟨a, rfl, hc2⟩ := hc i hi
  have hx := hb ds[i] (List.getElem_mem hi)
  refine ⟨a, ds[i], rfl, List.getElem?_eq_getElem hi, fun W1 hW => ?_, by omega, hx.2⟩
  have hc1 : ∀ j u, (ddCells ds[i])[j]? = some u → W1.cell? (a.add (i * 9 + j)) = some u := fun j u hu => cell_below (hc2 j u hu) hW
  exact ⟨hc1 0 _ rfl, by rw [← add_field _ _ 1 (by omega)]; exact hc1 1 _ rfl, by rw [← add_field _ _ 2 (by omega)]; exact hc1 2 _ rfl, by rw [← add_field _ _ 3 (by omega)]; exact hc1 3 _ rfl, by rw [← add_field _ _ 4 (by omega)]; exact hc1 4 _ rfl, by rw [← add_field _ _ 5 (by omega)]; exact hc1 5 _ rfl, by rw [← add_field _ _ 6 (by omega)]; exact hc1 6 _ rfl, by rw [← add_field _ _ 7 (by omega)]; exact hc1 7 _ rfl, by rw [← add_field _ _ 8 (by omega)]; exact hc1 8 _ rfl⟩
end Go.Proofs.Ytjebkpcekkkbkaa.B
namespace Go.Proofs.Ytjebkpcekkkbkaa.B
open Go.RowKit Go.Shelf Go.ChangeMaps Go.Proofs Go.Proofs.YtjebkpcekkkbkaaW.PrintWords Go.Proofs.YtjebkpcekkkbkaaW.PrintLast Go.Proofs.YtjebkpcekkkbkaaW.PrintMore Go.Proofs.Ytjebkpcekkkbkaa.FBase
theorem lcode_none {L : DL} {k : List UInt8} (h : lk L k = none) : lcode L k = 161 := by unfold lcode; rw [h]
theorem lcode_some {L : DL} {k : List UInt8} {d : Dc} (h : lk L k = some d) : lcode L k = 0 := by unfold lcode; rw [h]
theorem ltxt_some {L : DL} {k : List UInt8} {d : Dc} (h : lk L k = some d) : ltxt L k = d.txt := by unfold ltxt; rw [h]
theorem IsStore.nodup {M : Nat → Prop} {W : World} {s : Nat} {L : DL} {many : Int} (h : IsStore M W s L many) : (L.map (·.1)).Nodup := by
  obtain ⟨_, _, _, _, h, _⟩ := h
  obtain ⟨_, _, _, hn⟩ := h.rep
  exact hn
theorem nm_oth : ∀ i, i < 10 → key (nm i) ≠ [111, 116, 104, 101, 114] := by decide
theorem does_keep {L : DL} {many : Int} {x : Dd} {j : Nat} {er : Int} {L' : DL} {many' : Int} (h : DoesTo L many x j er L' many') (hj : j < 10) (hn : (L.map (·.1)).Nodup) (h8 : L.length ≤ 8) :
    lk L' (key ⟨#[111, 116, 104, 101, 114]⟩) = lk L (key ⟨#[111, 116, 104, 101, 114]⟩) ∧ L'.length ≤ 8 ∧ many ≤ many' ∧ many' ≤ many + 1 := by
  have k0 := Int.emod_nonneg x.kind (show (3 : Int) ≠ 0 by decide)
  have k1 := Int.emod_lt_of_pos x.kind (show (0 : Int) < 3 by decide)
  have hne := nm_oth j hj
  have hk : x.kind % 3 = 0 ∨ x.kind % 3 = 1 ∨ x.kind % 3 = 2 := by omega
  rcases hk with hk | hk | hk
  · rcases h.1 hk with ⟨_, _, h3, rfl, g, A2, c2, rfl⟩ | ⟨_, rfl, rfl⟩
    · exact ⟨by rw [lk_cons, if_neg hne], by rw [List.length_cons]; omega, by omega, by omega⟩
    · exact ⟨rfl, h8, by omega, by omega⟩
  · obtain ⟨rfl, h2⟩ := h.2.1 hk
    rcases h2 with ⟨_, d, A2, c2, out, _, _, rfl⟩ | ⟨_, rfl⟩
    · exact ⟨by rw [lk_upd, if_neg hne], by rw [upd_len]; exact h8, by omega, by omega⟩
    · exact ⟨rfl, h8, by omega, by omega⟩
  · obtain ⟨rfl, h2⟩ := h.2.2 hk
    rcases h2 with ⟨_, ⟨d, hd⟩, rfl⟩ | ⟨_, _, rfl⟩
    · have := rm_len hn hd
      exact ⟨lk_rm_ne L hne, by omega, by omega, by omega⟩
    · exact ⟨rfl, h8, by omega, by omega⟩
set_option maxRecDepth 100000 in
set_option maxHeartbeats 8000000 in
theorem StoreApart_c (E : Option Addr) (d : Nat) (ds : List Dd) (A : Option Addr) (c : Nat) (l : List Int) (w : World) (hre : IsDeeds w E ds.length d ds) (hr : Kd.C (Kd.int .u8) w A l.length l) (hc : l.length ≤ c) (hn : A = none → c = 0) (hB : Bytes l) (hs : l.length ≤ 1048576) (h1 : (chk l).2 ≠ 0) : Calls Try.prog 13 #[.slice E ds.length d, .slice A l.length c] w fun e w' => e = .returned (.bool true) ∧ Below w.heap.size w w' := by
  have HF : Aside0 ((fun W => Kd.C (Kd.int .u8) W A l.length l) w) := ⟨hr⟩
  have HC := Aside0.mk hc
  have HBY := Aside0.mk hB
  have HK := Aside0.mk h1
  have HRE := Aside0.mk hre
  have hs7 : l.length ≤ 140737488351232 := by omega
  obtain ⟨r, hk⟩ : ∃ r, (chk l).2 = r := ⟨_, rfl⟩
  have HKR := Aside0.mk hk
  have g1 : (r != 0) = true := bne_iff_ne.mpr (by rw [← hk]; exact h1)
  have g3 : (r == 0) = false := beq_eq_false_iff_ne.mpr (by rw [← hk]; exact h1)
  clear hre hr hc hB h1 hk
  go_enter Try.func13, Try.ntmps13
  go_wp2_with (first | (go_at_call 33; refine (SNew_ok _).mono ?_; rintro e w1 ⟨s, M0, rfl, hs_, hM, hb⟩; have HS := Aside0.mk (Sto.of_new HF.out (keeps_C _ _ _ _) hs_ hM hb); clear hs_ hM hb HF) | (go_at_call 35; refine (Open_c (HS.out.step (by repeat (first | exact Below.refl _ _ | apply zq2 | apply zq3 | apply zq4 | apply zq5))).st ⟨#[111, 116, 104, 101, 114]⟩ 7 A c l (by decide) (HS.out.step (by repeat (first | exact Below.refl _ _ | apply zq2 | apply zq3 | apply zq4 | apply zq5))).out.now HC.out hn HBY.out hs7 (by decide) (by decide) HK.out).mono ?_; rintro e w2 ⟨rfl, hb⟩; rw [HKR.out]; have m_ := Aside0.mk ((HS.out.step (by repeat (first | exact Below.refl _ _ | apply zq2 | apply zq3 | apply zq4 | apply zq5))).step hb); clear HS hb; have HS := m_; clear m_))
  go_loopw [7] (fun s7 W => ∃ (i : Nat) (M : Nat → Prop) (L : DL) (many : Int), s7 = .int .i64 i ∧ i ≤ ds.length ∧ Aside0 (lk L (key ⟨#[111, 116, 104, 101, 114]⟩) = none) ∧ L.length ≤ 8 ∧ 0 ≤ many ∧ many ≤ i + 1 ∧ Aside0 (Sto w W M s L many (fun W => Kd.C (Kd.int .u8) W A l.length l))) (fun s7 _ => ds.length - (intOf s7).toNat)
  case atStart => exact ⟨0, M0, [], 0, rfl, Nat.zero_le _, ⟨rfl⟩, by simp, by omega, by omega, HS⟩
  case round =>
    clear HS
    obtain ⟨i, M, L, many, rfl, hi, HLK, hL8, hm0, hm1, HS⟩ := hrel
    by_cases h1 : i < ds.length
    · have g1 : decide (i < ds.length) = true := decide_eq_true h1
      by_cases h2 : i < 40
      · have g2 : decide (i < 40) = true := decide_eq_true h2
        have g2' : decide ((i : Int) < 40) = true := decide_eq_true (by omega)
        have hmm : 0 ≤ many ∧ many ≤ 1000000 := by omega
        obtain ⟨ad, x, e1, -, hy, hxe⟩ := at_deed HRE.out i h1
        cases e1
        obtain ⟨y0, y1, y2, y3, y4, y5, y6, y7, y8⟩ := hy _ HS.out.bel
        clear hy
        have j0 := Int.emod_nonneg x.n (show (10 : Int) ≠ 0 by decide)
        have j1 := Int.emod_lt_of_pos x.n (show (0 : Int) < 10 by decide)
        obtain ⟨j, hj⟩ : ∃ j : Nat, x.n % 10 = j := ⟨(x.n % 10).toNat, by omega⟩
        have hj10 : j < 10 := by omega
        clear j0 j1
        go_wp2_with (first | (go_at_call 43; refine (does_is (HS.out.step (by repeat (first | exact Below.refl _ _ | apply zq2 | apply zq3 | apply zq4 | apply zq5))).st x j hj hxe hL8 hmm).mono ?_; rintro e w4 ⟨er, M4, L4, many4, rfl, hs_, hg, hto⟩; obtain ⟨q1, q2, q3, q4⟩ := does_keep hto hj10 HS.out.st.nodup hL8; have HLK4 := Aside0.mk (q1.trans HLK.out); have m_ := Aside0.mk ((HS.out.step (by repeat (first | exact Below.refl _ _ | apply zq2 | apply zq3 | apply zq4 | apply zq5))).op hs_ hg); clear HS hs_ hg hto q1; have HS := m_; clear m_) | (go_at_call 47; refine (Text_is (HS.out.step (by repeat (first | exact Below.refl _ _ | apply zq2 | apply zq3 | apply zq4 | apply zq5))).st ⟨#[111, 116, 104, 101, 114]⟩ (by decide)).mono ?_; rintro e w5 ⟨v5, rfl, hR, hb⟩; rw [lcode_none HLK4.out]; clear hR; have m_ := Aside0.mk ((HS.out.step (by repeat (first | exact Below.refl _ _ | apply zq2 | apply zq3 | apply zq4 | apply zq5))).step hb); clear HS hb; have HS := m_; clear m_))
        go_roundw
        case measure => simp [intOf]; omega
        case rel => exact ⟨i + 1, M4, L4, many4, by simp, by omega, HLK4, q2, by omega, by simp; omega, HS⟩
      · have g2 : decide (i < 40) = false := decide_eq_false h2
        have g2' : decide ((i : Int) < 40) = false := decide_eq_false (by omega)
        skip; go_wp2_with (go_at_call 42; refine (awake_ok _).mono ?_; rintro e w17 ⟨rfl, hb⟩; have m_ := Aside0.mk ((HS.out.step (by repeat (first | exact Below.refl _ _ | apply zq2 | apply zq3 | apply zq4 | apply zq5))).step hb); clear HS hb; have HS := m_; clear m_)
        go_ret
        exact ⟨rfl, HS.out.bel⟩
    · have g1 : decide (i < ds.length) = false := decide_eq_false h1
      skip; go_wp2_with (go_at_call 42; refine (awake_ok _).mono ?_; rintro e w17 ⟨rfl, hb⟩; have m_ := Aside0.mk ((HS.out.step (by repeat (first | exact Below.refl _ _ | apply zq2 | apply zq3 | apply zq4 | apply zq5))).step hb); clear HS hb; have HS := m_; clear m_)
      go_ret
      exact ⟨rfl, HS.out.bel⟩
set_option maxRecDepth 100000 in
set_option maxHeartbeats 8000000 in
theorem StoreApart_l (E : Option Addr) (d : Nat) (ds : List Dd) (A : Option Addr) (c : Nat) (l : List Int) (w : World) (hre : IsDeeds w E ds.length d ds) (hr : Kd.C (Kd.int .u8) w A l.length l) (hc : l.length ≤ c) (hn : A = none → c = 0) (hB : Bytes l) (hs : l.length ≤ 1048576) (h1 : (chk l).2 = 0) (h8 : 8192 < l.length) : Calls Try.prog 13 #[.slice E ds.length d, .slice A l.length c] w fun e w' => e = .returned (.bool true) ∧ Below w.heap.size w w' := by
  have HF : Aside0 ((fun W => Kd.C (Kd.int .u8) W A l.length l) w) := ⟨hr⟩
  have HC := Aside0.mk hc
  have HBY := Aside0.mk hB
  have HK := Aside0.mk h1
  have HRE := Aside0.mk hre
  have hs7 : l.length ≤ 140737488351232 := by omega
  clear hre hr hc hB h1
  go_enter Try.func13, Try.ntmps13
  go_wp2_with (first | (go_at_call 33; refine (SNew_ok _).mono ?_; rintro e w1 ⟨s, M0, rfl, hs_, hM, hb⟩; have HS := Aside0.mk (Sto.of_new HF.out (keeps_C _ _ _ _) hs_ hM hb); clear hs_ hM hb HF) | (go_at_call 35; refine (Open_l (HS.out.step (by repeat (first | exact Below.refl _ _ | apply zq2 | apply zq3 | apply zq4 | apply zq5))).st ⟨#[111, 116, 104, 101, 114]⟩ 7 A c l (by decide) (HS.out.step (by repeat (first | exact Below.refl _ _ | apply zq2 | apply zq3 | apply zq4 | apply zq5))).out.now HC.out hn HBY.out hs7 (by decide) (by decide) HK.out h8).mono ?_; rintro e w2 ⟨rfl, hb⟩; have m_ := Aside0.mk ((HS.out.step (by repeat (first | exact Below.refl _ _ | apply zq2 | apply zq3 | apply zq4 | apply zq5))).step hb); clear HS hb; have HS := m_; clear m_))
  go_loopw [7] (fun s7 W => ∃ (i : Nat) (M : Nat → Prop) (L : DL) (many : Int), s7 = .int .i64 i ∧ i ≤ ds.length ∧ Aside0 (lk L (key ⟨#[111, 116, 104, 101, 114]⟩) = none) ∧ L.length ≤ 8 ∧ 0 ≤ many ∧ many ≤ i + 1 ∧ Aside0 (Sto w W M s L many (fun W => Kd.C (Kd.int .u8) W A l.length l))) (fun s7 _ => ds.length - (intOf s7).toNat)
  case atStart => exact ⟨0, M0, [], 0, rfl, Nat.zero_le _, ⟨rfl⟩, by simp, by omega, by omega, HS⟩
  case round =>
    clear HS
    obtain ⟨i, M, L, many, rfl, hi, HLK, hL8, hm0, hm1, HS⟩ := hrel
    by_cases h1 : i < ds.length
    · have g1 : decide (i < ds.length) = true := decide_eq_true h1
      by_cases h2 : i < 40
      · have g2 : decide (i < 40) = true := decide_eq_true h2
        have g2' : decide ((i : Int) < 40) = true := decide_eq_true (by omega)
        have hmm : 0 ≤ many ∧ many ≤ 1000000 := by omega
        obtain ⟨ad, x, e1, -, hy, hxe⟩ := at_deed HRE.out i h1
        cases e1
        obtain ⟨y0, y1, y2, y3, y4, y5, y6, y7, y8⟩ := hy _ HS.out.bel
        clear hy
        have j0 := Int.emod_nonneg x.n (show (10 : Int) ≠ 0 by decide)
        have j1 := Int.emod_lt_of_pos x.n (show (0 : Int) < 10 by decide)
        obtain ⟨j, hj⟩ : ∃ j : Nat, x.n % 10 = j := ⟨(x.n % 10).toNat, by omega⟩
        have hj10 : j < 10 := by omega
        clear j0 j1
        go_wp2_with (first | (go_at_call 43; refine (does_is (HS.out.step (by repeat (first | exact Below.refl _ _ | apply zq2 | apply zq3 | apply zq4 | apply zq5))).st x j hj hxe hL8 hmm).mono ?_; rintro e w4 ⟨er, M4, L4, many4, rfl, hs_, hg, hto⟩; obtain ⟨q1, q2, q3, q4⟩ := does_keep hto hj10 HS.out.st.nodup hL8; have HLK4 := Aside0.mk (q1.trans HLK.out); have m_ := Aside0.mk ((HS.out.step (by repeat (first | exact Below.refl _ _ | apply zq2 | apply zq3 | apply zq4 | apply zq5))).op hs_ hg); clear HS hs_ hg hto q1; have HS := m_; clear m_) | (go_at_call 47; refine (Text_is (HS.out.step (by repeat (first | exact Below.refl _ _ | apply zq2 | apply zq3 | apply zq4 | apply zq5))).st ⟨#[111, 116, 104, 101, 114]⟩ (by decide)).mono ?_; rintro e w5 ⟨v5, rfl, hR, hb⟩; rw [lcode_none HLK4.out]; clear hR; have m_ := Aside0.mk ((HS.out.step (by repeat (first | exact Below.refl _ _ | apply zq2 | apply zq3 | apply zq4 | apply zq5))).step hb); clear HS hb; have HS := m_; clear m_))
        go_roundw
        case measure => simp [intOf]; omega
        case rel => exact ⟨i + 1, M4, L4, many4, by simp, by omega, HLK4, q2, by omega, by simp; omega, HS⟩
      · have g2 : decide (i < 40) = false := decide_eq_false h2
        have g2' : decide ((i : Int) < 40) = false := decide_eq_false (by omega)
        skip; go_wp2_with (go_at_call 42; refine (awake_ok _).mono ?_; rintro e w17 ⟨rfl, hb⟩; have m_ := Aside0.mk ((HS.out.step (by repeat (first | exact Below.refl _ _ | apply zq2 | apply zq3 | apply zq4 | apply zq5))).step hb); clear HS hb; have HS := m_; clear m_)
        go_ret
        exact ⟨rfl, HS.out.bel⟩
    · have g1 : decide (i < ds.length) = false := decide_eq_false h1
      skip; go_wp2_with (go_at_call 42; refine (awake_ok _).mono ?_; rintro e w17 ⟨rfl, hb⟩; have m_ := Aside0.mk ((HS.out.step (by repeat (first | exact Below.refl _ _ | apply zq2 | apply zq3 | apply zq4 | apply zq5))).step hb); clear HS hb; have HS := m_; clear m_)
      go_ret
      exact ⟨rfl, HS.out.bel⟩
set_option maxRecDepth 100000 in
set_option maxHeartbeats 8000000 in
theorem StoreApart_ok (E : Option Addr) (d : Nat) (ds : List Dd) (A : Option Addr) (c : Nat) (l : List Int) (w : World) (hre : IsDeeds w E ds.length d ds) (hr : Kd.C (Kd.int .u8) w A l.length l) (hc : l.length ≤ c) (hn : A = none → c = 0) (hB : Bytes l) (hs : l.length ≤ 1048576) (h1 : (chk l).2 = 0) (h8 : l.length ≤ 8192) : Calls Try.prog 13 #[.slice E ds.length d, .slice A l.length c] w fun e w' => e = .returned (.bool true) ∧ Below w.heap.size w w' := by
  have HF : Aside0 ((fun W => Kd.C (Kd.int .u8) W A l.length l) w) := ⟨hr⟩
  have HC := Aside0.mk hc
  have HBY := Aside0.mk hB
  have HK := Aside0.mk h1
  have HRE := Aside0.mk hre
  have HEQ := Aside0.mk (eq_f l hs)
  have ks0 := fun (W : World) (h : Kd.C (Kd.int .u8) W A l.length l) => Kd.C_string (P := Try.prog) (w := W) (src := 22) (dst := 9) (e := 5) (c := c) Try.underlying22 Try.underlying5 Try.underlying9 h
  have HKS := Aside0.mk ks0
  clear hre hr hc hB h1 ks0
  go_enter Try.func13, Try.ntmps13
  go_wp2_with (first | (go_at_call 33; refine (SNew_ok _).mono ?_; rintro e w1 ⟨s, M0, rfl, hs_, hM, hb⟩; have HS := Aside0.mk (Sto.of_new HF.out (keeps_C _ _ _ _) hs_ hM hb); clear hs_ hM hb HF) | (go_at_call 35; refine (Open_ok (HS.out.step (by repeat (first | exact Below.refl _ _ | apply zq2 | apply zq3 | apply zq4 | apply zq5))).st ⟨#[111, 116, 104, 101, 114]⟩ 7 A c l (by decide) (HS.out.step (by repeat (first | exact Below.refl _ _ | apply zq2 | apply zq3 | apply zq4 | apply zq5))).out HC.out hn HBY.out (by decide) (by decide) HK.out h8 rfl (by decide) (by decide)).mono ?_; rintro e w2 ⟨rfl, M1, gg, A1, c1, hs_, hg⟩; have hs2 : IsStore M1 w2 s [(key ⟨#[111, 116, 104, 101, 114]⟩, ⟨gg, 7, 1, A1, c1, l⟩)] 1 := hs_; have m_ := Aside0.mk ((HS.out.step (by repeat (first | exact Below.refl _ _ | apply zq2 | apply zq3 | apply zq4 | apply zq5))).op hs2 hg); clear HS hs_ hs2 hg; have HS := m_; clear m_))
  go_loopw [7] (fun s7 W => ∃ (i : Nat) (M : Nat → Prop) (L : DL) (many : Int), s7 = .int .i64 i ∧ i ≤ ds.length ∧ Aside0 (lk L (key ⟨#[111, 116, 104, 101, 114]⟩) = some ⟨gg, 7, 1, A1, c1, l⟩) ∧ L.length ≤ 8 ∧ 0 ≤ many ∧ many ≤ i + 1 ∧ Aside0 (Sto w W M s L many (fun W => Kd.C (Kd.int .u8) W A l.length l))) (fun s7 _ => ds.length - (intOf s7).toNat)
  case atStart => exact ⟨0, M1, _, 1, rfl, Nat.zero_le _, ⟨rfl⟩, by simp, by omega, by omega, HS⟩
  case round =>
    clear HS
    obtain ⟨i, M, L, many, rfl, hi, HLK, hL8, hm0, hm1, HS⟩ := hrel
    by_cases h1 : i < ds.length
    · have g1 : decide (i < ds.length) = true := decide_eq_true h1
      by_cases h2 : i < 40
      · have g2 : decide (i < 40) = true := decide_eq_true h2
        have g2' : decide ((i : Int) < 40) = true := decide_eq_true (by omega)
        have hmm : 0 ≤ many ∧ many ≤ 1000000 := by omega
        obtain ⟨ad, x, e1, -, hy, hxe⟩ := at_deed HRE.out i h1
        cases e1
        obtain ⟨y0, y1, y2, y3, y4, y5, y6, y7, y8⟩ := hy _ HS.out.bel
        clear hy
        have j0 := Int.emod_nonneg x.n (show (10 : Int) ≠ 0 by decide)
        have j1 := Int.emod_lt_of_pos x.n (show (0 : Int) < 10 by decide)
        obtain ⟨j, hj⟩ : ∃ j : Nat, x.n % 10 = j := ⟨(x.n % 10).toNat, by omega⟩
        have hj10 : j < 10 := by omega
        clear j0 j1
        go_wp2_with (first | (go_at_call 43; refine (does_is (HS.out.step (by repeat (first | exact Below.refl _ _ | apply zq2 | apply zq3 | apply zq4 | apply zq5))).st x j hj hxe hL8 hmm).mono ?_; rintro e w4 ⟨er, M4, L4, many4, rfl, hs_, hg, hto⟩; obtain ⟨q1, q2, q3, q4⟩ := does_keep hto hj10 HS.out.st.nodup hL8; have HLK4 := Aside0.mk (q1.trans HLK.out); have m_ := Aside0.mk ((HS.out.step (by repeat (first | exact Below.refl _ _ | apply zq2 | apply zq3 | apply zq4 | apply zq5))).op hs_ hg); clear HS hs_ hg hto q1; have HS := m_; clear m_) | (go_at_call 47; refine (Text_is (HS.out.step (by repeat (first | exact Below.refl _ _ | apply zq2 | apply zq3 | apply zq4 | apply zq5))).st ⟨#[111, 116, 104, 101, 114]⟩ (by decide)).mono ?_; rintro e w5 ⟨v5, rfl, hR, hb⟩; rw [lcode_some HLK4.out]; rw [ltxt_some HLK4.out] at hR; obtain ⟨A7, c7, rfl, hl7, hn7, hC7⟩ := Ap.read (.inr hR); have HC7 := Aside0.mk hC7; have HL7 := Aside0.mk hl7; clear hR hl7 hn7 hC7; have m_ := Aside0.mk ((HS.out.step (by repeat (first | exact Below.refl _ _ | apply zq2 | apply zq3 | apply zq4 | apply zq5))).step hb); clear HS hb; have HS := m_; clear m_) | (go_at_call 20; refine (colophonref00_EqBytes.calls _ A7 c7 l A c l true _ (Kd.C_below HC7.out (by repeat (first | exact Below.refl _ _ | apply zq2 | apply zq3 | apply zq4 | apply zq5))) HL7.out (HS.out.step (by repeat (first | exact Below.refl _ _ | apply zq2 | apply zq3 | apply zq4 | apply zq5))).out.now HC.out HEQ.out).mono ?_; rintro e w8 ⟨rfl, hd⟩; have hb := hd.below; clear hd; have m_ := Aside0.mk ((HS.out.step (by repeat (first | exact Below.refl _ _ | apply zq2 | apply zq3 | apply zq4 | apply zq5))).step hb); clear HS hb; have HS := m_; clear m_))
        go_roundw
        case measure => simp [intOf]; omega
        case rel => exact ⟨i + 1, M4, L4, many4, by simp, by omega, HLK4, q2, by omega, by simp; omega, HS⟩
      · have g2 : decide (i < 40) = false := decide_eq_false h2
        have g2' : decide ((i : Int) < 40) = false := decide_eq_false (by omega)
        have ks := HKS.out _ HS.out.out.now; go_wp2_with (first | (go_at_call 48; refine (has_yes (HS.out.step (by repeat (first | exact Below.refl _ _ | apply zq2 | apply zq3 | apply zq4 | apply zq5))).st ⟨#[111, 116, 104, 101, 114]⟩ (by decide) ⟨gg, 7, 1, A1, c1, l⟩ HLK.out (strOfNums l) rfl).mono ?_; rintro e w9 ⟨rfl, hb⟩; have m_ := Aside0.mk ((HS.out.step (by repeat (first | exact Below.refl _ _ | apply zq2 | apply zq3 | apply zq4 | apply zq5))).step hb); clear HS hb; have HS := m_; clear m_) | (go_at_call 42; refine (awake_ok _).mono ?_; rintro e w17 ⟨rfl, hb⟩; have m_ := Aside0.mk ((HS.out.step (by repeat (first | exact Below.refl _ _ | apply zq2 | apply zq3 | apply zq4 | apply zq5))).step hb); clear HS hb; have HS := m_; clear m_))
        go_ret
        exact ⟨rfl, HS.out.bel⟩
    · have g1 : decide (i < ds.length) = false := decide_eq_false h1
      have ks := HKS.out _ HS.out.out.now; go_wp2_with (first | (go_at_call 48; refine (has_yes (HS.out.step (by repeat (first | exact Below.refl _ _ | apply zq2 | apply zq3 | apply zq4 | apply zq5))).st ⟨#[111, 116, 104, 101, 114]⟩ (by decide) ⟨gg, 7, 1, A1, c1, l⟩ HLK.out (strOfNums l) rfl).mono ?_; rintro e w9 ⟨rfl, hb⟩; have m_ := Aside0.mk ((HS.out.step (by repeat (first | exact Below.refl _ _ | apply zq2 | apply zq3 | apply zq4 | apply zq5))).step hb); clear HS hb; have HS := m_; clear m_) | (go_at_call 42; refine (awake_ok _).mono ?_; rintro e w17 ⟨rfl, hb⟩; have m_ := Aside0.mk ((HS.out.step (by repeat (first | exact Below.refl _ _ | apply zq2 | apply zq3 | apply zq4 | apply zq5))).step hb); clear HS hb; have HS := m_; clear m_))
      go_ret
      exact ⟨rfl, HS.out.bel⟩
theorem StoreApart_row (E : Option Addr) (m d : Nat) (ds : List Dd) (A : Option Addr) (n c : Nat) (zs : List Int) (W : World) (g : IsDeeds W E m d ds) (h : IsRow .u8 W A n c zs) (hb : c ≤ 1048576) :
    Calls Try.prog 13 #[.slice E m d, .slice A n c] W fun e W' => e = .returned (.bool true) ∧ Below W.heap.size W W' := by
  have hn : A = none → c = 0 := fun e => by
    subst e
    rcases h with ⟨_, _, h, _⟩ | ⟨x, h, _⟩
    · exact h
    · cases h
  obtain ⟨l, rfl, hc, hC, hw⟩ := h.reads
  have hm : ds.length = m := g.1
  subst hm
  have hB : Bytes l := fun x hx => byte_wf (hw x hx)
  by_cases h1 : (chk l).2 = 0
  · by_cases h8 : l.length ≤ 8192
    · exact StoreApart_ok E d ds A c l W g hC hc hn hB (by omega) h1 h8
    · exact StoreApart_l E d ds A c l W g hC hc hn hB (by omega) h1 (by omega)
  · exact StoreApart_c E d ds A c l W g hC hc hn hB (by omega) h1
abbrev arr (f : Nat → Int) : Obj := .cells #[.int .i64 (f 0), .int .i64 (f 1), .int .i64 (f 2), .int .i64 (f 3), .int .i64 (f 4), .int .i64 (f 5), .int .i64 (f 6), .int .i64 (f 7), .int .i64 (f 8), .int .i64 (f 9)] 69 (0, 0)
theorem ten {j : Nat} (h : j < 10) : j = 0 ∨ j = 1 ∨ j = 2 ∨ j = 3 ∨ j = 4 ∨ j = 5 ∨ j = 6 ∨ j = 7 ∨ j = 8 ∨ j = 9 := by omega
theorem arr_cell {W : World} {g : Nat} {f : Nat → Int} (h : IsBlk W g (arr f)) {j : Nat} (hj : j < 10) : W.cell? ⟨g, j, none⟩ = some (.int .i64 (f j)) := by
  rw [h.cell j]
  rcases ten hj with rfl | rfl | rfl | rfl | rfl | rfl | rfl | rfl | rfl | rfl <;> rfl
theorem arr_set {W : World} {g : Nat} {f : Nat → Int} (h : IsBlk W g (arr f)) {j : Nat} (hj : j < 10) (v : Int) (f' : Nat → Int) (h1 : f' j = v) (h2 : ∀ i, i < 10 → i ≠ j → f' i = f i) : IsBlk (W.setCell ⟨g, j, none⟩ (.int .i64 v)) g (arr f') := by
  have h3 := blk_set h j (.int .i64 v)
  have h4 : ∀ i, i < 10 → f' i = if i = j then v else f i := fun i hi => by
    by_cases e : i = j
    · rw [if_pos e, e, h1]
    · rw [if_neg e, h2 i hi e]
  refine h3.trans ?_
  unfold arr
  rw [h4 0 (by omega), h4 1 (by omega), h4 2 (by omega), h4 3 (by omega), h4 4 (by omega), h4 5 (by omega), h4 6 (by omega), h4 7 (by omega), h4 8 (by omega), h4 9 (by omega)]
  rcases ten hj with rfl | rfl | rfl | rfl | rfl | rfl | rfl | rfl | rfl | rfl <;> rfl
theorem arr_same {W : World} {g : Nat} {f f' : Nat → Int} (h : IsBlk W g (arr f)) (h2 : ∀ i, i < 10 → f' i = f i) : IsBlk W g (arr f') := by
  refine h.trans ?_
  unfold arr
  rw [h2 0 (by omega), h2 1 (by omega), h2 2 (by omega), h2 3 (by omega), h2 4 (by omega), h2 5 (by omega), h2 6 (by omega), h2 7 (by omega), h2 8 (by omega), h2 9 (by omega)]
def vf (L : DL) (j : Nat) : Int := lver L (key (nm j))
def sf (L : DL) (j : Nat) : Int := lser L (key (nm j))
theorem blk_out {M : Nat → Prop} {W : World} {g : Nat} {o : Obj} (h : IsBlk W g o) (hM : ¬ M g) : Out M W (fun W => IsBlk W g o) := fun W2 h2 => (h2.blk g (blk_lt h) hM).trans h
theorem Grow.not {M M' : Nat → Prop} {W W' : World} (hg : Grow M M' W W') {g : Nat} (h : ¬ M g) (hl : g < W.heap.size) : ¬ M' g := fun hm => (hg.more g hm).elim h (fun h2 => by omega)
theorem Sto.put {w W : World} {M : Nat → Prop} {s : Nat} {L : DL} {many : Int} {F G : World → Prop} (h : Sto w W M s L many F) {g i : Nat} {v : Value} (hg : ¬ M g) (hw : w.heap.size ≤ g) (hG : Out M (W.setCell ⟨g, i, none⟩ v) G) : Sto w (W.setCell ⟨g, i, none⟩ v) M s L many G :=
  ⟨h.bel.setCell hw v, h.base, h.st.keep (by simp) (fun k hk hm => Below.heap_setCell W ⟨g, i, none⟩ v k (fun e => hg (by have e2 : k = g := e; rw [← e2]; exact hm))), hG⟩
theorem Sto.no {w W : World} {M : Nat → Prop} {s : Nat} {L : DL} {many : Int} {F : World → Prop} (h : Sto w W M s L many F) {g : Nat} (hg : W.heap.size ≤ g) : ¬ M g := fun hm => by have := h.st.lt hm; omega
section
variable {w W : World} {M : Nat → Prop} {s : Nat} {L : DL} {many : Int} {g4 g5 : Nat} {fv fs : Nat → Int}
theorem Sto.put4 (h : Sto w W M s L many (fun W => IsBlk W g4 (arr fv) ∧ IsBlk W g5 (arr fs))) (n : ¬ M g4 ∧ ¬ M g5) (hne : g4 ≠ g5) (hw : w.heap.size ≤ g4) {j : Nat} (hj : j < 10) (v : Int) (fv' : Nat → Int) (h1 : fv' j = v) (h2 : ∀ i, i < 10 → i ≠ j → fv' i = fv i) :
    Sto w (W.setCell ⟨g4, j, none⟩ (.int .i64 v)) M s L many (fun W => IsBlk W g4 (arr fv') ∧ IsBlk W g5 (arr fs)) :=
  h.put n.1 hw ((blk_out (arr_set h.out.now.1 hj v fv' h1 h2) n.1).and (blk_out (h.out.now.2.other (p := ⟨g4, j, none⟩) (Ne.symm hne) _) n.2))
theorem Sto.put5 (h : Sto w W M s L many (fun W => IsBlk W g4 (arr fv) ∧ IsBlk W g5 (arr fs))) (n : ¬ M g4 ∧ ¬ M g5) (hne : g4 ≠ g5) (hw : w.heap.size ≤ g5) {j : Nat} (hj : j < 10) (v : Int) (fs' : Nat → Int) (h1 : fs' j = v) (h2 : ∀ i, i < 10 → i ≠ j → fs' i = fs i) :
    Sto w (W.setCell ⟨g5, j, none⟩ (.int .i64 v)) M s L many (fun W => IsBlk W g4 (arr fv) ∧ IsBlk W g5 (arr fs')) :=
  h.put n.2 hw ((blk_out (h.out.now.1.other (p := ⟨g5, j, none⟩) hne _) n.1).and (blk_out (arr_set h.out.now.2 hj v fs' h1 h2) n.2))
end
theorem nm_ne {i j : Nat} (hi : i < 10) (hj : j < 10) (h : i ≠ j) : key (nm j) ≠ key (nm i) := fun e => h (nm_inj j hj i hi e).symm
theorem vf_of {L L' : DL} {i : Nat} (h : lk L' (key (nm i)) = lk L (key (nm i))) : vf L' i = vf L i ∧ sf L' i = sf L i := by
  unfold vf sf lver lser
  rw [h]
  exact ⟨rfl, rfl⟩
theorem l_some {L : DL} {k : List UInt8} {d : Dc} (h : lk L k = some d) : lver L k = d.ver ∧ lser L k = d.ser ∧ lcode L k = 0 := by
  unfold lver lser lcode
  rw [h]
  exact ⟨rfl, rfl, rfl⟩
theorem l_none {L : DL} {k : List UInt8} (h : lk L k = none) : lver L k = 0 ∧ lser L k = 0 ∧ lcode L k = 161 := by
  unfold lver lser lcode
  rw [h]
  exact ⟨rfl, rfl, rfl⟩
theorem ser_pos {L : DL} (h : ∀ p ∈ L, 0 < p.2.ser) {k : List UInt8} {d : Dc} (hd : lk L k = some d) : 0 < d.ser := h _ (lk_mem hd)
set_option maxRecDepth 100000 in
set_option maxHeartbeats 8000000 in
theorem StoreRises_ok (E : Option Addr) (d : Nat) (ds : List Dd) (w : World) (hre : IsDeeds w E ds.length d ds) :
    Calls Try.prog 12 #[.slice E ds.length d] w fun e w' => e = .returned (.bool true) ∧ Below w.heap.size w w' := by
  have HRE := Aside0.mk hre
  clear hre
  go_enter Try.func12, Try.ntmps12
  go_upto_region 3 with (go_at_call 33; refine (SNew_ok _).mono ?_; rintro e w1 ⟨s, M0, rfl, hs_, hM, hb⟩; have HS := Aside0.mk (Sto.of_new trivial keeps_tt hs_ hM hb); clear hs_ hM hb)
  obtain ⟨g4, hg4⟩ : ∃ g, g = w1.heap.size := ⟨_, rfl⟩
  have HS0 : Aside0 (Sto w ((w1.alloc (.cells #[.int .i64 0, .int .i64 0, .int .i64 0, .int .i64 0, .int .i64 0, .int .i64 0, .int .i64 0, .int .i64 0, .int .i64 0, .int .i64 0] 69)).alloc (.cells #[.int .i64 0, .int .i64 0, .int .i64 0, .int .i64 0, .int .i64 0, .int .i64 0, .int .i64 0, .int .i64 0, .int .i64 0, .int .i64 0] 69)) M0 s [] 0 (fun W => IsBlk W w1.heap.size (arr (vf [])) ∧ IsBlk W (w1.heap.size + 1) (arr (sf [])))) := by
    have h4 := blk_new w1 (.cells #[.int .i64 0, .int .i64 0, .int .i64 0, .int .i64 0, .int .i64 0, .int .i64 0, .int .i64 0, .int .i64 0, .int .i64 0, .int .i64 0] 69)
    have h5 := blk_new (w1.alloc (.cells #[.int .i64 0, .int .i64 0, .int .i64 0, .int .i64 0, .int .i64 0, .int .i64 0, .int .i64 0, .int .i64 0, .int .i64 0, .int .i64 0] 69)) (.cells #[.int .i64 0, .int .i64 0, .int .i64 0, .int .i64 0, .int .i64 0, .int .i64 0, .int .i64 0, .int .i64 0, .int .i64 0, .int .i64 0] 69)
    rw [World.size_alloc] at h5
    exact ⟨(HS.out.step (by repeat (first | exact Below.refl _ _ | apply zq2 | apply zq3 | apply zq4 | apply zq5))).only (((blk_out h4 (HS.out.no (Nat.le_refl _))).grow (Grow.of_below (below_alloc (Below.refl _ _) _))).and (blk_out h5 (HS.out.no (Nat.le_succ _))))⟩
  have HNM0 : Aside0 (¬ M0 w1.heap.size ∧ ¬ M0 (w1.heap.size + 1)) := ⟨⟨HS.out.no (Nat.le_refl _), HS.out.no (Nat.le_succ _)⟩⟩
  have hw4 : w.heap.size ≤ w1.heap.size := HS.out.bel.size
  clear HS
  generalize (w1.alloc (.cells #[.int .i64 0, .int .i64 0, .int .i64 0, .int .i64 0, .int .i64 0, .int .i64 0, .int .i64 0, .int .i64 0, .int .i64 0, .int .i64 0] 69)).alloc (.cells #[.int .i64 0, .int .i64 0, .int .i64 0, .int .i64 0, .int .i64 0, .int .i64 0, .int .i64 0, .int .i64 0, .int .i64 0, .int .i64 0] 69) = W5 at HS0 ⊢
  have hne : w1.heap.size ≠ w1.heap.size + 1 := by omega
  have hw5 : w.heap.size ≤ w1.heap.size + 1 := by omega
  clear hg4
  generalize w1.heap.size + 1 = g5 at *
  generalize w1.heap.size = g4 at *
  go_wp2
  go_loopw [6, 7] (fun s6 s7 W => ∃ (i : Nat) (M : Nat → Prop) (L : DL) (many : Int), s7 = .int .i64 i ∧ s6 = .int .i64 many ∧ i ≤ ds.length ∧ L.length ≤ 8 ∧ 0 ≤ many ∧ many ≤ i ∧ Aside0 (∀ p ∈ L, 0 < p.2.ser) ∧ Aside0 (¬ M g4 ∧ ¬ M g5) ∧ Aside0 (Sto w W M s L many (fun W => IsBlk W g4 (arr (vf L)) ∧ IsBlk W g5 (arr (sf L))))) (fun _ s7 _ => ds.length - (intOf s7).toNat)
  case atStart => exact ⟨0, M0, [], 0, rfl, rfl, Nat.zero_le _, by simp, by omega, by omega, ⟨fun p hp => nomatch hp⟩, HNM0, HS0⟩
  case round =>
    clear HS0 HNM0
    obtain ⟨i, M, L, many, rfl, rfl, hi, hL8, hm0, hm1, HSP, HNM, HS⟩ := hrel
    by_cases h1 : i < ds.length
    · have g1 : decide (i < ds.length) = true := decide_eq_true h1
      by_cases h2 : i < 60
      · have g2 : decide (i < 60) = true := decide_eq_true h2
        have g2' : decide ((i : Int) < 60) = true := decide_eq_true (by omega)
        have hmm : 0 ≤ many ∧ many ≤ 1000000 := by omega
        obtain ⟨ad, x, e1, -, hy, hxe⟩ := at_deed HRE.out i h1
        cases e1
        obtain ⟨y0, y1, y2, y3, y4, y5, y6, y7, y8⟩ := hy _ HS.out.bel
        have HY := Aside0.mk hy
        clear hy
        have j0 := Int.emod_nonneg x.n (show (10 : Int) ≠ 0 by decide)
        have j1 := Int.emod_lt_of_pos x.n (show (0 : Int) < 10 by decide)
        obtain ⟨j, hj⟩ : ∃ j : Nat, x.n % 10 = j := ⟨(x.n % 10).toNat, by omega⟩
        have hj10 : j < 10 := by omega
        have hjj : (j : Int) % 10 = j := by omega
        have k0 := Int.emod_nonneg x.kind (show (3 : Int) ≠ 0 by decide)
        have k1 := Int.emod_lt_of_pos x.kind (show (0 : Int) < 3 by decide)
        have HB1 : Aside0 (colophonref00_Bring.f x.n 10 = some (j : Int)) := ⟨by rw [bring_is x.n 10 (by decide) (by decide), hj]⟩
        obtain ⟨kk, hkk⟩ : ∃ k, x.kind % 3 = k := ⟨_, rfl⟩
        have HB2 : Aside0 (colophonref00_Bring.f x.kind 3 = some kk) := ⟨by rw [bring_is x.kind 3 (by decide) (by decide), hkk]⟩
        have b0 : (0 : Int) ≤ (j : Int) := by omega
        have b1 : (j : Int) < 10 := by omega
        rw [hkk] at k0 k1
        clear j0 j1
        have t1 := True.intro
        have t2 := True.intro
        have t3 := True.intro
        have t4 := True.intro
        go_upto_region 9 with (first | (have _t := t1; go_at_call 29; refine (colophonref00_Bring.calls x.n 10 _ _ HB1.out).mono ?_; rintro e w3 ⟨rfl, hd⟩; have hb := hd.below; clear hd; have m_ := Aside0.mk ((HS.out.step (by repeat (first | exact Below.refl _ _ | apply zq2 | apply zq3 | apply zq4 | apply zq5))).step hb); clear HS hb; have HS := m_; clear m_; obtain ⟨z0, z1, z2, z3, z4, z5, z6, z7, z8⟩ := HY.out _ HS.out.bel; clear t1 _t) | (go_at_call 43; refine (does_is (HS.out.step (by repeat (first | exact Below.refl _ _ | apply zq2 | apply zq3 | apply zq4 | apply zq5))).st x j hj hxe hL8 hmm).mono ?_; rintro e w4 ⟨er, M4, L4, many4, rfl, hs_, hg, hto⟩; have hn4 : ¬ M4 g4 := hg.not HNM.out.1 (blk_lt (HS.out.step (by repeat (first | exact Below.refl _ _ | apply zq2 | apply zq3 | apply zq4 | apply zq5))).out.now.1); have hn5 : ¬ M4 g5 := hg.not HNM.out.2 (blk_lt (HS.out.step (by repeat (first | exact Below.refl _ _ | apply zq2 | apply zq3 | apply zq4 | apply zq5))).out.now.2); have HNM4 := Aside0.mk (And.intro hn4 hn5); have hnd := HS.out.st.nodup; have m_ := Aside0.mk ((HS.out.step (by repeat (first | exact Below.refl _ _ | apply zq2 | apply zq3 | apply zq4 | apply zq5))).op hs_ hg); clear HS hs_ hg hn4 hn5; have HS := m_; clear m_))
        have hcase : kk = 0 ∨ kk = 1 ∨ kk = 2 := by omega
        have hsp := HSP.out
        rcases hcase with rfl | rfl | rfl
        · rcases hto.1 hkk with ⟨rfl, hn0, hlt, rfl, g, A2, c2, rfl⟩ | ⟨hz, rfl, rfl⟩
          · have hq : lk ((key (nm j), (⟨g, x.ver % 60, many + 1, A2, c2, [98, 101, 103, 105, 110, 10, 111, 102, 32, 105, 116]⟩ : Dc)) :: L) (key (nm j)) = some ⟨g, x.ver % 60, many + 1, A2, c2, [98, 101, 103, 105, 110, 10, 111, 102, 32, 105, 116]⟩ := by rw [lk_cons, if_pos rfl]
            have wm : wrap64 (many + 1) = many + 1 := by unfold wrap64; omega
            have hot : ∀ i, i < 10 → i ≠ j → lk ((key (nm j), (⟨g, x.ver % 60, many + 1, A2, c2, [98, 101, 103, 105, 110, 10, 111, 102, 32, 105, 116]⟩ : Dc)) :: L) (key (nm i)) = lk L (key (nm i)) := fun i hi hij => by rw [lk_cons, if_neg (nm_ne hi hj10 hij)]
            have HV := Aside0.mk ((l_some hq).1)
            have HSR := Aside0.mk ((l_some hq).2.1)
            have HCO := Aside0.mk ((l_some hq).2.2)
            have HVF := Aside0.mk (show vf L j = 0 from (l_none hn0).1)
            have HSF := Aside0.mk (show sf L j = 0 from (l_none hn0).2.1)
            go_wp2_with (first | (have _t := t3; go_at_call 45; refine (name_is (j : Int) j hjj _).mono ?_; rintro e w5 ⟨rfl, hb⟩; have m_ := Aside0.mk ((HS.out.step (by repeat (first | exact Below.refl _ _ | apply zq2 | apply zq3 | apply zq4 | apply zq5))).step hb); clear HS hb; have HS := m_; clear m_; clear t3 _t) | (go_at_call 44; refine (Version_is (HS.out.step (by repeat (first | exact Below.refl _ _ | apply zq2 | apply zq3 | apply zq4 | apply zq5))).st (nm j) (nm_sz j)).mono ?_; rintro e w6 ⟨rfl, hb⟩; rw [HV.out, HCO.out]; have m_ := Aside0.mk ((HS.out.step (by repeat (first | exact Below.refl _ _ | apply zq2 | apply zq3 | apply zq4 | apply zq5))).step hb); clear HS hb; have HS := m_; clear m_) | (have _t := t4; go_at_call 45; refine (name_is (j : Int) j hjj _).mono ?_; rintro e w7 ⟨rfl, hb⟩; have m_ := Aside0.mk ((HS.out.step (by repeat (first | exact Below.refl _ _ | apply zq2 | apply zq3 | apply zq4 | apply zq5))).step hb); clear HS hb; have HS := m_; clear m_; clear t4 _t) | (go_at_call 46; refine (Serial_is (HS.out.step (by repeat (first | exact Below.refl _ _ | apply zq2 | apply zq3 | apply zq4 | apply zq5))).st (nm j) (nm_sz j)).mono ?_; rintro e w8 ⟨rfl, hb⟩; rw [HSR.out, HCO.out]; have m_ := Aside0.mk ((HS.out.step (by repeat (first | exact Below.refl _ _ | apply zq2 | apply zq3 | apply zq4 | apply zq5))).step hb); clear HS hb; have HS := m_; clear m_; obtain ⟨v0, -⟩ := HY.out _ HS.out.bel) | (have _t := t2; go_at_call 29; refine (colophonref00_Bring.calls x.kind 3 _ _ HB2.out).mono ?_; rintro e w9 ⟨rfl, hd⟩; have hb := hd.below; clear hd; have m_ := Aside0.mk ((HS.out.step (by repeat (first | exact Below.refl _ _ | apply zq2 | apply zq3 | apply zq4 | apply zq5))).step hb); clear HS hb; have HS := m_; clear m_; have c4 := arr_cell HS.out.out.now.1 hj10; have c5 := arr_cell HS.out.out.now.2 hj10; have f4 := HS.out.out.now.1.frozen j; have f5 := HS.out.out.now.2.frozen j; rw [HVF.out] at c4; rw [HSF.out] at c5; clear t2 _t))
            go_roundw
            case measure => simp [intOf]; omega
            case rel =>
              have HS2 := (HS.out.put5 HNM4.out hne hw5 hj10 (many + 1) (sf _) (l_some hq).2.1 (fun i hi hij => (vf_of (hot i hi hij)).2)).put4 HNM4.out hne hw4 hj10 (x.ver % 60) (vf _) (l_some hq).1 (fun i hi hij => (vf_of (hot i hi hij)).1)
              exact ⟨i + 1, M4, _, _, by simp, rfl, by omega, by rw [List.length_cons]; omega, by omega, by simp; omega, ⟨fun p hp => (List.mem_cons.1 hp).elim (fun e => by rw [e]; show 0 < many + 1; omega) (hsp p)⟩, HNM4, ⟨HS2⟩⟩
          · have hz1 : (er == 0) = false := beq_eq_false_iff_ne.mpr hz
            have hz2 : (er != 0) = true := bne_iff_ne.mpr hz
            obtain ⟨cc, hcc⟩ : ∃ c, lcode L4 (key (nm j)) = c := ⟨_, rfl⟩
            obtain ⟨aa, haa⟩ : ∃ c, vf L4 j = c := ⟨_, rfl⟩
            obtain ⟨bb, hbb⟩ : ∃ c, sf L4 j = c := ⟨_, rfl⟩
            have HV := Aside0.mk (show lver L4 (key (nm j)) = aa from haa)
            have HSR := Aside0.mk (show lser L4 (key (nm j)) = bb from hbb)
            have HCO := Aside0.mk (hcc)
            have HVF := Aside0.mk (haa)
            have HSF := Aside0.mk (hbb)
            go_wp2_with (first | (have _t := t3; go_at_call 45; refine (name_is (j : Int) j hjj _).mono ?_; rintro e w5 ⟨rfl, hb⟩; have m_ := Aside0.mk ((HS.out.step (by repeat (first | exact Below.refl _ _ | apply zq2 | apply zq3 | apply zq4 | apply zq5))).step hb); clear HS hb; have HS := m_; clear m_; clear t3 _t) | (go_at_call 44; refine (Version_is (HS.out.step (by repeat (first | exact Below.refl _ _ | apply zq2 | apply zq3 | apply zq4 | apply zq5))).st (nm j) (nm_sz j)).mono ?_; rintro e w6 ⟨rfl, hb⟩; rw [HV.out, HCO.out]; have m_ := Aside0.mk ((HS.out.step (by repeat (first | exact Below.refl _ _ | apply zq2 | apply zq3 | apply zq4 | apply zq5))).step hb); clear HS hb; have HS := m_; clear m_) | (have _t := t4; go_at_call 45; refine (name_is (j : Int) j hjj _).mono ?_; rintro e w7 ⟨rfl, hb⟩; have m_ := Aside0.mk ((HS.out.step (by repeat (first | exact Below.refl _ _ | apply zq2 | apply zq3 | apply zq4 | apply zq5))).step hb); clear HS hb; have HS := m_; clear m_; clear t4 _t) | (go_at_call 46; refine (Serial_is (HS.out.step (by repeat (first | exact Below.refl _ _ | apply zq2 | apply zq3 | apply zq4 | apply zq5))).st (nm j) (nm_sz j)).mono ?_; rintro e w8 ⟨rfl, hb⟩; rw [HSR.out, HCO.out]; have m_ := Aside0.mk ((HS.out.step (by repeat (first | exact Below.refl _ _ | apply zq2 | apply zq3 | apply zq4 | apply zq5))).step hb); clear HS hb; have HS := m_; clear m_; obtain ⟨v0, -⟩ := HY.out _ HS.out.bel) | (have _t := t2; go_at_call 29; refine (colophonref00_Bring.calls x.kind 3 _ _ HB2.out).mono ?_; rintro e w9 ⟨rfl, hd⟩; have hb := hd.below; clear hd; have m_ := Aside0.mk ((HS.out.step (by repeat (first | exact Below.refl _ _ | apply zq2 | apply zq3 | apply zq4 | apply zq5))).step hb); clear HS hb; have HS := m_; clear m_; have c4 := arr_cell HS.out.out.now.1 hj10; have c5 := arr_cell HS.out.out.now.2 hj10; have f4 := HS.out.out.now.1.frozen j; have f5 := HS.out.out.now.2.frozen j; rw [HVF.out] at c4; rw [HSF.out] at c5; clear t2 _t))
            go_roundw
            case measure => simp [intOf]; omega
            case rel =>
              have HS2 := HS.out.put4 HNM4.out hne hw4 hj10 aa (vf _) haa (fun _ _ _ => rfl)
              exact ⟨i + 1, M4, _, _, by simp, rfl, by omega, hL8, by omega, by simp; omega, HSP, HNM4, ⟨HS2⟩⟩
        · obtain ⟨rfl, hto2⟩ := hto.2.1 hkk
          rcases hto2 with ⟨rfl, d0, A2, c2, out, hd0, hv, rfl⟩ | ⟨hz, rfl⟩
          · have hq : lk (upd L (key (nm j)) (x.ver % 60) A2 c2 out) (key (nm j)) = some { d0 with ver := x.ver % 60, A := A2, c := c2, txt := out } := by rw [lk_upd, if_pos rfl, hd0]; rfl
            have hot : ∀ i, i < 10 → i ≠ j → lk (upd L (key (nm j)) (x.ver % 60) A2 c2 out) (key (nm i)) = lk L (key (nm i)) := fun i hi hij => by rw [lk_upd, if_neg (nm_ne hi hj10 hij)]
            have hle : decide (x.ver % 60 ≤ d0.ver) = false := decide_eq_false (by omega)
            have HV := Aside0.mk ((l_some hq).1)
            have HSR := Aside0.mk ((l_some hq).2.1)
            have HCO := Aside0.mk ((l_some hq).2.2)
            have HVF := Aside0.mk (show vf L j = d0.ver from (l_some hd0).1)
            have HSF := Aside0.mk (show sf L j = d0.ser from (l_some hd0).2.1)
            go_wp2_with (first | (have _t := t3; go_at_call 45; refine (name_is (j : Int) j hjj _).mono ?_; rintro e w5 ⟨rfl, hb⟩; have m_ := Aside0.mk ((HS.out.step (by repeat (first | exact Below.refl _ _ | apply zq2 | apply zq3 | apply zq4 | apply zq5))).step hb); clear HS hb; have HS := m_; clear m_; clear t3 _t) | (go_at_call 44; refine (Version_is (HS.out.step (by repeat (first | exact Below.refl _ _ | apply zq2 | apply zq3 | apply zq4 | apply zq5))).st (nm j) (nm_sz j)).mono ?_; rintro e w6 ⟨rfl, hb⟩; rw [HV.out, HCO.out]; have m_ := Aside0.mk ((HS.out.step (by repeat (first | exact Below.refl _ _ | apply zq2 | apply zq3 | apply zq4 | apply zq5))).step hb); clear HS hb; have HS := m_; clear m_) | (have _t := t4; go_at_call 45; refine (name_is (j : Int) j hjj _).mono ?_; rintro e w7 ⟨rfl, hb⟩; have m_ := Aside0.mk ((HS.out.step (by repeat (first | exact Below.refl _ _ | apply zq2 | apply zq3 | apply zq4 | apply zq5))).step hb); clear HS hb; have HS := m_; clear m_; clear t4 _t) | (go_at_call 46; refine (Serial_is (HS.out.step (by repeat (first | exact Below.refl _ _ | apply zq2 | apply zq3 | apply zq4 | apply zq5))).st (nm j) (nm_sz j)).mono ?_; rintro e w8 ⟨rfl, hb⟩; rw [HSR.out, HCO.out]; have m_ := Aside0.mk ((HS.out.step (by repeat (first | exact Below.refl _ _ | apply zq2 | apply zq3 | apply zq4 | apply zq5))).step hb); clear HS hb; have HS := m_; clear m_; obtain ⟨v0, -⟩ := HY.out _ HS.out.bel) | (have _t := t2; go_at_call 29; refine (colophonref00_Bring.calls x.kind 3 _ _ HB2.out).mono ?_; rintro e w9 ⟨rfl, hd⟩; have hb := hd.below; clear hd; have m_ := Aside0.mk ((HS.out.step (by repeat (first | exact Below.refl _ _ | apply zq2 | apply zq3 | apply zq4 | apply zq5))).step hb); clear HS hb; have HS := m_; clear m_; have c4 := arr_cell HS.out.out.now.1 hj10; have c5 := arr_cell HS.out.out.now.2 hj10; have f4 := HS.out.out.now.1.frozen j; have f5 := HS.out.out.now.2.frozen j; rw [HVF.out] at c4; rw [HSF.out] at c5; clear t2 _t))
            go_roundw
            case measure => simp [intOf]; omega
            case rel =>
              have hsf : ∀ i, i < 10 → sf (upd L (key (nm j)) (x.ver % 60) A2 c2 out) i = sf L i := fun i hi => by
                by_cases hij : i = j
                · rw [hij]; exact (l_some hq).2.1.trans (l_some hd0).2.1.symm
                · exact (vf_of (hot i hi hij)).2
              have HS2 := (HS.out.put4 HNM4.out hne hw4 hj10 (x.ver % 60) (vf (upd L (key (nm j)) (x.ver % 60) A2 c2 out)) (l_some hq).1 (fun i hi hij => (vf_of (hot i hi hij)).1)).map (fun W h => And.intro h.1 (arr_same h.2 hsf))
              exact ⟨i + 1, M4, _, _, by simp, rfl, by omega, by rw [upd_len]; exact hL8, by omega, by simp; omega, ⟨fun p hp => by obtain ⟨q, hq, rfl⟩ := List.mem_map.1 hp; have := hsp q hq; split <;> exact this⟩, HNM4, ⟨HS2⟩⟩
          · have hz1 : (er == 0) = false := beq_eq_false_iff_ne.mpr hz
            have hz2 : (er != 0) = true := bne_iff_ne.mpr hz
            obtain ⟨cc, hcc⟩ : ∃ c, lcode L4 (key (nm j)) = c := ⟨_, rfl⟩
            obtain ⟨aa, haa⟩ : ∃ c, vf L4 j = c := ⟨_, rfl⟩
            obtain ⟨bb, hbb⟩ : ∃ c, sf L4 j = c := ⟨_, rfl⟩
            have HV := Aside0.mk (show lver L4 (key (nm j)) = aa from haa)
            have HSR := Aside0.mk (show lser L4 (key (nm j)) = bb from hbb)
            have HCO := Aside0.mk (hcc)
            have HVF := Aside0.mk (haa)
            have HSF := Aside0.mk (hbb)
            go_wp2_with (first | (have _t := t3; go_at_call 45; refine (name_is (j : Int) j hjj _).mono ?_; rintro e w5 ⟨rfl, hb⟩; have m_ := Aside0.mk ((HS.out.step (by repeat (first | exact Below.refl _ _ | apply zq2 | apply zq3 | apply zq4 | apply zq5))).step hb); clear HS hb; have HS := m_; clear m_; clear t3 _t) | (go_at_call 44; refine (Version_is (HS.out.step (by repeat (first | exact Below.refl _ _ | apply zq2 | apply zq3 | apply zq4 | apply zq5))).st (nm j) (nm_sz j)).mono ?_; rintro e w6 ⟨rfl, hb⟩; rw [HV.out, HCO.out]; have m_ := Aside0.mk ((HS.out.step (by repeat (first | exact Below.refl _ _ | apply zq2 | apply zq3 | apply zq4 | apply zq5))).step hb); clear HS hb; have HS := m_; clear m_) | (have _t := t4; go_at_call 45; refine (name_is (j : Int) j hjj _).mono ?_; rintro e w7 ⟨rfl, hb⟩; have m_ := Aside0.mk ((HS.out.step (by repeat (first | exact Below.refl _ _ | apply zq2 | apply zq3 | apply zq4 | apply zq5))).step hb); clear HS hb; have HS := m_; clear m_; clear t4 _t) | (go_at_call 46; refine (Serial_is (HS.out.step (by repeat (first | exact Below.refl _ _ | apply zq2 | apply zq3 | apply zq4 | apply zq5))).st (nm j) (nm_sz j)).mono ?_; rintro e w8 ⟨rfl, hb⟩; rw [HSR.out, HCO.out]; have m_ := Aside0.mk ((HS.out.step (by repeat (first | exact Below.refl _ _ | apply zq2 | apply zq3 | apply zq4 | apply zq5))).step hb); clear HS hb; have HS := m_; clear m_; obtain ⟨v0, -⟩ := HY.out _ HS.out.bel) | (have _t := t2; go_at_call 29; refine (colophonref00_Bring.calls x.kind 3 _ _ HB2.out).mono ?_; rintro e w9 ⟨rfl, hd⟩; have hb := hd.below; clear hd; have m_ := Aside0.mk ((HS.out.step (by repeat (first | exact Below.refl _ _ | apply zq2 | apply zq3 | apply zq4 | apply zq5))).step hb); clear HS hb; have HS := m_; clear m_; have c4 := arr_cell HS.out.out.now.1 hj10; have c5 := arr_cell HS.out.out.now.2 hj10; have f4 := HS.out.out.now.1.frozen j; have f5 := HS.out.out.now.2.frozen j; rw [HVF.out] at c4; rw [HSF.out] at c5; clear t2 _t))
            go_roundw
            case measure => simp [intOf]; omega
            case rel =>
              have HS2 := HS.out.put4 HNM4.out hne hw4 hj10 aa (vf _) haa (fun _ _ _ => rfl)
              exact ⟨i + 1, M4, _, _, by simp, rfl, by omega, hL8, by omega, by simp; omega, HSP, HNM4, ⟨HS2⟩⟩
        · obtain ⟨rfl, hto2⟩ := hto.2.2 hkk
          rcases hto2 with ⟨rfl, ⟨d0, hd0⟩, rfl⟩ | ⟨rfl, hn0, rfl⟩
          · have hq : lk (rm L (key (nm j))) (key (nm j)) = none := lk_rm L _
            have hot : ∀ i, i < 10 → i ≠ j → lk (rm L (key (nm j))) (key (nm i)) = lk L (key (nm i)) := fun i hi hij => lk_rm_ne L (nm_ne hi hj10 hij)
            have hrl := rm_len hnd hd0
            have hps := ser_pos hsp hd0
            have hp1 : decide (0 < d0.ser) = true := decide_eq_true hps
            have HV := Aside0.mk ((l_none hq).1)
            have HSR := Aside0.mk ((l_none hq).2.1)
            have HCO := Aside0.mk ((l_none hq).2.2)
            have HVF := Aside0.mk (show vf L j = d0.ver from (l_some hd0).1)
            have HSF := Aside0.mk (show sf L j = d0.ser from (l_some hd0).2.1)
            go_wp2_with (first | (have _t := t3; go_at_call 45; refine (name_is (j : Int) j hjj _).mono ?_; rintro e w5 ⟨rfl, hb⟩; have m_ := Aside0.mk ((HS.out.step (by repeat (first | exact Below.refl _ _ | apply zq2 | apply zq3 | apply zq4 | apply zq5))).step hb); clear HS hb; have HS := m_; clear m_; clear t3 _t) | (go_at_call 44; refine (Version_is (HS.out.step (by repeat (first | exact Below.refl _ _ | apply zq2 | apply zq3 | apply zq4 | apply zq5))).st (nm j) (nm_sz j)).mono ?_; rintro e w6 ⟨rfl, hb⟩; rw [HV.out, HCO.out]; have m_ := Aside0.mk ((HS.out.step (by repeat (first | exact Below.refl _ _ | apply zq2 | apply zq3 | apply zq4 | apply zq5))).step hb); clear HS hb; have HS := m_; clear m_) | (have _t := t4; go_at_call 45; refine (name_is (j : Int) j hjj _).mono ?_; rintro e w7 ⟨rfl, hb⟩; have m_ := Aside0.mk ((HS.out.step (by repeat (first | exact Below.refl _ _ | apply zq2 | apply zq3 | apply zq4 | apply zq5))).step hb); clear HS hb; have HS := m_; clear m_; clear t4 _t) | (go_at_call 46; refine (Serial_is (HS.out.step (by repeat (first | exact Below.refl _ _ | apply zq2 | apply zq3 | apply zq4 | apply zq5))).st (nm j) (nm_sz j)).mono ?_; rintro e w8 ⟨rfl, hb⟩; rw [HSR.out, HCO.out]; have m_ := Aside0.mk ((HS.out.step (by repeat (first | exact Below.refl _ _ | apply zq2 | apply zq3 | apply zq4 | apply zq5))).step hb); clear HS hb; have HS := m_; clear m_; obtain ⟨v0, -⟩ := HY.out _ HS.out.bel) | (have _t := t2; go_at_call 29; refine (colophonref00_Bring.calls x.kind 3 _ _ HB2.out).mono ?_; rintro e w9 ⟨rfl, hd⟩; have hb := hd.below; clear hd; have m_ := Aside0.mk ((HS.out.step (by repeat (first | exact Below.refl _ _ | apply zq2 | apply zq3 | apply zq4 | apply zq5))).step hb); clear HS hb; have HS := m_; clear m_; have c4 := arr_cell HS.out.out.now.1 hj10; have c5 := arr_cell HS.out.out.now.2 hj10; have f4 := HS.out.out.now.1.frozen j; have f5 := HS.out.out.now.2.frozen j; rw [HVF.out] at c4; rw [HSF.out] at c5; clear t2 _t))
            go_roundw
            case measure => simp [intOf]; omega
            case rel =>
              have HS2 := (HS.out.put5 HNM4.out hne hw5 hj10 0 (sf _) (l_none hq).2.1 (fun i hi hij => (vf_of (hot i hi hij)).2)).put4 HNM4.out hne hw4 hj10 0 (vf _) (l_none hq).1 (fun i hi hij => (vf_of (hot i hi hij)).1)
              exact ⟨i + 1, M4, _, _, by simp, rfl, by omega, by omega, by omega, by simp; omega, ⟨fun p hp => hsp p (rm_mem hp)⟩, HNM4, ⟨HS2⟩⟩
          · have HV := Aside0.mk ((l_none hn0).1)
            have HSR := Aside0.mk ((l_none hn0).2.1)
            have HCO := Aside0.mk ((l_none hn0).2.2)
            have HVF := Aside0.mk (show vf L4 j = 0 from (l_none hn0).1)
            have HSF := Aside0.mk (show sf L4 j = 0 from (l_none hn0).2.1)
            go_wp2_with (first | (have _t := t3; go_at_call 45; refine (name_is (j : Int) j hjj _).mono ?_; rintro e w5 ⟨rfl, hb⟩; have m_ := Aside0.mk ((HS.out.step (by repeat (first | exact Below.refl _ _ | apply zq2 | apply zq3 | apply zq4 | apply zq5))).step hb); clear HS hb; have HS := m_; clear m_; clear t3 _t) | (go_at_call 44; refine (Version_is (HS.out.step (by repeat (first | exact Below.refl _ _ | apply zq2 | apply zq3 | apply zq4 | apply zq5))).st (nm j) (nm_sz j)).mono ?_; rintro e w6 ⟨rfl, hb⟩; rw [HV.out, HCO.out]; have m_ := Aside0.mk ((HS.out.step (by repeat (first | exact Below.refl _ _ | apply zq2 | apply zq3 | apply zq4 | apply zq5))).step hb); clear HS hb; have HS := m_; clear m_) | (have _t := t4; go_at_call 45; refine (name_is (j : Int) j hjj _).mono ?_; rintro e w7 ⟨rfl, hb⟩; have m_ := Aside0.mk ((HS.out.step (by repeat (first | exact Below.refl _ _ | apply zq2 | apply zq3 | apply zq4 | apply zq5))).step hb); clear HS hb; have HS := m_; clear m_; clear t4 _t) | (go_at_call 46; refine (Serial_is (HS.out.step (by repeat (first | exact Below.refl _ _ | apply zq2 | apply zq3 | apply zq4 | apply zq5))).st (nm j) (nm_sz j)).mono ?_; rintro e w8 ⟨rfl, hb⟩; rw [HSR.out, HCO.out]; have m_ := Aside0.mk ((HS.out.step (by repeat (first | exact Below.refl _ _ | apply zq2 | apply zq3 | apply zq4 | apply zq5))).step hb); clear HS hb; have HS := m_; clear m_; obtain ⟨v0, -⟩ := HY.out _ HS.out.bel) | (have _t := t2; go_at_call 29; refine (colophonref00_Bring.calls x.kind 3 _ _ HB2.out).mono ?_; rintro e w9 ⟨rfl, hd⟩; have hb := hd.below; clear hd; have m_ := Aside0.mk ((HS.out.step (by repeat (first | exact Below.refl _ _ | apply zq2 | apply zq3 | apply zq4 | apply zq5))).step hb); clear HS hb; have HS := m_; clear m_; have c4 := arr_cell HS.out.out.now.1 hj10; have c5 := arr_cell HS.out.out.now.2 hj10; have f4 := HS.out.out.now.1.frozen j; have f5 := HS.out.out.now.2.frozen j; rw [HVF.out] at c4; rw [HSF.out] at c5; clear t2 _t))
            go_roundw
            case measure => simp [intOf]; omega
            case rel =>
              have HS2 := (HS.out.put5 HNM4.out hne hw5 hj10 0 (sf L4) (l_none hn0).2.1 (fun _ _ _ => rfl)).put4 HNM4.out hne hw4 hj10 0 (vf L4) (l_none hn0).1 (fun _ _ _ => rfl)
              exact ⟨i + 1, M4, _, _, by simp, rfl, by omega, hL8, by omega, by simp; omega, HSP, HNM4, ⟨HS2⟩⟩
      · have g2 : decide (i < 60) = false := decide_eq_false h2
        have g2' : decide ((i : Int) < 60) = false := decide_eq_false (by omega)
        go_wp2_with (go_at_call 42; refine (awake_ok _).mono ?_; rintro e w17 ⟨rfl, hb⟩; have m_ := Aside0.mk ((HS.out.step (by repeat (first | exact Below.refl _ _ | apply zq2 | apply zq3 | apply zq4 | apply zq5))).step hb); clear HS hb; have HS := m_; clear m_)
        go_ret
        exact ⟨rfl, HS.out.bel⟩
    · have g1 : decide (i < ds.length) = false := decide_eq_false h1
      go_wp2_with (go_at_call 42; refine (awake_ok _).mono ?_; rintro e w17 ⟨rfl, hb⟩; have m_ := Aside0.mk ((HS.out.step (by repeat (first | exact Below.refl _ _ | apply zq2 | apply zq3 | apply zq4 | apply zq5))).step hb); clear HS hb; have HS := m_; clear m_)
      go_ret
      exact ⟨rfl, HS.out.bel⟩
theorem StoreRises_row (E : Option Addr) (m d : Nat) (ds : List Dd) (W : World) (g : IsDeeds W E m d ds) :
    Calls Try.prog 12 #[.slice E m d] W fun e W' => e = .returned (.bool true) ∧ Below W.heap.size W W' := by
  have hm : ds.length = m := g.1
  subst hm
  exact StoreRises_ok E d ds W g
end Go.Proofs.Ytjebkpcekkkbkaa.B
