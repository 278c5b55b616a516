/-
  Texts of this session, one behind the other: N10, N11, H6, N12, N13, N14, N15, N16, Q0, N17, Row2, Row3, N19, N20, N22, N23.
-/
import Derived.Test.YtjebkpcekkkbkaaZN245
set_option linter.unusedSimpArgs false
set_option linter.unusedVariables false
namespace Go.Proofs.Ytjebkpcekkkbkaa.B
open Go.RowKit Go.Shelf Go.Proofs Go.Proofs.YtjebkpcekkkbkaaW.PrintWords Go.Proofs.YtjebkpcekkkbkaaW.PrintLast Go.Proofs.YtjebkpcekkkbkaaW.PrintMore Go.Proofs.Ytjebkpcekkkbkaa.FBase
attribute [local go_sem] max2_int min2_int max_two min_two
set_option maxRecDepth 100000 in
set_option maxHeartbeats 4000000 in
theorem Diff_ok (A B : Option Addr) (c d : Nat) (a b : List Int) (w : World) (hr : Kd.C (Kd.int .u8) w A a.length a) (hc : a.length ≤ c) (hr2 : Kd.C (Kd.int .u8) w B b.length b) (hd : b.length ≤ d) (hn : A = none → c = 0) (hA : Bytes a) (hB : Bytes b) (hs : a.length ≤ 1048576) (hs2 : b.length ≤ 140737488351232) (hl : (chk a).2 = 0) (ht : (chk b).2 = 0) (hlim : ¬ 8192 < b.length) :
    Calls Try.prog 18 #[.slice A a.length c, .slice B b.length d] w fun e w' => (∃ f t : Nat, IsDiff a b f t ∧ e = .returned (.tuple #[.agg #[.bool false, .int .i64 (fnd a f : Int), .int .i64 (pch a f), .int .i64 (fnd a ((a.length - t : Nat) : Int) : Int), .int .i64 (pch a ((a.length - t : Nat) : Int)), .string (strOfNums ((b.take (b.length - t)).drop f))], .int .i64 0])) ∧ Below w.heap.size w w' := by
  have HR2 := Aside0.mk hr2
  have hb1 := below_alloc (Below.refl _ w) (.cells #[.bool false, .int .i64 0, .int .i64 0, .int .i64 0, .int .i64 0, .string ⟨#[]⟩] 29)
  have HS : Aside0 (Sta w (w.alloc (.cells #[.bool false, .int .i64 0, .int .i64 0, .int .i64 0, .int .i64 0, .string ⟨#[]⟩] 29)) (fun W => IsBlk W w.heap.size (.cells #[.bool false, .int .i64 0, .int .i64 0, .int .i64 0, .int .i64 0, .string ⟨#[]⟩] 29) ∧ Kd.C (Kd.int .u8) W A a.length a ∧ Kd.C (Kd.int .u8) W B b.length b)) := ⟨⟨hb1, ⟨blk_new w _, Kd.C_below hr hb1, Kd.C_below hr2 hb1⟩, keeps_and (keeps_blk _ _) (keeps_and (keeps_C _ _ _ _) (keeps_C _ _ _ _))⟩⟩
  clear hb1 hr hr2
  have n1 := blk_lt HS.out.now.1
  have k0 : (w.alloc (.cells #[.bool false, .int .i64 0, .int .i64 0, .int .i64 0, .int .i64 0, .string ⟨#[]⟩] 29)).cell? ⟨w.heap.size, 0, none⟩ = some (.bool false) := HS.out.now.1.cell 0
  have f0 := HS.out.now.1.frozen 0
  have k1 : (w.alloc (.cells #[.bool false, .int .i64 0, .int .i64 0, .int .i64 0, .int .i64 0, .string ⟨#[]⟩] 29)).cell? ⟨w.heap.size, 1, none⟩ = some (.int .i64 0) := HS.out.now.1.cell 1
  have f1 := HS.out.now.1.frozen 1
  have k2 : (w.alloc (.cells #[.bool false, .int .i64 0, .int .i64 0, .int .i64 0, .int .i64 0, .string ⟨#[]⟩] 29)).cell? ⟨w.heap.size, 2, none⟩ = some (.int .i64 0) := HS.out.now.1.cell 2
  have f2 := HS.out.now.1.frozen 2
  have k3 : (w.alloc (.cells #[.bool false, .int .i64 0, .int .i64 0, .int .i64 0, .int .i64 0, .string ⟨#[]⟩] 29)).cell? ⟨w.heap.size, 3, none⟩ = some (.int .i64 0) := HS.out.now.1.cell 3
  have f3 := HS.out.now.1.frozen 3
  have k4 : (w.alloc (.cells #[.bool false, .int .i64 0, .int .i64 0, .int .i64 0, .int .i64 0, .string ⟨#[]⟩] 29)).cell? ⟨w.heap.size, 4, none⟩ = some (.int .i64 0) := HS.out.now.1.cell 4
  have f4 := HS.out.now.1.frozen 4
  have k5 : (w.alloc (.cells #[.bool false, .int .i64 0, .int .i64 0, .int .i64 0, .int .i64 0, .string ⟨#[]⟩] 29)).cell? ⟨w.heap.size, 5, none⟩ = some (.string ⟨#[]⟩) := HS.out.now.1.cell 5
  have f5 := HS.out.now.1.frozen 5
  have HC := Aside0.mk hc
  have HD := Aside0.mk hd
  have HAY := Aside0.mk hA
  have HBY := Aside0.mk hB
  have HT := Aside0.mk (texts2_f a b hA hB hs hs2)
  clear hc hd
  rw [hl, ht, if_neg (by simp)] at HT
  have g9 : decide (8192 < (b.length : Int)) = false := decide_eq_false (by omega)
  have hv := (chk_V hA).1 hl
  have hkk := Check_f a hA hs (Nat.lt_succ_self _)
  rw [show chk a = ((chk a).1, 0) from Prod.ext rfl hl] at hkk
  have HK := Aside0.mk hkk
  have HV := Aside0.mk hv
  clear hl ht hA hB hkk hv hlim
  obtain ⟨M, hM, M1, M2, M3⟩ : ∃ M : Nat, (if b.length < a.length then (b.length : Int) else (a.length : Int)) = (M : Int) ∧ M ≤ a.length ∧ M ≤ b.length ∧ (M = a.length ∨ M = b.length) := by
    by_cases h : b.length < a.length
    · exact ⟨b.length, if_pos h, by omega, Nat.le_refl _, .inr rfl⟩
    · exact ⟨a.length, if_neg h, Nat.le_refl _, by omega, .inl rfl⟩
  go_enter Try.func18, Try.ntmps18
  go_upto_block 0 with (first | (go_at_call 51; refine (edit_texts.calls _ _ _ [a, b] _ _ (row2_at _ _ (by simp) _ _ _ _ a b (HS.out.step (by repeat (first | exact Below.refl _ _ | apply zq2 | apply zq3 | apply zq4 | apply zq5))).now.2.1 HC.out (HS.out.step (by repeat (first | exact Below.refl _ _ | apply zq2 | apply zq3 | apply zq4 | apply zq5))).now.2.2 HD.out _) (Nat.le_refl _) HT.out).mono ?_; rintro e w1 ⟨rfl, hd⟩; have hb := hd.below; clear hd; have m_ := Aside0.mk (HS.out.call (by repeat (first | exact Below.refl _ _ | apply zq2 | apply zq3 | apply zq4 | apply zq5)) hb); clear HS hb ; have HS := m_; clear m_; have n1 := blk_lt HS.out.now.1; have k0 : w1.cell? ⟨w.heap.size, 0, none⟩ = some (.bool false) := HS.out.now.1.cell 0; have f0 := HS.out.now.1.frozen 0; have k1 : w1.cell? ⟨w.heap.size, 1, none⟩ = some (.int .i64 0) := HS.out.now.1.cell 1; have f1 := HS.out.now.1.frozen 1; have k2 : w1.cell? ⟨w.heap.size, 2, none⟩ = some (.int .i64 0) := HS.out.now.1.cell 2; have f2 := HS.out.now.1.frozen 2; have k3 : w1.cell? ⟨w.heap.size, 3, none⟩ = some (.int .i64 0) := HS.out.now.1.cell 3; have f3 := HS.out.now.1.frozen 3; have k4 : w1.cell? ⟨w.heap.size, 4, none⟩ = some (.int .i64 0) := HS.out.now.1.cell 4; have f4 := HS.out.now.1.frozen 4; have k5 : w1.cell? ⟨w.heap.size, 5, none⟩ = some (.string ⟨#[]⟩) := HS.out.now.1.cell 5; have f5 := HS.out.now.1.frozen 5) | (go_at_call 25; refine (MNew_ok _ A c a _ _ (HS.out.step (by repeat (first | exact Below.refl _ _ | apply zq2 | apply zq3 | apply zq4 | apply zq5))).now.2.1 HC.out hn HK.out hs).mono ?_; rintro e w2 ⟨m, rfl, hM, hb⟩; have m_ := Aside0.mk ((HS.out.call (by repeat (first | exact Below.refl _ _ | apply zq2 | apply zq3 | apply zq4 | apply zq5)) hb).add hM (keeps_map _ _)); clear HS hb hM; have HS := m_; clear m_))
  go_cut [9] from 13 (fun s9 W => ∃ k : Nat, s9 = .int .i64 k ∧ k ≤ a.length ∧ k ≤ b.length ∧ Aside0 (Pre a b k) ∧ Aside0 (∀ n, k < n → n ≤ a.length → n ≤ b.length → a.take n ≠ b.take n) ∧ Aside0 (Sta w W (fun W => IsMap W m a ∧ IsBlk W w.heap.size (.cells #[.bool false, .int .i64 0, .int .i64 0, .int .i64 0, .int .i64 0, .string ⟨#[]⟩] 29) ∧ Kd.C (Kd.int .u8) W A a.length a ∧ Kd.C (Kd.int .u8) W B b.length b)))
  case first =>
    go_wp2
    go_loopw [9] (fun s9 W => ∃ k : Nat, s9 = .int .i64 k ∧ k ≤ a.length ∧ k ≤ b.length ∧ Aside0 (Pre a b k) ∧ Aside0 (Sta w W (fun W => IsMap W m a ∧ IsBlk W w.heap.size (.cells #[.bool false, .int .i64 0, .int .i64 0, .int .i64 0, .int .i64 0, .string ⟨#[]⟩] 29) ∧ Kd.C (Kd.int .u8) W A a.length a ∧ Kd.C (Kd.int .u8) W B b.length b))) (fun s9 _ => a.length - (intOf s9).toNat)
    case atStart => exact ⟨0, rfl, Nat.zero_le _, Nat.zero_le _, ⟨⟨Nat.zero_le _, Nat.zero_le _, rfl⟩⟩, HS⟩
    case round =>
      clear HS
      obtain ⟨k, rfl, hk1, hk2, HP, HS⟩ := hrel
      by_cases h0 : k < M
      · have h1 : k < a.length := by omega
        have h2 : k < b.length := by omega
        have g1 : decide (k < M) = true := decide_eq_true h0
        obtain ⟨ad1, e1, x1⟩ := Kd.at_int HS.out.now.2.2.1 (k : Int) (by omega) (by omega)
        obtain ⟨ad2, e2, x2⟩ := Kd.at_int HS.out.now.2.2.2 (k : Int) (by omega) (by omega)
        cases e1
        cases e2
        rw [Int.toNat_natCast] at x1 x2
        by_cases h3 : rd a k = rd b k
        · have g3 : (rd a k == rd b k) = true := beq_iff_eq.mpr h3
          have HP2 := Aside0.mk (HP.out.step h1 h2 h3)
          clear h3
          go_wp2
          repeat (go_quiet (fail); try go_wp2)
          go_roundw
          case measure => simp [intOf]; omega
          case rel => exact ⟨k + 1, by simp, by omega, by omega, HP2, ⟨HS.out.step (by repeat (first | exact Below.refl _ _ | apply zq2 | apply zq3 | apply zq4 | apply zq5))⟩⟩
        · have g3 : (rd a k == rd b k) = false := beq_eq_false_iff_ne.mpr h3
          have HQ := Aside0.mk (Pre.stop (.inr (.inr h3)))
          clear h3
          go_wp2
          repeat (go_quiet (fail); try go_wp2)
          go_meet
          exact ⟨k, rfl, hk1, hk2, HP, HQ, ⟨HS.out.step (by repeat (first | exact Below.refl _ _ | apply zq2 | apply zq3 | apply zq4 | apply zq5))⟩⟩
      · have g1 : decide (k < M) = false := decide_eq_false h0
        have HQ : Aside0 (∀ n, k < n → n ≤ a.length → n ≤ b.length → a.take n ≠ b.take n) := ⟨Pre.stop (by omega)⟩
        go_wp2
        repeat (go_quiet (fail); try go_wp2)
        go_meet
        exact ⟨k, rfl, hk1, hk2, HP, HQ, ⟨HS.out.step (by repeat (first | exact Below.refl _ _ | apply zq2 | apply zq3 | apply zq4 | apply zq5))⟩⟩
  case rest =>
    clear HS
    obtain ⟨k1, rfl, hka, hkb, HP, HQ, HS⟩ := hcut
    go_upto_block 2 with (fail)
    go_cut [9] from 13 (fun s9 W => ∃ k : Nat, s9 = .int .i64 k ∧ k ≤ a.length ∧ k ≤ b.length ∧ Aside0 (Down a b k) ∧ Aside0 (isPb a k = true) ∧ Aside0 (Sta w W (fun W => IsMap W m a ∧ IsBlk W w.heap.size (.cells #[.bool false, .int .i64 0, .int .i64 0, .int .i64 0, .int .i64 0, .string ⟨#[]⟩] 29) ∧ Kd.C (Kd.int .u8) W A a.length a ∧ Kd.C (Kd.int .u8) W B b.length b)))
    case first =>
      go_wp2
      go_loopw [9] (fun s9 W => ∃ k : Nat, s9 = .int .i64 k ∧ k ≤ a.length ∧ k ≤ b.length ∧ Aside0 (Down a b k) ∧ Aside0 (Sta w W (fun W => IsMap W m a ∧ IsBlk W w.heap.size (.cells #[.bool false, .int .i64 0, .int .i64 0, .int .i64 0, .int .i64 0, .string ⟨#[]⟩] 29) ∧ Kd.C (Kd.int .u8) W A a.length a ∧ Kd.C (Kd.int .u8) W B b.length b))) (fun s9 _ => (intOf s9).toNat)
      case atStart => exact ⟨k1, rfl, hka, hkb, ⟨⟨HP.out, fun n h1 h2 h3 h4 => absurd h4 (HQ.out n h1 h2 h3)⟩⟩, HS⟩
      case round =>
        clear HS HP HQ hka hkb
        obtain ⟨k, rfl, hka, hkb, HP, HS⟩ := hrel
        by_cases h1 : isPb a k = true
        · have HI := Aside0.mk h1
          clear h1
          go_wp2_with (go_at_call 52; refine (Mis_is m a (k : Int) _ (HS.out.step (by repeat (first | exact Below.refl _ _ | apply zq2 | apply zq3 | apply zq4 | apply zq5))).now.1 hs HAY.out HV.out (by omega) (by omega)).mono ?_; rintro e w3 ⟨rfl, hb⟩; rw [HI.out]; have m_ := Aside0.mk (HS.out.call (by repeat (first | exact Below.refl _ _ | apply zq2 | apply zq3 | apply zq4 | apply zq5)) hb); clear HS hb ; have HS := m_; clear m_)
          go_meet
          exact ⟨k, rfl, hka, hkb, HP, HI, HS⟩
        · have h2 : isPb a k = false := by cases h : isPb a k with | true => exact absurd h h1 | false => rfl
          have HI := Aside0.mk h2
          obtain ⟨hk0, hdn⟩ := HP.out.step HAY.out HV.out h2
          have HD2 := Aside0.mk hdn
          clear h1 h2 hdn
          go_wp2_with (go_at_call 52; refine (Mis_is m a (k : Int) _ (HS.out.step (by repeat (first | exact Below.refl _ _ | apply zq2 | apply zq3 | apply zq4 | apply zq5))).now.1 hs HAY.out HV.out (by omega) (by omega)).mono ?_; rintro e w3 ⟨rfl, hb⟩; rw [HI.out]; have m_ := Aside0.mk (HS.out.call (by repeat (first | exact Below.refl _ _ | apply zq2 | apply zq3 | apply zq4 | apply zq5)) hb); clear HS hb ; have HS := m_; clear m_)
          go_roundw
          case measure => simp [intOf]; omega
          case rel => exact ⟨k - 1, by rw [show (k : Int) - 1 = ((k - 1 : Nat) : Int) by omega], by omega, by omega, HD2, HS⟩
    case rest =>
      clear HS HP HQ hka hkb
      obtain ⟨f, rfl, hfa, hfb, HP, HI, HS⟩ := hcut
      go_upto_block 4 with (fail)
      go_cut [10] from 13 (fun s10 W => ∃ k : Nat, s10 = .int .i64 k ∧ f + k ≤ a.length ∧ f + k ≤ b.length ∧ Aside0 (Suf a b f k) ∧ Aside0 (∀ n, k < n → f + n ≤ a.length → f + n ≤ b.length → a.drop (a.length - n) ≠ b.drop (b.length - n)) ∧ Aside0 (Sta w W (fun W => IsMap W m a ∧ IsBlk W w.heap.size (.cells #[.bool false, .int .i64 0, .int .i64 0, .int .i64 0, .int .i64 0, .string ⟨#[]⟩] 29) ∧ Kd.C (Kd.int .u8) W A a.length a ∧ Kd.C (Kd.int .u8) W B b.length b)))
      case first =>
        go_wp2
        go_loopw [10] (fun s10 W => ∃ k : Nat, s10 = .int .i64 k ∧ f + k ≤ a.length ∧ f + k ≤ b.length ∧ Aside0 (Suf a b f k) ∧ Aside0 (Sta w W (fun W => IsMap W m a ∧ IsBlk W w.heap.size (.cells #[.bool false, .int .i64 0, .int .i64 0, .int .i64 0, .int .i64 0, .string ⟨#[]⟩] 29) ∧ Kd.C (Kd.int .u8) W A a.length a ∧ Kd.C (Kd.int .u8) W B b.length b))) (fun s10 _ => a.length - (intOf s10).toNat)
        case atStart => exact ⟨0, rfl, by omega, by omega, ⟨⟨by omega, by omega, by simp⟩⟩, HS⟩
        case round =>
          clear HS
          obtain ⟨k, rfl, hka, hkb, HQ, HS⟩ := hrel
          have v0 : IntKind.i64.wrap ((M : Int) - f) = (M : Int) - f := IntWalk.i64_in _ (by omega)
          by_cases h0 : (k : Int) < (M : Int) - f
          · have h1 : f + k < a.length := by omega
            have h2 : f + k < b.length := by omega
            have g1 : decide ((k : Int) < (M : Int) - f) = true := decide_eq_true h0
            obtain ⟨ad1, e1, x1⟩ := Kd.at_int HS.out.now.2.2.1 ((a.length - 1 - k : Nat) : Int) (by omega) (by omega)
            obtain ⟨ad2, e2, x2⟩ := Kd.at_int HS.out.now.2.2.2 ((b.length - 1 - k : Nat) : Int) (by omega) (by omega)
            cases e1
            cases e2
            rw [Int.toNat_natCast] at x1 x2
            have v1 : IntKind.i64.wrap ((a.length : Int) - 1) = (a.length : Int) - 1 := IntWalk.i64_in _ (by omega)
            have v2 : IntKind.i64.wrap ((a.length : Int) - 1 - k) = (a.length : Int) - 1 - k := IntWalk.i64_in _ (by omega)
            have v3 : IntKind.i64.wrap ((b.length : Int) - 1) = (b.length : Int) - 1 := IntWalk.i64_in _ (by omega)
            have v4 : IntKind.i64.wrap ((b.length : Int) - 1 - k) = (b.length : Int) - 1 - k := IntWalk.i64_in _ (by omega)
            have u1 : ((a.length : Int) - 1 - k).toNat = a.length - 1 - k := by omega
            have u2 : ((b.length : Int) - 1 - k).toNat = b.length - 1 - k := by omega
            have p1 : (0 : Int) ≤ (a.length : Int) - 1 - k := by omega
            have p2 : (0 : Int) ≤ (b.length : Int) - 1 - k := by omega
            have p3 : (a.length : Int) - 1 - k < a.length := by omega
            have p4 : (b.length : Int) - 1 - k < b.length := by omega
            by_cases h3 : rd a ((a.length - 1 - k : Nat) : Int) = rd b ((b.length - 1 - k : Nat) : Int)
            · have g3 : (rd a ((a.length - 1 - k : Nat) : Int) == rd b ((b.length - 1 - k : Nat) : Int)) = true := beq_iff_eq.mpr h3
              have HP2 := Aside0.mk (HQ.out.step h1 h2 h3)
              clear h3
              go_wp2
              repeat (go_quiet (fail); try go_wp2)
              clear v0 v1 v2 v3 v4
              go_roundw
              case measure => simp [intOf]; omega
              case rel => exact ⟨k + 1, by simp, by omega, by omega, HP2, ⟨HS.out.step (by repeat (first | exact Below.refl _ _ | apply zq2 | apply zq3 | apply zq4 | apply zq5))⟩⟩
            · have g3 : (rd a ((a.length - 1 - k : Nat) : Int) == rd b ((b.length - 1 - k : Nat) : Int)) = false := beq_eq_false_iff_ne.mpr h3
              have HW := Aside0.mk (Suf.stop (a := a) (b := b) (f := f) (k := k) (.inr (.inr h3)))
              clear h3
              go_wp2
              repeat (go_quiet (fail); try go_wp2)
              go_meet
              exact ⟨k, rfl, hka, hkb, HQ, HW, ⟨HS.out.step (by repeat (first | exact Below.refl _ _ | apply zq2 | apply zq3 | apply zq4 | apply zq5))⟩⟩
          · have g1 : decide ((k : Int) < (M : Int) - f) = false := decide_eq_false h0
            have HW : Aside0 (∀ n, k < n → f + n ≤ a.length → f + n ≤ b.length → a.drop (a.length - n) ≠ b.drop (b.length - n)) := ⟨Suf.stop (by omega)⟩
            go_wp2
            repeat (go_quiet (fail); try go_wp2)
            go_meet
            exact ⟨k, rfl, hka, hkb, HQ, HW, ⟨HS.out.step (by repeat (first | exact Below.refl _ _ | apply zq2 | apply zq3 | apply zq4 | apply zq5))⟩⟩
      case rest =>
        clear HS
        obtain ⟨k2, rfl, hja, hjb, HQ, HW, HS⟩ := hcut
        go_upto_block 6 with (fail)
        go_cut [10] from 13 (fun s10 W => ∃ k : Nat, s10 = .int .i64 k ∧ f + k ≤ a.length ∧ f + k ≤ b.length ∧ Aside0 (Far a b f k) ∧ Aside0 (isPb a ((a.length : Int) - k) = true) ∧ Aside0 (Sta w W (fun W => IsMap W m a ∧ IsBlk W w.heap.size (.cells #[.bool false, .int .i64 0, .int .i64 0, .int .i64 0, .int .i64 0, .string ⟨#[]⟩] 29) ∧ Kd.C (Kd.int .u8) W A a.length a ∧ Kd.C (Kd.int .u8) W B b.length b)))
        case first =>
          go_wp2
          go_loopw [10] (fun s10 W => ∃ k : Nat, s10 = .int .i64 k ∧ f + k ≤ a.length ∧ f + k ≤ b.length ∧ Aside0 (Far a b f k) ∧ Aside0 (Sta w W (fun W => IsMap W m a ∧ IsBlk W w.heap.size (.cells #[.bool false, .int .i64 0, .int .i64 0, .int .i64 0, .int .i64 0, .string ⟨#[]⟩] 29) ∧ Kd.C (Kd.int .u8) W A a.length a ∧ Kd.C (Kd.int .u8) W B b.length b))) (fun s10 _ => (intOf s10).toNat)
          case atStart => exact ⟨k2, rfl, hja, hjb, ⟨⟨HQ.out, fun n h1 h2 h3 h4 => absurd h4 (HW.out n h1 h2 h3)⟩⟩, HS⟩
          case round =>
            clear HS HQ HW hja hjb
            obtain ⟨k, rfl, hka, hkb, HQ, HS⟩ := hrel
            by_cases h1 : isPb a ((a.length : Int) - k) = true
            · have HI := Aside0.mk h1
              clear h1
              go_wp2_with (go_at_call 52; refine (Mis_is m a ((a.length : Int) - k) _ (HS.out.step (by repeat (first | exact Below.refl _ _ | apply zq2 | apply zq3 | apply zq4 | apply zq5))).now.1 hs HAY.out HV.out (by omega) (by omega)).mono ?_; rintro e w3 ⟨rfl, hb⟩; rw [HI.out]; have m_ := Aside0.mk (HS.out.call (by repeat (first | exact Below.refl _ _ | apply zq2 | apply zq3 | apply zq4 | apply zq5)) hb); clear HS hb ; have HS := m_; clear m_)
              go_meet
              exact ⟨k, rfl, hka, hkb, HQ, HI, HS⟩
            · have h2 : isPb a ((a.length : Int) - k) = false := by cases h : isPb a ((a.length : Int) - k) with | true => exact absurd h h1 | false => rfl
              have HI := Aside0.mk h2
              obtain ⟨hk0, hdn⟩ := HQ.out.step HAY.out HV.out (by rw [show ((a.length - k : Nat) : Int) = (a.length : Int) - k by omega]; exact h2)
              have HD2 := Aside0.mk hdn
              clear h1 h2 hdn
              go_wp2_with (go_at_call 52; refine (Mis_is m a ((a.length : Int) - k) _ (HS.out.step (by repeat (first | exact Below.refl _ _ | apply zq2 | apply zq3 | apply zq4 | apply zq5))).now.1 hs HAY.out HV.out (by omega) (by omega)).mono ?_; rintro e w3 ⟨rfl, hb⟩; rw [HI.out]; have m_ := Aside0.mk (HS.out.call (by repeat (first | exact Below.refl _ _ | apply zq2 | apply zq3 | apply zq4 | apply zq5)) hb); clear HS hb ; have HS := m_; clear m_)
              go_roundw
              case measure => simp [intOf]; omega
              case rel => exact ⟨k - 1, by rw [show (k : Int) - 1 = ((k - 1 : Nat) : Int) by omega], by omega, by omega, HD2, HS⟩
        case rest =>
          clear HS HW hja hjb
          obtain ⟨t, rfl, hta, htb, HQ, HJ, HS⟩ := hcut
          have hdiff : IsDiff a b f t := ⟨(isPb_iff a f).1 HI.out, hta, htb, HP.out.pre.eq, HP.out.most, by rw [show ((a.length - t : Nat) : Int) = (a.length : Int) - t by omega]; exact (isPb_iff a _).1 HJ.out, HQ.out.suf.eq, HQ.out.far⟩
          obtain ⟨SB, sd, E2, hCs, hsd⟩ := cut_seg w B d b (f : Int) ((b.length : Int) - t) HR2.out HD.out (by omega) (by omega) (by omega)
          rw [show ((b.length : Int) - t).toNat = b.length - t by omega, Int.toNat_natCast] at E2 hCs hsd
          obtain ⟨seg, hseg⟩ : ∃ x, (b.take (b.length - t)).drop f = x := ⟨_, rfl⟩
          rw [hseg] at E2 hCs hsd
          obtain ⟨ss, hss⟩ : ∃ ss, strOfNums seg = ss := ⟨_, rfl⟩
          have HSS := Aside0.mk hss
          obtain ⟨fa, hfa'⟩ : ∃ x : Int, (fnd a (f : Int) : Int) = x := ⟨_, rfl⟩
          obtain ⟨pa, hpa'⟩ : ∃ x : Int, pch a (f : Int) = x := ⟨_, rfl⟩
          obtain ⟨fb, hfb'⟩ : ∃ x : Int, (fnd a ((a.length : Int) - t) : Int) = x := ⟨_, rfl⟩
          obtain ⟨pb, hpb'⟩ : ∃ x : Int, pch a ((a.length : Int) - t) = x := ⟨_, rfl⟩
          have HPO : Aside0 (IsDiff a b f t ∧ Value.agg #[.bool false, .int .i64 fa, .int .i64 pa, .int .i64 fb, .int .i64 pb, .string ss] = .agg #[.bool false, .int .i64 (fnd a f : Int), .int .i64 (pch a f), .int .i64 (fnd a ((a.length - t : Nat) : Int) : Int), .int .i64 (pch a ((a.length - t : Nat) : Int)), .string (strOfNums ((b.take (b.length - t)).drop f))]) := ⟨⟨hdiff, by rw [hseg, hss, show ((a.length - t : Nat) : Int) = (a.length : Int) - t by omega, hfa', hpa', hfb', hpb']⟩⟩
          have HFA := Aside0.mk hfa'
          have HPA := Aside0.mk hpa'
          have HFB := Aside0.mk hfb'
          have HPB := Aside0.mk hpb'
          have HCS : Aside0 (∀ W, Below w.heap.size w W → Kd.C (Kd.int .u8) W SB seg.length seg) := ⟨fun W hW => Kd.C_below hCs hW⟩
          clear hCs hdiff hseg hss hfa' hpa' hfb' hpb' HP HQ HI HJ hsd
          go_upto_region 21 with (go_at_call 53; refine (MRange_is m a (f : Int) ((a.length : Int) - t) _ (HS.out.step (by repeat (first | exact Below.refl _ _ | apply zq2 | apply zq3 | apply zq4 | apply zq5))).now.1 hs HAY.out HV.out (by omega) (by omega) (by omega)).mono ?_; rintro e w4 ⟨rfl, hb⟩; rw [HFA.out, HPA.out, HFB.out, HPB.out]; have m_ := Aside0.mk (HS.out.call (by repeat (first | exact Below.refl _ _ | apply zq2 | apply zq3 | apply zq4 | apply zq5)) hb); clear HS hb ; have HS := m_; clear m_)
          have HKS : ∀ W : World, Kd.C (Kd.int .u8) W SB seg.length seg → (convert 22 9 (.slice SB seg.length sd)).run Try.prog W = .ok (.string ss) W := fun W h => by
            have h2 := Kd.C_string (P := Try.prog) (w := W) (src := 22) (dst := 9) (e := 5) (c := sd) Try.underlying22 Try.underlying5 Try.underlying9 h
            rw [HSS.out] at h2
            exact h2
          have HS9 := Aside0.mk ((HS.out.step (below_alloc (Below.refl w4.heap.size w4) (.cells #[.int .i64 fa, .int .i64 pa, .int .i64 fb, .int .i64 pb] 27))).add (blk_new w4 (.cells #[.int .i64 fa, .int .i64 pa, .int .i64 fb, .int .i64 pb] 27)) (keeps_blk _ _))
          have hg6 := blk_lt HS.out.now.2.1
          clear HS
          generalize w4.alloc (.cells #[.int .i64 fa, .int .i64 pa, .int .i64 fb, .int .i64 pb] 27) = W6 at HS9 ⊢
          generalize w4.heap.size = g6 at HS9 hg6 ⊢
          have HS := HS9
          clear HS9
          have n1 := blk_lt HS.out.now.2.2.1
          have k0 : W6.cell? ⟨w.heap.size, 0, none⟩ = some (.bool false) := HS.out.now.2.2.1.cell 0
          have f0 := HS.out.now.2.2.1.frozen 0
          have k1 : W6.cell? ⟨w.heap.size, 1, none⟩ = some (.int .i64 0) := HS.out.now.2.2.1.cell 1
          have f1 := HS.out.now.2.2.1.frozen 1
          have k2 : W6.cell? ⟨w.heap.size, 2, none⟩ = some (.int .i64 0) := HS.out.now.2.2.1.cell 2
          have f2 := HS.out.now.2.2.1.frozen 2
          have k3 : W6.cell? ⟨w.heap.size, 3, none⟩ = some (.int .i64 0) := HS.out.now.2.2.1.cell 3
          have f3 := HS.out.now.2.2.1.frozen 3
          have k4 : W6.cell? ⟨w.heap.size, 4, none⟩ = some (.int .i64 0) := HS.out.now.2.2.1.cell 4
          have f4 := HS.out.now.2.2.1.frozen 4
          have k5 : W6.cell? ⟨w.heap.size, 5, none⟩ = some (.string ⟨#[]⟩) := HS.out.now.2.2.1.cell 5
          have f5 := HS.out.now.2.2.1.frozen 5
          have z0 : W6.cell? ⟨g6, 0, none⟩ = some (.int .i64 fa) := HS.out.now.1.cell 0
          have z1 : W6.cell? ⟨g6, 1, none⟩ = some (.int .i64 pa) := HS.out.now.1.cell 1
          have z2 : W6.cell? ⟨g6, 2, none⟩ = some (.int .i64 fb) := HS.out.now.1.cell 2
          have z3 : W6.cell? ⟨g6, 3, none⟩ = some (.int .i64 pb) := HS.out.now.1.cell 3
          have e3 := Nat.ne_of_lt hg6
          have e4 := Ne.symm e3
          have ks0 := HKS W6 (HCS.out _ HS.out.bel)
          have ks1 := HKS W6.drew (Kd.C_drew (HCS.out _ HS.out.bel))
          have q9 : Below w.heap.size w ((((((W6.setCell ⟨w.heap.size, 0, none⟩ (.bool false)).setCell ⟨w.heap.size, 1, none⟩ (.int .i64 fa)).setCell ⟨w.heap.size, 2, none⟩ (.int .i64 pa)).setCell ⟨w.heap.size, 3, none⟩ (.int .i64 fb)).setCell ⟨w.heap.size, 4, none⟩ (.int .i64 pb)).setCell ⟨w.heap.size, 5, none⟩ (.string ss)) := ((((((HS.out.bel.setCell (Nat.le_refl _) _).setCell (Nat.le_refl _) _).setCell (Nat.le_refl _) _).setCell (Nat.le_refl _) _).setCell (Nat.le_refl _) _).setCell (Nat.le_refl _) _)
          have ks5 := HKS (((((((W6.setCell ⟨w.heap.size, 0, none⟩ (.bool false)).setCell ⟨w.heap.size, 1, none⟩ (.int .i64 fa)).setCell ⟨w.heap.size, 2, none⟩ (.int .i64 pa)).setCell ⟨w.heap.size, 3, none⟩ (.int .i64 fb)).setCell ⟨w.heap.size, 4, none⟩ (.int .i64 pb)).setCell ⟨w.heap.size, 5, none⟩ (.string ss)).drew) (Kd.C_drew (HCS.out _ q9))
          clear q9 HKS
          have v5 : IntKind.i64.wrap ((b.length : Int) - t) = (b.length : Int) - t := IntWalk.i64_in _ (by omega)
          have v6 : (0 : Int) ≤ f := by omega
          have v7 : (f : Int) ≤ (b.length : Int) - t := by omega
          go_region_held3 (fun wx => wx.cell? ⟨g6, 0, none⟩ = some (.int .i64 fa) ∧ wx.cell? ⟨g6, 1, none⟩ = some (.int .i64 pa) ∧ wx.cell? ⟨g6, 2, none⟩ = some (.int .i64 fb) ∧ wx.cell? ⟨g6, 3, none⟩ = some (.int .i64 pb) ∧ (convert 22 9 (.slice SB seg.length sd)).run Try.prog wx = .ok (.string ss) wx) (go_keep) (fail)
          all_goals
            go_wp2
            first | rw [Exit.noGoto_ret] | skip
            refine bodyPost_ret (v := .tuple #[.agg #[.bool false, .int .i64 fa, .int .i64 pa, .int .i64 fb, .int .i64 pb, .string ss], .int .i64 0]) (results_ct (p := 4) (u := 5) (ty := 29) rfl _ _ w.heap.size 29 #[.bool false, .int .i64 fa, .int .i64 pa, .int .i64 fb, .int .i64 pb, .string ss] (0, 0) _ rfl ?_ Try.underlying29 rfl (by kernel_rfl)) rfl ⟨⟨f, t, HPO.out.1, by rw [HPO.out.2]⟩, ?_⟩
            · show IsBlk _ w.heap.size _
              (repeat (with_reducible first | refine IsBlk.alloc ?_ _ | refine IsBlk.drewN ?_ _ | refine IsBlk.drew1 ?_))
              with_reducible refine blk6 (z0 := .bool false) (z1 := .int .i64 0) (z2 := .int .i64 0) (z3 := .int .i64 0) (z4 := .int .i64 0) (z5 := .string ⟨#[]⟩) ?_ _ _ _ _ _ _
              repeat (with_reducible first | exact HS.out.now.2.2.1 | refine IsBlk.alloc ?_ _ | refine IsBlk.drewN ?_ _ | refine IsBlk.drew1 ?_)
            · have hS := HS.out.bel
              (repeat (first | (with_reducible exact hS) | (with_reducible refine below_alloc ?_ _) | (with_reducible refine pw_below_drewN ?_ _) | (with_reducible refine below_drew1 ?_) | ((with_reducible refine Below.setCell ?_ ?_ _); rotate_left; (focus (first | (simp; done) | (simp; omega))))))
          
end Go.Proofs.Ytjebkpcekkkbkaa.B
namespace Go.Proofs.Ytjebkpcekkkbkaa.B
open Go.RowKit Go.Shelf Go.Proofs Go.Proofs.YtjebkpcekkkbkaaW.PrintWords Go.Proofs.YtjebkpcekkkbkaaW.PrintLast Go.Proofs.YtjebkpcekkkbkaaW.PrintMore Go.Proofs.Ytjebkpcekkkbkaa.FBase
def edOf (x : S29) : Ed := ⟨x.f0, x.f1.f0.f0, x.f1.f0.f1, x.f1.f1.f0, x.f1.f1.f1, bytesOf x.f2⟩
theorem eall_snoc (l : List Int) (a : List Ed) (e : Ed) (cur : List Int) (h : eall l a = (cur, 0)) : eall l (a ++ [e]) = if (eone cur e).2 ≠ 0 then ([], (eone cur e).2) else ((eone cur e).1, 0) := by
  rw [eall_app, h, if_neg (by simp)]
  simp [eall]
theorem eall_stop (l : List Int) (a b : List Ed) (h : (eall l a).2 ≠ 0) : eall l (a ++ b) = ([], (eall l a).2) := by
  rw [eall_app, if_pos h]
set_option maxRecDepth 100000 in
set_option maxHeartbeats 4000000 in
theorem Apply_bad (A E : Option Addr) (c d : Nat) (l : List Int) (es : List S29) (w : World) (hr : Kd.C (Kd.int .u8) w A l.length l) (hc : l.length ≤ c) (hn : A = none → c = 0) (hre : Kd.C k29 w E es.length es) (hB : Bytes l) (hs : l.length ≤ 1048576) (hz : (chk l).2 ≠ 0) :
    Calls Try.prog 27 #[.slice A l.length c, .slice E es.length d] w fun e w' => ∃ v : Value, e = .returned (.tuple #[v, .int .i64 (chk l).2]) ∧ Kd.R (Kd.int .u8) 5 w' w.heap.size (fun _ => True) v [] ∧ Below w.heap.size w w' := by
  have HS : Aside0 (Sta w w (fun W => Kd.C (Kd.int .u8) W A l.length l ∧ Kd.C k29 W E es.length es)) := ⟨⟨Below.refl _ _, ⟨hr, hre⟩, keeps_and (keeps_C _ _ _ _) (keeps_C _ _ _ _)⟩⟩
  have HC := Aside0.mk hc
  have HBY := Aside0.mk hB
  have HT := Aside0.mk (texts1_f l hB hs)
  obtain ⟨r, hk⟩ : ∃ r, (chk l).2 = r := ⟨_, rfl⟩
  rw [hk] at HT hz ⊢
  have hz1 : (r != 0) = true := bne_iff_ne.mpr hz
  clear hz hk hB hr hre hc
  go_enter Try.func27, Try.ntmps27
  go_wp2_with (go_at_call 51; refine (edit_texts.calls _ _ _ [l] _ _ (row1_at _ _ (by simp) _ _ l (HS.out.step (by repeat (first | exact Below.refl _ _ | apply zq2 | apply zq3 | apply zq4 | apply zq5))).now.1 HC.out _) (Nat.le_refl _) HT.out).mono ?_; rintro e w1 ⟨rfl, hd⟩; have hb := hd.below; clear hd; have m_ := Aside0.mk (HS.out.call (by repeat (first | exact Below.refl _ _ | apply zq2 | apply zq3 | apply zq4 | apply zq5)) hb); clear HS hb ; have HS := m_; clear m_)
  go_ret2
  exact ⟨_, rfl, Kd.R_nil _ _ _ _ _, HS.out.bel⟩
set_option maxRecDepth 100000 in
set_option maxHeartbeats 4000000 in
theorem Apply_many (A E : Option Addr) (c d : Nat) (l : List Int) (es : List S29) (w : World) (hr : Kd.C (Kd.int .u8) w A l.length l) (hc : l.length ≤ c) (hn : A = none → c = 0) (hre : Kd.C k29 w E es.length es) (hB : Bytes l) (hs : l.length ≤ 1048576) (hz : (chk l).2 = 0) (hm : 32 < es.length) :
    Calls Try.prog 27 #[.slice A l.length c, .slice E es.length d] w fun e w' => ∃ v : Value, e = .returned (.tuple #[v, .int .i64 5]) ∧ Kd.R (Kd.int .u8) 5 w' w.heap.size (fun _ => True) v [] ∧ Below w.heap.size w w' := by
  have HS : Aside0 (Sta w w (fun W => Kd.C (Kd.int .u8) W A l.length l ∧ Kd.C k29 W E es.length es)) := ⟨⟨Below.refl _ _, ⟨hr, hre⟩, keeps_and (keeps_C _ _ _ _) (keeps_C _ _ _ _)⟩⟩
  have HC := Aside0.mk hc
  have HBY := Aside0.mk hB
  have HT := Aside0.mk (texts1_f l hB hs)
  rw [hz] at HT
  have g1 : decide (32 < (es.length : Int)) = true := decide_eq_true (by omega)
  clear hz hB hr hre hc
  go_enter Try.func27, Try.ntmps27
  go_wp2_with (go_at_call 51; refine (edit_texts.calls _ _ _ [l] _ _ (row1_at _ _ (by simp) _ _ l (HS.out.step (by repeat (first | exact Below.refl _ _ | apply zq2 | apply zq3 | apply zq4 | apply zq5))).now.1 HC.out _) (Nat.le_refl _) HT.out).mono ?_; rintro e w1 ⟨rfl, hd⟩; have hb := hd.below; clear hd; have m_ := Aside0.mk (HS.out.call (by repeat (first | exact Below.refl _ _ | apply zq2 | apply zq3 | apply zq4 | apply zq5)) hb); clear HS hb ; have HS := m_; clear m_)
  go_ret2
  exact ⟨_, rfl, Kd.R_nil _ _ _ _ _, HS.out.bel⟩
set_option maxRecDepth 100000 in
set_option maxHeartbeats 4000000 in
theorem Apply_ok (A E : Option Addr) (c d : Nat) (l : List Int) (es : List S29) (w : World) (hr : Kd.C (Kd.int .u8) w A l.length l) (hc : l.length ≤ c) (hn : A = none → c = 0) (hre : Kd.C k29 w E es.length es) (hB : Bytes l) (hs : l.length ≤ 1048576) (he : ∀ x ∈ es, x.f2.size ≤ 140737488351232 ∧ x.f1.f0.f1 ≤ 9223372036854775807 ∧ x.f1.f1.f1 ≤ 9223372036854775807) (hz : (chk l).2 = 0) (hm : ¬ 32 < es.length) :
    Calls Try.prog 27 #[.slice A l.length c, .slice E es.length d] w fun e w' => ∃ v : Value, e = .returned (.tuple #[v, .int .i64 (eall l (es.map edOf)).2]) ∧ Kd.R (Kd.int .u8) 5 w' w.heap.size (fun _ => True) v (eall l (es.map edOf)).1 ∧ Below w.heap.size w w' := by
  have HS : Aside0 (Sta w w (fun W => Kd.C (Kd.int .u8) W A l.length l ∧ Kd.C k29 W E es.length es)) := ⟨⟨Below.refl _ _, ⟨hr, hre⟩, keeps_and (keeps_C _ _ _ _) (keeps_C _ _ _ _)⟩⟩
  have HC := Aside0.mk hc
  have HBY := Aside0.mk hB
  have HT := Aside0.mk (texts1_f l hB hs)
  rw [hz] at HT
  have hv := (chk_V hB).1 hz
  have g1 : decide (32 < (es.length : Int)) = false := decide_eq_false (by omega)
  have HV := Aside0.mk hv
  have HE := Aside0.mk he
  clear hz hB hr hre hc hv he
  go_enter Try.func27, Try.ntmps27
  go_wp2_with (first | (go_at_call 51; refine (edit_texts.calls _ _ _ [l] _ _ (row1_at _ _ (by simp) _ _ l (HS.out.step (by repeat (first | exact Below.refl _ _ | apply zq2 | apply zq3 | apply zq4 | apply zq5))).now.1 HC.out _) (Nat.le_refl _) HT.out).mono ?_; rintro e w1 ⟨rfl, hd⟩; have hb := hd.below; clear hd; have m_ := Aside0.mk (HS.out.call (by repeat (first | exact Below.refl _ _ | apply zq2 | apply zq3 | apply zq4 | apply zq5)) hb); clear HS hb ; have HS := m_; clear m_) | (go_at_call 63; refine (BClone_ok A c l _ (HS.out.step (by repeat (first | exact Below.refl _ _ | apply zq2 | apply zq3 | apply zq4 | apply zq5))).now.1 HC.out hn (by omega)).mono ?_; rintro e w2 ⟨v, rfl, hR, hb⟩; have hR2 := Kd.R_lower hR (HS.out.step (by repeat (first | exact Below.refl _ _ | apply zq2 | apply zq3 | apply zq4 | apply zq5))).bel.size; clear hR; obtain ⟨A2, c2, rfl, hl2, hn2, hC2⟩ := Ap.read (.inr hR2); clear hC2; have HL2 := Aside0.mk hl2; have HN2 := Aside0.mk hn2; clear hl2 hn2; have m_ := Aside0.mk ((HS.out.call (by repeat (first | exact Below.refl _ _ | apply zq2 | apply zq3 | apply zq4 | apply zq5)) hb).add hR2 (keeps_R _ _ _ _ _ _)); clear HS hb hR2; have HS := m_; clear m_))
  go_loopw [7, 25] (fun s7 s25 W => ∃ (k : Nat) (A2 : Option Addr) (c2 : Nat) (cur : List Int), s25 = .int .i64 k ∧ s7 = .slice A2 cur.length c2 ∧ k ≤ es.length ∧ cur.length ≤ 1048576 ∧ Aside0 (cur.length ≤ c2) ∧ Aside0 (A2 = none → c2 = 0) ∧ Aside0 (Bytes cur) ∧ Aside0 (V cur) ∧ Aside0 (eall l ((es.take k).map edOf) = (cur, 0)) ∧ Aside0 (Sta w W (fun W => Kd.R (Kd.int .u8) 5 W w.heap.size (fun _ => True) (.slice A2 cur.length c2) cur ∧ Kd.C (Kd.int .u8) W A l.length l ∧ Kd.C k29 W E es.length es))) (fun _ s25 _ => es.length - (intOf s25).toNat)
  case atStart => exact ⟨0, A2, c2, l, rfl, rfl, Nat.zero_le _, hs, HL2, HN2, HBY, HV, ⟨rfl⟩, HS⟩
  case round =>
    clear HS HL2 HN2
    obtain ⟨k, A2, c2, cur, rfl, rfl, hk, hcl, HL2, HN2, HBC, HVC, HEA, HS⟩ := hrel
    by_cases h1 : k < es.length
    · have g2 : decide (k < es.length) = true := decide_eq_true h1
      obtain ⟨ad, e1, y0, y1, y2, y3, y4, y5⟩ := at_T29 HS.out.now.2.2 (k : Int) (by omega) (by omega)
      cases e1
      rw [Int.toNat_natCast] at y0 y1 y2 y3 y4 y5
      have hx : rd_T29 es (k : Int) ∈ es := by
        have : rd_T29 es (k : Int) = es[k] := by simp [rd_T29, List.getD, h1]
        rw [this]
        exact List.getElem_mem _
      have htk : (es.take (k + 1)).map edOf = (es.take k).map edOf ++ [edOf (rd_T29 es (k : Int))] := by
        rw [List.take_succ_eq_append_getElem h1, List.map_append]
        simp [rd_T29, List.getD, h1]
      obtain ⟨hx0, hx1, hx2⟩ := HE.out _ hx
      have hsn := eall_snoc l _ (edOf (rd_T29 es (k : Int))) cur HEA.out
      rw [← htk] at hsn
      generalize rd_T29 es (k : Int) = x at *
      obtain ⟨out, hout⟩ : ∃ o, (ech cur (bytesOf x.f2) x.f0 x.f1.f0.f0 x.f1.f0.f1 x.f1.f1.f0 x.f1.f1.f1).2.2.1 = o := ⟨_, rfl⟩
      obtain ⟨er, her⟩ : ∃ o, (ech cur (bytesOf x.f2) x.f0 x.f1.f0.f0 x.f1.f0.f1 x.f1.f1.f0 x.f1.f1.f1).2.2.2 = o := ⟨_, rfl⟩
      have e2 : eone cur (edOf x) = (out, er) := Prod.ext hout her
      rw [e2] at hsn
      have HEO := Aside0.mk hout
      have HEE := Aside0.mk her
      by_cases hz : er = 0
      · rw [if_neg (by simpa using hz)] at hsn
        subst hz
        have hV2 := eone_V (e := edOf x) HBC.out (bytesOf_B _) (by rw [e2])
        rw [e2] at hV2
        have HB3 := Aside0.mk hV2.2.1
        have HV3 := Aside0.mk hV2.1
        have hl3 : out.length ≤ 8192 := hV2.2.2
        have HE3 := Aside0.mk hsn
        clear hsn hV2 e2 hout her hx htk
        go_wp2_with (go_at_call 23; refine (One_is A2 c2 cur x.f0 x.f1.f0.f0 x.f1.f0.f1 x.f1.f1.f0 x.f1.f1.f1 x.f2 _ (Kd.R_reads' (HS.out.step (by repeat (first | exact Below.refl _ _ | apply zq2 | apply zq3 | apply zq4 | apply zq5))).now.1).2.2 HL2.out HN2.out HBC.out hcl hx0 hx1 hx2).mono ?_; rintro e w5 ⟨v, rfl, hR, hb⟩; rw [HEO.out] at hR; rw [HEE.out]; have hR2 := Kd.R_lower hR (HS.out.step (by repeat (first | exact Below.refl _ _ | apply zq2 | apply zq3 | apply zq4 | apply zq5))).bel.size; clear hR; obtain ⟨A3, c3, rfl, hl3, hn3, hC3⟩ := Ap.read (.inr hR2); clear hC3; have HL3 := Aside0.mk hl3; have HN3 := Aside0.mk hn3; clear hl3 hn3; have m_ := Aside0.mk ((HS.out.call (by repeat (first | exact Below.refl _ _ | apply zq2 | apply zq3 | apply zq4 | apply zq5)) hb).add hR2 (keeps_R _ _ _ _ _ _)); clear HS hb hR2; have HS := m_; clear m_)
        go_roundw
        case measure => simp [intOf]; omega
        case rel =>
          refine ⟨k + 1, A3, c3, out, by simp, rfl, by omega, by omega, HL3, HN3, HB3, HV3, HE3, ⟨HS.out.bel, ⟨HS.out.now.1, HS.out.now.2.2⟩, keeps_and (keeps_R _ _ _ _ _ _) (keeps_and (keeps_C _ _ _ _) (keeps_C _ _ _ _))⟩⟩
      · have hz1 : (er != 0) = true := bne_iff_ne.mpr hz
        rw [if_pos hz] at hsn
        have hfin : eall l (es.map edOf) = ([], er) := by
          have h9 := eall_stop l ((es.take (k + 1)).map edOf) ((es.drop (k + 1)).map edOf) (by rw [hsn]; exact hz)
          rw [← List.map_append, List.take_append_drop, hsn] at h9
          exact h9
        have HFIN := Aside0.mk hfin
        clear hsn e2 hout her hx htk hfin hz
        go_wp2_with (go_at_call 23; refine (One_is A2 c2 cur x.f0 x.f1.f0.f0 x.f1.f0.f1 x.f1.f1.f0 x.f1.f1.f1 x.f2 _ (Kd.R_reads' (HS.out.step (by repeat (first | exact Below.refl _ _ | apply zq2 | apply zq3 | apply zq4 | apply zq5))).now.1).2.2 HL2.out HN2.out HBC.out hcl hx0 hx1 hx2).mono ?_; rintro e w5 ⟨v, rfl, hR, hb⟩; rw [HEO.out] at hR; rw [HEE.out]; have hR2 := Kd.R_lower hR (HS.out.step (by repeat (first | exact Below.refl _ _ | apply zq2 | apply zq3 | apply zq4 | apply zq5))).bel.size; clear hR; obtain ⟨A3, c3, rfl, hl3, hn3, hC3⟩ := Ap.read (.inr hR2); clear hC3; have HL3 := Aside0.mk hl3; have HN3 := Aside0.mk hn3; clear hl3 hn3; have m_ := Aside0.mk ((HS.out.call (by repeat (first | exact Below.refl _ _ | apply zq2 | apply zq3 | apply zq4 | apply zq5)) hb).add hR2 (keeps_R _ _ _ _ _ _)); clear HS hb hR2; have HS := m_; clear m_)
        go_ret2
        rw [HFIN.out]
        exact ⟨_, rfl, Kd.R_nil _ _ _ _ _, HS.out.bel⟩
    · have g2 : decide (k < es.length) = false := decide_eq_false h1
      have hfin : eall l (es.map edOf) = (cur, 0) := by
        have h9 := HEA.out
        rw [List.take_of_length_le (by omega)] at h9
        exact h9
      have HFIN := Aside0.mk hfin
      clear hfin
      go_wp2
      go_ret2
      rw [HFIN.out]
      exact ⟨_, rfl, HS.out.now.1, HS.out.bel⟩
theorem Apply_is (A E : Option Addr) (c d : Nat) (l : List Int) (es : List S29) (w : World) (hr : Kd.C (Kd.int .u8) w A l.length l) (hc : l.length ≤ c) (hn : A = none → c = 0) (hre : Kd.C k29 w E es.length es) (hB : Bytes l) (hs : l.length ≤ 1048576) (he : ∀ x ∈ es, x.f2.size ≤ 140737488351232 ∧ x.f1.f0.f1 ≤ 9223372036854775807 ∧ x.f1.f1.f1 ≤ 9223372036854775807) : Calls Try.prog 27 #[.slice A l.length c, .slice E es.length d] w fun e w' => ∃ v : Value, e = .returned (.tuple #[v, .int .i64 (eapp l (es.map edOf)).2]) ∧ Kd.R (Kd.int .u8) 5 w' w.heap.size (fun _ => True) v (eapp l (es.map edOf)).1 ∧ Below w.heap.size w w' := by
  unfold eapp
  rw [List.length_map]
  by_cases h1 : (chk l).2 ≠ 0
  · rw [if_pos h1]
    exact Apply_bad A E c d l es w hr hc hn hre hB hs h1
  · rw [if_neg h1]
    by_cases h2 : 32 < es.length
    · rw [if_pos h2]
      exact Apply_many A E c d l es w hr hc hn hre hB hs (by omega) h2
    · rw [if_neg h2]
      exact Apply_ok A E c d l es w hr hc hn hre hB hs he (by omega) h2
def csF : Nat → List Int → Option (List (Int × Int))
  | 0, y => if y = [] then some [] else none
  | n + 1, y => if y = [] then some [] else if (dec y).2.2 = 0 then (csF n (y.drop (dec y).2.1.toNat)).map (fun r => ((dec y).2.1, usz (dec y).1) :: r) else none
theorem csF_ok : ∀ (n : Nat) {y : List Int} {r : List (Int × Int)}, csF n y = some r → Cs y r
  | 0, y, r, h => by
    simp only [csF] at h
    split at h
    · rename_i e
      subst e
      cases h
      exact .nil
    · cases h
  | n + 1, y, r, h => by
    simp only [csF] at h
    split at h
    · rename_i e
      subst e
      cases h
      exact .nil
    · split at h
      · rename_i he
        obtain ⟨q, hq, rfl⟩ := Option.map_eq_some_iff.1 h
        exact .step y q he (csF_ok n hq)
      · cases h
def findB (L : List Ln) (at_ : Int) (r : Nat) : Bool := decide (r < L.length) && (List.range r).all (fun t => decide ((rdLn L (t : Nat)).f2 ≤ at_)) && (decide (¬ r + 1 < L.length) || decide (at_ < (rdLn L r).f2))
theorem findB_ok {L : List Ln} {at_ : Int} {r : Nat} (h : findB L at_ r = true) : FindAt L at_ r := by
  simp only [findB, Bool.and_eq_true, Bool.or_eq_true, decide_eq_true_eq, List.all_eq_true, List.mem_range] at h
  refine ⟨h.1.1, h.1.2, fun h2 => ?_⟩
  rcases h.2 with h3 | h3
  · exact absurd h2 h3
  · exact h3
theorem poff_of {l : List Int} {L : List Ln} {line char : Int} (hL : lns l 0 0 = L) : poff l line char = if (L.length : Int) ≤ line then (l.length : Int) else (rdLn L line).f0 + off (chars (seg l (rdLn L line))) char := by unfold poff; rw [hL]
theorem One_at (A : Option Addr) (c : Nat) (l : List Int) (n : Nat) (hn1 : l.length = n) (wh : Bool) (x0 x1 x2 x3 : Int) (s : ByteArray) (w : World) (hr : Kd.C (Kd.int .u8) w A n l) (hc : n ≤ c) (hn : A = none → c = 0) (hB : Bytes l) (hs : n ≤ 1048576) (hs2 : s.size ≤ 140737488351232) (hx1 : x1 ≤ 9223372036854775807) (hx3 : x3 ≤ 9223372036854775807) :
    Calls Try.prog 23 #[.slice A n c, .agg #[.bool wh, .int .i64 x0, .int .i64 x1, .int .i64 x2, .int .i64 x3, .string s]] w fun e w' => ∃ v : Value, e = .returned (.tuple #[v, .int .i64 (ech l (bytesOf s) wh x0 x1 x2 x3).2.2.2]) ∧ Kd.R (Kd.int .u8) 5 w' w.heap.size (fun _ => True) v (ech l (bytesOf s) wh x0 x1 x2 x3).2.2.1 ∧ Below w.heap.size w w' := by
  subst hn1
  exact One_is A c l wh x0 x1 x2 x3 s w hr hc hn hB hs hs2 hx1 hx3
set_option maxRecDepth 100000 in
set_option maxHeartbeats 2000000 in
theorem makes_ok (sb s want : ByteArray) (wh : Bool) (x0 x1 x2 x3 : Int) (w : World) (hs : sb.size ≤ 1048576) (hs2 : s.size ≤ 140737488351232) (hx1 : x1 ≤ 9223372036854775807) (hx3 : x3 ≤ 9223372036854775807) (her : (ech (bytesOf sb) (bytesOf s) wh x0 x1 x2 x3).2.2.2 = 0) (hwa : strOfNums (ech (bytesOf sb) (bytesOf s) wh x0 x1 x2 x3).2.2.1 = want) :
    Calls Try.prog 32 #[.string sb, .agg #[.bool wh, .int .i64 x0, .int .i64 x1, .int .i64 x2, .int .i64 x3, .string s], .string want] w fun e w' => e = .returned (.bool true) ∧ Below w.heap.size w w' := by
  have HS := Aside0.mk ((Sta.start w).step (below_alloc (Below.refl _ w) (.cells #[.bool wh, .int .i64 x0, .int .i64 x1, .int .i64 x2, .int .i64 x3, .string s] 29)))
  have c0 : (w.alloc (.cells #[.bool wh, .int .i64 x0, .int .i64 x1, .int .i64 x2, .int .i64 x3, .string s] 29)).cell? ⟨w.heap.size, 0, none⟩ = some (.bool wh) := (blk_cell (blk_new w _) 0).trans rfl
  have c1 : (w.alloc (.cells #[.bool wh, .int .i64 x0, .int .i64 x1, .int .i64 x2, .int .i64 x3, .string s] 29)).cell? ⟨w.heap.size, 1, none⟩ = some (.int .i64 x0) := (blk_cell (blk_new w _) 1).trans rfl
  have c2 : (w.alloc (.cells #[.bool wh, .int .i64 x0, .int .i64 x1, .int .i64 x2, .int .i64 x3, .string s] 29)).cell? ⟨w.heap.size, 2, none⟩ = some (.int .i64 x1) := (blk_cell (blk_new w _) 2).trans rfl
  have c3 : (w.alloc (.cells #[.bool wh, .int .i64 x0, .int .i64 x1, .int .i64 x2, .int .i64 x3, .string s] 29)).cell? ⟨w.heap.size, 3, none⟩ = some (.int .i64 x2) := (blk_cell (blk_new w _) 3).trans rfl
  have c4 : (w.alloc (.cells #[.bool wh, .int .i64 x0, .int .i64 x1, .int .i64 x2, .int .i64 x3, .string s] 29)).cell? ⟨w.heap.size, 4, none⟩ = some (.int .i64 x3) := (blk_cell (blk_new w _) 4).trans rfl
  have c5 : (w.alloc (.cells #[.bool wh, .int .i64 x0, .int .i64 x1, .int .i64 x2, .int .i64 x3, .string s] 29)).cell? ⟨w.heap.size, 5, none⟩ = some (.string s) := (blk_cell (blk_new w _) 5).trans rfl
  have d0 : (Lib.bytesWorld (w.alloc (.cells #[.bool wh, .int .i64 x0, .int .i64 x1, .int .i64 x2, .int .i64 x3, .string s] 29)) 5 sb).cell? ⟨w.heap.size, 0, none⟩ = some (.bool wh) := cell_below c0 (bytes_step (Below.refl _ _))
  have d1 : (Lib.bytesWorld (w.alloc (.cells #[.bool wh, .int .i64 x0, .int .i64 x1, .int .i64 x2, .int .i64 x3, .string s] 29)) 5 sb).cell? ⟨w.heap.size, 1, none⟩ = some (.int .i64 x0) := cell_below c1 (bytes_step (Below.refl _ _))
  have d2 : (Lib.bytesWorld (w.alloc (.cells #[.bool wh, .int .i64 x0, .int .i64 x1, .int .i64 x2, .int .i64 x3, .string s] 29)) 5 sb).cell? ⟨w.heap.size, 2, none⟩ = some (.int .i64 x1) := cell_below c2 (bytes_step (Below.refl _ _))
  have d3 : (Lib.bytesWorld (w.alloc (.cells #[.bool wh, .int .i64 x0, .int .i64 x1, .int .i64 x2, .int .i64 x3, .string s] 29)) 5 sb).cell? ⟨w.heap.size, 3, none⟩ = some (.int .i64 x2) := cell_below c3 (bytes_step (Below.refl _ _))
  have d4 : (Lib.bytesWorld (w.alloc (.cells #[.bool wh, .int .i64 x0, .int .i64 x1, .int .i64 x2, .int .i64 x3, .string s] 29)) 5 sb).cell? ⟨w.heap.size, 4, none⟩ = some (.int .i64 x3) := cell_below c4 (bytes_step (Below.refl _ _))
  have d5 : (Lib.bytesWorld (w.alloc (.cells #[.bool wh, .int .i64 x0, .int .i64 x1, .int .i64 x2, .int .i64 x3, .string s] 29)) 5 sb).cell? ⟨w.heap.size, 5, none⟩ = some (.string s) := cell_below c5 (bytes_step (Below.refl _ _))
  have kb := fun W : World => print_bytes (P := Try.prog) 9 22 5 Try.underlying9 Try.underlying22 Try.underlying5 sb W
  obtain ⟨out, hout⟩ : ∃ o, (ech (bytesOf sb) (bytesOf s) wh x0 x1 x2 x3).2.2.1 = o := ⟨_, rfl⟩
  rw [hout] at hwa
  have HB1 := Aside0.mk (bytesOf_B sb)
  have HER := Aside0.mk her
  have HEO := Aside0.mk hout
  have HWA := Aside0.mk hwa
  clear her hout hwa
  go_enter Try.func32, Try.ntmps32
  go_wp2_with (go_at_call 23; refine (One_at _ _ (bytesOf sb) sb.size (bytesOf_length sb) wh x0 x1 x2 x3 s _ (bytes_at _ _ sb _ (by simp) (by omega)) (grownCap_ge _ _ _ _) (fun e => nomatch e) HB1.out hs hs2 hx1 hx3).mono ?_; rintro e w1 ⟨v, rfl, hR, hb⟩; rw [HER.out]; rw [HEO.out] at hR; obtain ⟨A2, cc2, rfl, hl2, hn2, hC2⟩ := Ap.read (.inr hR); have ks := Kd.C_string (P := Try.prog) (w := w1) (src := 22) (dst := 9) (e := 5) (c := cc2) Try.underlying22 Try.underlying5 Try.underlying9 hC2; rw [HWA.out] at ks; clear hR hl2 hn2 hC2; have m_ := Aside0.mk (HS.out.call (by repeat (first | exact Below.refl _ _ | apply zq2 | apply zq3 | apply zq4 | apply zq5)) hb); clear HS hb ; have HS := m_; clear m_)
  go_ret
  exact ⟨rfl, (HS.out.step (by repeat (first | exact Below.refl _ _ | apply zq2 | apply zq3 | apply zq4 | apply zq5))).bel⟩
theorem abc_lns : lns [97, 10, 98, 10, 99] 0 0 = [⟨0, 1, 2⟩, ⟨2, 3, 4⟩, ⟨4, 5, 5⟩] := by simp [lns]
theorem abc_B : Bytes [97, 10, 98, 10, 99] := by intro x hx; simp at hx; omega
theorem abc_V : V [97, 10, 98, 10, 99] := (csF_ok 40 (r := [(1, 1), (1, 1), (1, 1), (1, 1), (1, 1)]) (by decide +kernel)).v
theorem abc_chk : (chk [97, 10, 98, 10, 99]).2 = 0 := (chk_V abc_B).2 abc_V
theorem abc_cs0 : Cs (seg [97, 10, 98, 10, 99] ⟨0, 1, 2⟩) [(1, 1)] := csF_ok 40 (by decide +kernel)
theorem abc_cs1 : Cs (seg [97, 10, 98, 10, 99] ⟨2, 3, 4⟩) [(1, 1)] := csF_ok 40 (by decide +kernel)
theorem abc_cs2 : Cs (seg [97, 10, 98, 10, 99] ⟨4, 5, 5⟩) [(1, 1)] := csF_ok 40 (by decide +kernel)
theorem axyc_lns : lns [97, 10, 120, 121, 10, 99] 0 0 = [⟨0, 1, 2⟩, ⟨2, 4, 5⟩, ⟨5, 6, 6⟩] := by simp [lns]
theorem axyc_cs1 : Cs (seg [97, 10, 120, 121, 10, 99] ⟨2, 4, 5⟩) [(1, 1), (1, 1)] := csF_ok 40 (by decide +kernel)
theorem abc_at_1_0 : poff [97, 10, 98, 10, 99] 1 0 = 2 := by rw [poff_of abc_lns]; first | (rw [if_pos (by decide)]; rfl) | (rw [if_neg (by decide), show rdLn [⟨0, 1, 2⟩, ⟨2, 3, 4⟩, ⟨4, 5, 5⟩] 1 = ⟨2, 3, 4⟩ from rfl, chars_is abc_cs1]; rfl)
theorem abc_at_1_1 : poff [97, 10, 98, 10, 99] 1 1 = 3 := by rw [poff_of abc_lns]; first | (rw [if_pos (by decide)]; rfl) | (rw [if_neg (by decide), show rdLn [⟨0, 1, 2⟩, ⟨2, 3, 4⟩, ⟨4, 5, 5⟩] 1 = ⟨2, 3, 4⟩ from rfl, chars_is abc_cs1]; rfl)
theorem abc_at_0_5 : poff [97, 10, 98, 10, 99] 0 5 = 1 := by rw [poff_of abc_lns]; first | (rw [if_pos (by decide)]; rfl) | (rw [if_neg (by decide), show rdLn [⟨0, 1, 2⟩, ⟨2, 3, 4⟩, ⟨4, 5, 5⟩] 0 = ⟨0, 1, 2⟩ from rfl, chars_is abc_cs0]; rfl)
theorem abc_at_2_0 : poff [97, 10, 98, 10, 99] 2 0 = 4 := by rw [poff_of abc_lns]; first | (rw [if_pos (by decide)]; rfl) | (rw [if_neg (by decide), show rdLn [⟨0, 1, 2⟩, ⟨2, 3, 4⟩, ⟨4, 5, 5⟩] 2 = ⟨4, 5, 5⟩ from rfl, chars_is abc_cs2]; rfl)
theorem abc_of_2 : fnd [97, 10, 98, 10, 99] 2 = (1 : Nat) ∧ pch [97, 10, 98, 10, 99] 2 = 0 := by
  have h : fnd [97, 10, 98, 10, 99] 2 = 1 := fnd_eq (by rw [abc_lns]; exact findB_ok (by decide))
  refine ⟨h, ?_⟩
  unfold pch
  rw [h, abc_lns, show rdLn [⟨0, 1, 2⟩, ⟨2, 3, 4⟩, ⟨4, 5, 5⟩] ((1 : Nat) : Int) = ⟨2, 3, 4⟩ from rfl, chars_is abc_cs1]
  rfl
theorem abc_of_3 : fnd [97, 10, 98, 10, 99] 3 = (1 : Nat) ∧ pch [97, 10, 98, 10, 99] 3 = 1 := by
  have h : fnd [97, 10, 98, 10, 99] 3 = 1 := fnd_eq (by rw [abc_lns]; exact findB_ok (by decide))
  refine ⟨h, ?_⟩
  unfold pch
  rw [h, abc_lns, show rdLn [⟨0, 1, 2⟩, ⟨2, 3, 4⟩, ⟨4, 5, 5⟩] ((1 : Nat) : Int) = ⟨2, 3, 4⟩ from rfl, chars_is abc_cs1]
  rfl
theorem abc_is_2 : isPb [97, 10, 98, 10, 99] 2 = true := by
  unfold isPb
  rw [abc_of_2.1, abc_of_2.2]
  exact beq_iff_eq.mpr abc_at_1_0
theorem abc_is_3 : isPb [97, 10, 98, 10, 99] 3 = true := by
  unfold isPb
  rw [abc_of_3.1, abc_of_3.2]
  exact beq_iff_eq.mpr abc_at_1_1
theorem axyc_at_1_0 : poff [97, 10, 120, 121, 10, 99] 1 0 = 2 := by rw [poff_of axyc_lns]; first | (rw [if_pos (by decide)]; rfl) | (rw [if_neg (by decide), show rdLn [⟨0, 1, 2⟩, ⟨2, 4, 5⟩, ⟨5, 6, 6⟩] 1 = ⟨2, 4, 5⟩ from rfl, chars_is axyc_cs1]; rfl)
theorem axyc_at_1_2 : poff [97, 10, 120, 121, 10, 99] 1 2 = 4 := by rw [poff_of axyc_lns]; first | (rw [if_pos (by decide)]; rfl) | (rw [if_neg (by decide), show rdLn [⟨0, 1, 2⟩, ⟨2, 4, 5⟩, ⟨5, 6, 6⟩] 1 = ⟨2, 4, 5⟩ from rfl, chars_is axyc_cs1]; rfl)
theorem axyc_of_2 : fnd [97, 10, 120, 121, 10, 99] 2 = (1 : Nat) ∧ pch [97, 10, 120, 121, 10, 99] 2 = 0 := by
  have h : fnd [97, 10, 120, 121, 10, 99] 2 = 1 := fnd_eq (by rw [axyc_lns]; exact findB_ok (by decide))
  refine ⟨h, ?_⟩
  unfold pch
  rw [h, axyc_lns, show rdLn [⟨0, 1, 2⟩, ⟨2, 4, 5⟩, ⟨5, 6, 6⟩] ((1 : Nat) : Int) = ⟨2, 4, 5⟩ from rfl, chars_is axyc_cs1]
  rfl
theorem axyc_of_4 : fnd [97, 10, 120, 121, 10, 99] 4 = (1 : Nat) ∧ pch [97, 10, 120, 121, 10, 99] 4 = 2 := by
  have h : fnd [97, 10, 120, 121, 10, 99] 4 = 1 := fnd_eq (by rw [axyc_lns]; exact findB_ok (by decide))
  refine ⟨h, ?_⟩
  unfold pch
  rw [h, axyc_lns, show rdLn [⟨0, 1, 2⟩, ⟨2, 4, 5⟩, ⟨5, 6, 6⟩] ((1 : Nat) : Int) = ⟨2, 4, 5⟩ from rfl, chars_is axyc_cs1]
  rfl
theorem axyc_is_2 : isPb [97, 10, 120, 121, 10, 99] 2 = true := by
  unfold isPb
  rw [axyc_of_2.1, axyc_of_2.2]
  exact beq_iff_eq.mpr axyc_at_1_0
theorem axyc_is_4 : isPb [97, 10, 120, 121, 10, 99] 4 = true := by
  unfold isPb
  rw [axyc_of_4.1, axyc_of_4.2]
  exact beq_iff_eq.mpr axyc_at_1_2
theorem lit_mark (W : World) (g : Nat) (l : List Int) (cs : Array Value) (t : TypeId) (fr : Nat × Nat) (hg : W.heap.size = g) (hcs : cs.toList = l.map (Value.int .u8)) (hn : l.length ≤ 9223372036854775807) : Kd.C (Kd.int .u8) (W.alloc (.cells cs t fr)) (some ⟨g, 0, none⟩) l.length l := by
  subst hg
  refine Kd.C_of_reads (d := 0) ⟨rfl, hn, fun _ => ⟨_, rfl, fun j hj => ?_⟩⟩
  rw [show (⟨W.heap.size, 0, none⟩ : Addr).add j = ⟨W.heap.size, j, none⟩ by simp [Addr.add]; omega, cell_of_row _ _ j cs t fr (blk_new W _), ← Array.getElem?_toList, hcs]
  simp [List.getD, hj]
theorem conv_lit (w : World) (C : Array Value) (n c : Nat) : (convert 22 22 (.slice (some ⟨w.heap.size, 0, none⟩) n c)).run Try.prog (w.alloc (.cells C 5)) = .ok (.slice (some ⟨w.heap.size, 0, none⟩) n c) (w.alloc (.cells C 5 (C.size, C.size + 1))) :=
  Lib.run_convert_bytes_const (P := Try.prog) w 22 5 C n c Try.underlying22 Try.underlying5
theorem conv_lit2 (w : World) (o : Obj) (C : Array Value) (n c : Nat) : (convert 22 22 (.slice (some ⟨w.heap.size + 1, 0, none⟩) n c)).run Try.prog ((w.alloc o).alloc (.cells C 5)) = .ok (.slice (some ⟨w.heap.size + 1, 0, none⟩) n c) ((w.alloc o).alloc (.cells C 5 (C.size, C.size + 1))) := by
  have h := conv_lit (w.alloc o) C n c
  rw [World.size_alloc] at h
  exact h
theorem conv_lit3 (w : World) (o o' : Obj) (C : Array Value) (n c : Nat) : (convert 22 22 (.slice (some ⟨w.heap.size + 1 + 1, 0, none⟩) n c)).run Try.prog (((w.alloc o).alloc o').alloc (.cells C 5)) = .ok (.slice (some ⟨w.heap.size + 1 + 1, 0, none⟩) n c) (((w.alloc o).alloc o').alloc (.cells C 5 (C.size, C.size + 1))) := by
  have h := conv_lit2 (w.alloc o) o' C n c
  rw [World.size_alloc] at h
  exact h
theorem works_e1 : ech [97, 10, 98, 10, 99] (bytesOf ⟨#[120, 121]⟩) false 1 0 1 1 = (2, 3, [97, 10, 120, 121, 10, 99], 0) := by
  have hb : bytesOf ⟨#[120, 121]⟩ = [120, 121] := rfl
  have hx : (chk [120, 121]).2 = 0 := by decide +kernel
  rw [hb, ech_ok abc_chk hx (esp_at (by decide) (by decide) (by decide) (by decide) abc_at_1_0 abc_at_1_1 (by decide)) (by decide)]
  rfl
theorem works_e2 : ech [97, 10, 98, 10, 99] (bytesOf ⟨#[]⟩) false 0 5 2 0 = (1, 4, [97, 99], 0) := by
  have hb : bytesOf ⟨#[]⟩ = [] := rfl
  rw [hb, ech_ok abc_chk rfl (esp_at (by decide) (by decide) (by decide) (by decide) abc_at_0_5 abc_at_2_0 (by decide)) (by decide)]
  rfl
theorem works_m1 (w : World) : Calls Try.prog 32 #[.string ⟨#[97, 10, 98, 10, 99]⟩, .agg #[.bool false, .int .i64 1, .int .i64 0, .int .i64 1, .int .i64 1, .string ⟨#[120, 121]⟩], .string ⟨#[97, 10, 120, 121, 10, 99]⟩] w fun e w' => e = .returned (.bool true) ∧ Below w.heap.size w w' :=
  makes_ok ⟨#[97, 10, 98, 10, 99]⟩ ⟨#[120, 121]⟩ ⟨#[97, 10, 120, 121, 10, 99]⟩ false 1 0 1 1 w (by decide) (by decide) (by decide) (by decide)
    (by rw [show bytesOf ⟨#[97, 10, 98, 10, 99]⟩ = [97, 10, 98, 10, 99] from rfl, works_e1]) (by rw [show bytesOf ⟨#[97, 10, 98, 10, 99]⟩ = [97, 10, 98, 10, 99] from rfl, works_e1]; rfl)
theorem works_m2 (w : World) : Calls Try.prog 32 #[.string ⟨#[97, 10, 98, 10, 99]⟩, .agg #[.bool false, .int .i64 0, .int .i64 5, .int .i64 2, .int .i64 0, .string ⟨#[]⟩], .string ⟨#[97, 99]⟩] w fun e w' => e = .returned (.bool true) ∧ Below w.heap.size w w' :=
  makes_ok ⟨#[97, 10, 98, 10, 99]⟩ ⟨#[]⟩ ⟨#[97, 99]⟩ false 0 5 2 0 w (by decide) (by decide) (by decide) (by decide)
    (by rw [show bytesOf ⟨#[97, 10, 98, 10, 99]⟩ = [97, 10, 98, 10, 99] from rfl, works_e2]) (by rw [show bytesOf ⟨#[97, 10, 98, 10, 99]⟩ = [97, 10, 98, 10, 99] from rfl, works_e2]; rfl)
theorem works_B3 : Bytes [97, 10, 66, 10, 99] := by intro x hx; simp at hx; omega
theorem works_back (g : Nat) (w : World) (hr : Kd.C (Kd.int .u8) w (some ⟨g, 0, none⟩) 5 [97, 10, 98, 10, 99]) :
    Calls Try.prog 24 #[.slice (some ⟨g, 0, none⟩) 5 5, .agg #[.bool false, .int .i64 1, .int .i64 0, .int .i64 1, .int .i64 1, .string ⟨#[120, 121]⟩]] w fun e w' => e = .returned (.tuple #[.agg #[.bool false, .int .i64 1, .int .i64 0, .int .i64 1, .int .i64 2, .string ⟨#[98]⟩], .int .i64 0]) ∧ Below w.heap.size w w' := by
  have h := Back_ok (some ⟨g, 0, none⟩) 5 [97, 10, 98, 10, 99] false 1 0 1 1 ⟨#[120, 121]⟩ w hr (by decide) (fun e => nomatch e) abc_B (by decide) (by decide) (by decide) (by decide) rfl (by rw [works_e1]) (by rw [works_e1]; exact axyc_is_2) (by rw [works_e1]; exact axyc_is_4)
  rw [works_e1] at h
  have e1 : ((2 : Int) + (({ data := #[120, 121] } : ByteArray).size : Int)) = 4 := rfl
  simp only [e1] at h
  rw [axyc_of_2.1, axyc_of_2.2, axyc_of_4.1, axyc_of_4.2] at h
  exact h
theorem works_dif : IsDiff [97, 10, 98, 10, 99] [97, 10, 66, 10, 99] 2 2 := by
  refine ⟨(isPb_iff _ _).1 abc_is_2, by decide, by decide, rfl, fun n h1 h2 h3 h4 => ?_, (isPb_iff _ _).1 abc_is_3, rfl, fun n h1 h2 h3 h4 => ?_⟩
  · have : n = 3 ∨ n = 4 ∨ n = 5 := by simp at h2; omega
    rcases this with rfl | rfl | rfl <;> exact absurd h4 (by decide)
  · have : n = 3 := by simp at h2; omega
    subst this
    exact absurd h4 (by decide)
theorem works_diff (g g' : Nat) (w : World) (hr : Kd.C (Kd.int .u8) w (some ⟨g, 0, none⟩) 5 [97, 10, 98, 10, 99]) (hr2 : Kd.C (Kd.int .u8) w (some ⟨g', 0, none⟩) 5 [97, 10, 66, 10, 99]) :
    Calls Try.prog 18 #[.slice (some ⟨g, 0, none⟩) 5 5, .slice (some ⟨g', 0, none⟩) 5 5] w fun e w' => e = .returned (.tuple #[.agg #[.bool false, .int .i64 1, .int .i64 0, .int .i64 1, .int .i64 1, .string ⟨#[66]⟩], .int .i64 0]) ∧ Below w.heap.size w w' := by
  have h3 : (chk [97, 10, 66, 10, 99]).2 = 0 := by decide +kernel
  refine (Diff_ok (some ⟨g, 0, none⟩) (some ⟨g', 0, none⟩) 5 5 [97, 10, 98, 10, 99] [97, 10, 66, 10, 99] w hr (by decide) hr2 (by decide) (fun e => nomatch e) abc_B works_B3 (by decide) (by decide) abc_chk h3 (by decide)).mono ?_
  rintro e w' ⟨⟨f, t, hd, rfl⟩, hb⟩
  obtain ⟨rfl, rfl⟩ := hd.uniq works_dif
  refine ⟨?_, hb⟩
  have e2 : ((([97, 10, 98, 10, 99] : List Int).length - 2 : Nat) : Int) = 3 := rfl
  rw [e2]
  have a1 := abc_of_2.1
  have a2 := abc_of_2.2
  have a3 := abc_of_3.1
  have a4 := abc_of_3.2
  rw [show ((2 : Nat) : Int) = 2 from rfl, a1, a2, a3, a4]
  rfl
set_option maxRecDepth 100000 in
set_option maxHeartbeats 4000000 in
theorem works15_ok (w : World) : Calls Try.prog 21 #[] w fun e w' => e = .returned (.bool true) ∧ Below w.heap.size w w' := by
  have HS := Aside0.mk (Sta.start w)
  have t1 := True.intro
  go_enter Try.func21, Try.ntmps21
  have kc := conv_lit
  have kc2 := conv_lit2
  have kc3 := conv_lit3
  go_upto_region 3 with (first | (have _t := t1; go_at_call 30; refine (colophonlaw15_at.calls 1 0 1 1 ⟨#[120, 121]⟩ _ _ _ _ _ _ _ rfl).mono ?_; rintro e w1 ⟨rfl, hb⟩; have hL := Kd.C_below (lit_mark w _ [97, 10, 98, 10, 99] #[.int .u8 97, .int .u8 10, .int .u8 98, .int .u8 10, .int .u8 99] 5 (5, 6) rfl rfl (by decide)) hb; have m_ := Aside0.mk ((HS.out.call (by repeat (first | exact Below.refl _ _ | apply zq2 | apply zq3 | apply zq4 | apply zq5)) hb).add hL (keeps_C _ _ _ _)); clear HS hb hL; have HS := m_; clear m_; clear t1 _t) | (go_at_call 24; refine (works_back _ _ (HS.out.step (by repeat (first | exact Below.refl _ _ | apply zq2 | apply zq3 | apply zq4 | apply zq5))).now.1).mono ?_; rintro e w2 ⟨rfl, hb⟩; have m_ := Aside0.mk (HS.out.call (by repeat (first | exact Below.refl _ _ | apply zq2 | apply zq3 | apply zq4 | apply zq5)) hb); clear HS hb ; have HS := m_; clear m_) | (go_at_call 18; refine (works_diff _ _ _ (Kd.C_below (lit_mark (w2.alloc (.cells #[.bool false, .int .i64 1, .int .i64 0, .int .i64 1, .int .i64 2, .string ⟨#[98]⟩] 29)) _ [97, 10, 98, 10, 99] #[.int .u8 97, .int .u8 10, .int .u8 98, .int .u8 10, .int .u8 99] 5 (5, 6) (by simp) rfl (by decide)) (below_alloc (Below.refl _ _) _)) (lit_mark _ _ [97, 10, 66, 10, 99] #[.int .u8 97, .int .u8 10, .int .u8 66, .int .u8 10, .int .u8 99] 5 (5, 6) (by simp) rfl (by decide))).mono ?_; rintro e w3 ⟨rfl, hb⟩; have hbx := IsBlk.below (IsBlk.below (IsBlk.below (blk_new w2 (.cells #[.bool false, .int .i64 1, .int .i64 0, .int .i64 1, .int .i64 2, .string ⟨#[98]⟩] 29)) (below_alloc (Below.refl _ _) _)) (below_alloc (Below.refl _ _) _)) hb; have m_ := Aside0.mk ((HS.out.call (by repeat (first | exact Below.refl _ _ | apply zq2 | apply zq3 | apply zq4 | apply zq5)) hb).add hbx (keeps_blk _ _)); clear HS hb hbx; have HS := m_; clear m_))
  have m_ := Aside0.mk ((HS.out.step (below_alloc (Below.refl _ w3) (.cells #[.bool false, .int .i64 1, .int .i64 0, .int .i64 1, .int .i64 1, .string ⟨#[66]⟩] 29))).add (blk_new w3 (.cells #[.bool false, .int .i64 1, .int .i64 0, .int .i64 1, .int .i64 1, .string ⟨#[66]⟩] 29)) (keeps_blk _ _))
  clear HS kc kc2 kc3
  have HS := m_
  clear m_
  generalize w3.alloc (.cells #[.bool false, .int .i64 1, .int .i64 0, .int .i64 1, .int .i64 1, .string ⟨#[66]⟩] 29) = W5 at HS ⊢
  generalize w3.heap.size = g3 at HS ⊢
  generalize w2.heap.size = g1 at HS ⊢
  have p0 : W5.cell? ⟨g1, 0, none⟩ = some (.bool false) := HS.out.now.2.1.cell 0
  have q0 : W5.cell? ⟨g3, 0, none⟩ = some (.bool false) := HS.out.now.1.cell 0
  have p1 : W5.cell? ⟨g1, 1, none⟩ = some (.int .i64 1) := HS.out.now.2.1.cell 1
  have q1 : W5.cell? ⟨g3, 1, none⟩ = some (.int .i64 1) := HS.out.now.1.cell 1
  have p2 : W5.cell? ⟨g1, 2, none⟩ = some (.int .i64 0) := HS.out.now.2.1.cell 2
  have q2 : W5.cell? ⟨g3, 2, none⟩ = some (.int .i64 0) := HS.out.now.1.cell 2
  have p3 : W5.cell? ⟨g1, 3, none⟩ = some (.int .i64 1) := HS.out.now.2.1.cell 3
  have q3 : W5.cell? ⟨g3, 3, none⟩ = some (.int .i64 1) := HS.out.now.1.cell 3
  have p4 : W5.cell? ⟨g1, 4, none⟩ = some (.int .i64 2) := HS.out.now.2.1.cell 4
  have q4 : W5.cell? ⟨g3, 4, none⟩ = some (.int .i64 1) := HS.out.now.1.cell 4
  have p5 : W5.cell? ⟨g1, 5, none⟩ = some (.string ⟨#[98]⟩) := HS.out.now.2.1.cell 5
  have q5 : W5.cell? ⟨g3, 5, none⟩ = some (.string ⟨#[66]⟩) := HS.out.now.1.cell 5
  have t2 := True.intro
  have t3 := True.intro
  have t4 := True.intro
  have t5 := True.intro
  have t6 := True.intro
  have t7 := True.intro
  have q1_ : ∀ W : World, (binOp .eql 29 (.agg #[.bool false, .int .i64 1, .int .i64 0, .int .i64 1, .int .i64 2, .string ⟨#[98]⟩]) (.agg #[.bool false, .int .i64 1, .int .i64 0, .int .i64 1, .int .i64 2, .string ⟨#[98]⟩])).run Try.prog W = .ok (.bool true) W := fun _ => by kernel_rfl
  have q3_ : ∀ W : World, (binOp .eql 29 (.agg #[.bool false, .int .i64 1, .int .i64 0, .int .i64 1, .int .i64 1, .string ⟨#[66]⟩]) (.agg #[.bool false, .int .i64 1, .int .i64 0, .int .i64 1, .int .i64 1, .string ⟨#[66]⟩])).run Try.prog W = .ok (.bool true) W := fun _ => by kernel_rfl
  go_region_held3 (fun wx => wx.cell? ⟨g1, 0, none⟩ = some (.bool false) ∧ wx.cell? ⟨g1, 1, none⟩ = some (.int .i64 1) ∧ wx.cell? ⟨g1, 2, none⟩ = some (.int .i64 0) ∧ wx.cell? ⟨g1, 3, none⟩ = some (.int .i64 1) ∧ wx.cell? ⟨g1, 4, none⟩ = some (.int .i64 2) ∧ wx.cell? ⟨g1, 5, none⟩ = some (.string ⟨#[98]⟩) ∧ wx.cell? ⟨g3, 0, none⟩ = some (.bool false) ∧ wx.cell? ⟨g3, 1, none⟩ = some (.int .i64 1) ∧ wx.cell? ⟨g3, 2, none⟩ = some (.int .i64 0) ∧ wx.cell? ⟨g3, 3, none⟩ = some (.int .i64 1) ∧ wx.cell? ⟨g3, 4, none⟩ = some (.int .i64 1) ∧ wx.cell? ⟨g3, 5, none⟩ = some (.string ⟨#[66]⟩)) (go_keep) (first | (have _t := t2; go_at_call 30; refine (colophonlaw15_at.calls 1 0 1 1 ⟨#[120, 121]⟩ _ _ _ _ _ _ _ rfl).mono ?_; rintro e w6 ⟨rfl, hb⟩; have m_ := Aside0.mk (HS.out.call (by repeat (first | exact Below.refl _ _ | apply zq2 | apply zq3 | apply zq4 | apply zq5)) hb); clear HS hb ; have HS := m_; clear m_; have p0 : w6.cell? ⟨g1, 0, none⟩ = some (.bool false) := HS.out.now.2.1.cell 0; have q0 : w6.cell? ⟨g3, 0, none⟩ = some (.bool false) := HS.out.now.1.cell 0; have p1 : w6.cell? ⟨g1, 1, none⟩ = some (.int .i64 1) := HS.out.now.2.1.cell 1; have q1 : w6.cell? ⟨g3, 1, none⟩ = some (.int .i64 1) := HS.out.now.1.cell 1; have p2 : w6.cell? ⟨g1, 2, none⟩ = some (.int .i64 0) := HS.out.now.2.1.cell 2; have q2 : w6.cell? ⟨g3, 2, none⟩ = some (.int .i64 0) := HS.out.now.1.cell 2; have p3 : w6.cell? ⟨g1, 3, none⟩ = some (.int .i64 1) := HS.out.now.2.1.cell 3; have q3 : w6.cell? ⟨g3, 3, none⟩ = some (.int .i64 1) := HS.out.now.1.cell 3; have p4 : w6.cell? ⟨g1, 4, none⟩ = some (.int .i64 2) := HS.out.now.2.1.cell 4; have q4 : w6.cell? ⟨g3, 4, none⟩ = some (.int .i64 1) := HS.out.now.1.cell 4; have p5 : w6.cell? ⟨g1, 5, none⟩ = some (.string ⟨#[98]⟩) := HS.out.now.2.1.cell 5; have q5 : w6.cell? ⟨g3, 5, none⟩ = some (.string ⟨#[66]⟩) := HS.out.now.1.cell 5; clear t2 _t) | (have _t := t3; go_at_call 32; refine (works_m1 _).mono ?_; rintro e w6 ⟨rfl, hb⟩; have m_ := Aside0.mk (HS.out.call (by repeat (first | exact Below.refl _ _ | apply zq2 | apply zq3 | apply zq4 | apply zq5)) hb); clear HS hb ; have HS := m_; clear m_; have p0 : w6.cell? ⟨g1, 0, none⟩ = some (.bool false) := HS.out.now.2.1.cell 0; have q0 : w6.cell? ⟨g3, 0, none⟩ = some (.bool false) := HS.out.now.1.cell 0; have p1 : w6.cell? ⟨g1, 1, none⟩ = some (.int .i64 1) := HS.out.now.2.1.cell 1; have q1 : w6.cell? ⟨g3, 1, none⟩ = some (.int .i64 1) := HS.out.now.1.cell 1; have p2 : w6.cell? ⟨g1, 2, none⟩ = some (.int .i64 0) := HS.out.now.2.1.cell 2; have q2 : w6.cell? ⟨g3, 2, none⟩ = some (.int .i64 0) := HS.out.now.1.cell 2; have p3 : w6.cell? ⟨g1, 3, none⟩ = some (.int .i64 1) := HS.out.now.2.1.cell 3; have q3 : w6.cell? ⟨g3, 3, none⟩ = some (.int .i64 1) := HS.out.now.1.cell 3; have p4 : w6.cell? ⟨g1, 4, none⟩ = some (.int .i64 2) := HS.out.now.2.1.cell 4; have q4 : w6.cell? ⟨g3, 4, none⟩ = some (.int .i64 1) := HS.out.now.1.cell 4; have p5 : w6.cell? ⟨g1, 5, none⟩ = some (.string ⟨#[98]⟩) := HS.out.now.2.1.cell 5; have q5 : w6.cell? ⟨g3, 5, none⟩ = some (.string ⟨#[66]⟩) := HS.out.now.1.cell 5; clear t3 _t) | (have _t := t4; go_at_call 30; refine (colophonlaw15_at.calls 0 5 2 0 ⟨#[]⟩ _ _ _ _ _ _ _ rfl).mono ?_; rintro e w6 ⟨rfl, hb⟩; have m_ := Aside0.mk (HS.out.call (by repeat (first | exact Below.refl _ _ | apply zq2 | apply zq3 | apply zq4 | apply zq5)) hb); clear HS hb ; have HS := m_; clear m_; have p0 : w6.cell? ⟨g1, 0, none⟩ = some (.bool false) := HS.out.now.2.1.cell 0; have q0 : w6.cell? ⟨g3, 0, none⟩ = some (.bool false) := HS.out.now.1.cell 0; have p1 : w6.cell? ⟨g1, 1, none⟩ = some (.int .i64 1) := HS.out.now.2.1.cell 1; have q1 : w6.cell? ⟨g3, 1, none⟩ = some (.int .i64 1) := HS.out.now.1.cell 1; have p2 : w6.cell? ⟨g1, 2, none⟩ = some (.int .i64 0) := HS.out.now.2.1.cell 2; have q2 : w6.cell? ⟨g3, 2, none⟩ = some (.int .i64 0) := HS.out.now.1.cell 2; have p3 : w6.cell? ⟨g1, 3, none⟩ = some (.int .i64 1) := HS.out.now.2.1.cell 3; have q3 : w6.cell? ⟨g3, 3, none⟩ = some (.int .i64 1) := HS.out.now.1.cell 3; have p4 : w6.cell? ⟨g1, 4, none⟩ = some (.int .i64 2) := HS.out.now.2.1.cell 4; have q4 : w6.cell? ⟨g3, 4, none⟩ = some (.int .i64 1) := HS.out.now.1.cell 4; have p5 : w6.cell? ⟨g1, 5, none⟩ = some (.string ⟨#[98]⟩) := HS.out.now.2.1.cell 5; have q5 : w6.cell? ⟨g3, 5, none⟩ = some (.string ⟨#[66]⟩) := HS.out.now.1.cell 5; clear t4 _t) | (have _t := t5; go_at_call 32; refine (works_m2 _).mono ?_; rintro e w6 ⟨rfl, hb⟩; have m_ := Aside0.mk (HS.out.call (by repeat (first | exact Below.refl _ _ | apply zq2 | apply zq3 | apply zq4 | apply zq5)) hb); clear HS hb ; have HS := m_; clear m_; have p0 : w6.cell? ⟨g1, 0, none⟩ = some (.bool false) := HS.out.now.2.1.cell 0; have q0 : w6.cell? ⟨g3, 0, none⟩ = some (.bool false) := HS.out.now.1.cell 0; have p1 : w6.cell? ⟨g1, 1, none⟩ = some (.int .i64 1) := HS.out.now.2.1.cell 1; have q1 : w6.cell? ⟨g3, 1, none⟩ = some (.int .i64 1) := HS.out.now.1.cell 1; have p2 : w6.cell? ⟨g1, 2, none⟩ = some (.int .i64 0) := HS.out.now.2.1.cell 2; have q2 : w6.cell? ⟨g3, 2, none⟩ = some (.int .i64 0) := HS.out.now.1.cell 2; have p3 : w6.cell? ⟨g1, 3, none⟩ = some (.int .i64 1) := HS.out.now.2.1.cell 3; have q3 : w6.cell? ⟨g3, 3, none⟩ = some (.int .i64 1) := HS.out.now.1.cell 3; have p4 : w6.cell? ⟨g1, 4, none⟩ = some (.int .i64 2) := HS.out.now.2.1.cell 4; have q4 : w6.cell? ⟨g3, 4, none⟩ = some (.int .i64 1) := HS.out.now.1.cell 4; have p5 : w6.cell? ⟨g1, 5, none⟩ = some (.string ⟨#[98]⟩) := HS.out.now.2.1.cell 5; have q5 : w6.cell? ⟨g3, 5, none⟩ = some (.string ⟨#[66]⟩) := HS.out.now.1.cell 5; clear t5 _t) | (have _t := t6; go_at_call 30; refine (colophonlaw15_at.calls 1 0 1 2 ⟨#[98]⟩ _ _ _ _ _ _ _ rfl).mono ?_; rintro e w6 ⟨rfl, hb⟩; have m_ := Aside0.mk (HS.out.call (by repeat (first | exact Below.refl _ _ | apply zq2 | apply zq3 | apply zq4 | apply zq5)) hb); clear HS hb ; have HS := m_; clear m_; have p0 : w6.cell? ⟨g1, 0, none⟩ = some (.bool false) := HS.out.now.2.1.cell 0; have q0 : w6.cell? ⟨g3, 0, none⟩ = some (.bool false) := HS.out.now.1.cell 0; have p1 : w6.cell? ⟨g1, 1, none⟩ = some (.int .i64 1) := HS.out.now.2.1.cell 1; have q1 : w6.cell? ⟨g3, 1, none⟩ = some (.int .i64 1) := HS.out.now.1.cell 1; have p2 : w6.cell? ⟨g1, 2, none⟩ = some (.int .i64 0) := HS.out.now.2.1.cell 2; have q2 : w6.cell? ⟨g3, 2, none⟩ = some (.int .i64 0) := HS.out.now.1.cell 2; have p3 : w6.cell? ⟨g1, 3, none⟩ = some (.int .i64 1) := HS.out.now.2.1.cell 3; have q3 : w6.cell? ⟨g3, 3, none⟩ = some (.int .i64 1) := HS.out.now.1.cell 3; have p4 : w6.cell? ⟨g1, 4, none⟩ = some (.int .i64 2) := HS.out.now.2.1.cell 4; have q4 : w6.cell? ⟨g3, 4, none⟩ = some (.int .i64 1) := HS.out.now.1.cell 4; have p5 : w6.cell? ⟨g1, 5, none⟩ = some (.string ⟨#[98]⟩) := HS.out.now.2.1.cell 5; have q5 : w6.cell? ⟨g3, 5, none⟩ = some (.string ⟨#[66]⟩) := HS.out.now.1.cell 5; clear t6 _t) | (have _t := t7; go_at_call 30; refine (colophonlaw15_at.calls 1 0 1 1 ⟨#[66]⟩ _ _ _ _ _ _ _ rfl).mono ?_; rintro e w6 ⟨rfl, hb⟩; have m_ := Aside0.mk (HS.out.call (by repeat (first | exact Below.refl _ _ | apply zq2 | apply zq3 | apply zq4 | apply zq5)) hb); clear HS hb ; have HS := m_; clear m_; have p0 : w6.cell? ⟨g1, 0, none⟩ = some (.bool false) := HS.out.now.2.1.cell 0; have q0 : w6.cell? ⟨g3, 0, none⟩ = some (.bool false) := HS.out.now.1.cell 0; have p1 : w6.cell? ⟨g1, 1, none⟩ = some (.int .i64 1) := HS.out.now.2.1.cell 1; have q1 : w6.cell? ⟨g3, 1, none⟩ = some (.int .i64 1) := HS.out.now.1.cell 1; have p2 : w6.cell? ⟨g1, 2, none⟩ = some (.int .i64 0) := HS.out.now.2.1.cell 2; have q2 : w6.cell? ⟨g3, 2, none⟩ = some (.int .i64 0) := HS.out.now.1.cell 2; have p3 : w6.cell? ⟨g1, 3, none⟩ = some (.int .i64 1) := HS.out.now.2.1.cell 3; have q3 : w6.cell? ⟨g3, 3, none⟩ = some (.int .i64 1) := HS.out.now.1.cell 3; have p4 : w6.cell? ⟨g1, 4, none⟩ = some (.int .i64 2) := HS.out.now.2.1.cell 4; have q4 : w6.cell? ⟨g3, 4, none⟩ = some (.int .i64 1) := HS.out.now.1.cell 4; have p5 : w6.cell? ⟨g1, 5, none⟩ = some (.string ⟨#[98]⟩) := HS.out.now.2.1.cell 5; have q5 : w6.cell? ⟨g3, 5, none⟩ = some (.string ⟨#[66]⟩) := HS.out.now.1.cell 5; clear t7 _t))
  go_wp2
  go_ret
  exact ⟨rfl, (HS.out.step (by repeat (first | exact Below.refl _ _ | apply zq2 | apply zq3 | apply zq4 | apply zq5))).bel⟩
theorem eq_f (l : List Int) (hl : l.length ≤ 1048576) : colophonref00_EqBytes.f (l.length + 1) l l = some true := by
  rw [EqBytes_f l l hl (Nat.lt_succ_self _)]
  simp
end Go.Proofs.Ytjebkpcekkkbkaa.B
namespace Go.Proofs.Ytjebkpcekkkbkaa.B
open Go.RowKit Go.ChangeShapes Go.WideShapes Go.Joins Go.Deep Go.Proofs.YtjebkpcekkkbkaaW.PrintWords Go.Proofs.Ytjebkpcekkkbkaa.FBase
section
variable {H : Type} {enc : TypeId × Value → H} {P : Program} {W : World} {base : Nat} {spare : Nat → Bool} {held : Bool} {r : Reach} {b0 : Nat}
theorem trod_two {tp : TypeId} {g0 g1 : Field} (hp : P.underlying tp = some (.struct #[g0, g1])) (i0 : P.underlying g0.type = some (.int .i64)) (i1 : P.underlying g1.type = some (.int .i64)) (p0 : g0.offset = 0) (p1 : g1.offset = 1) (k0 : P.cellsOf g0.type = 1) (k1 : P.cellsOf g1.type = 1) (hC : P.cellsOf tp = 2)
    {fuel : Nat} {cs : List Value} {x : DataW H × List MemPlace} (h : DataW.trod enc P W base spare held fuel tp cs = some x) :
    ∃ x0 x1 : Int, cs = [.int .i64 x0, .int .i64 x1] ∧ x = (.agg [.lit (.int .i64 x0), .lit (.int .i64 x1)], []) ∧ (Lit.int .i64 x0).wf = true ∧ (Lit.int .i64 x1).wf = true := by
  obtain ⟨y0, y1, n, hx, hl, h0, h1⟩ := trod_struct2 hp h
  match cs, hl.trans hC with
  | [c0, c1], _ =>
    simp [k0, k1, p0, p1] at h0 h1
    obtain ⟨x0, e0, rfl, w0⟩ := DataW.trod_int i0 h0
    obtain ⟨x1, e1, rfl, w1⟩ := DataW.trod_int i1 h1
    cases e0
    cases e1
    exact ⟨x0, x1, rfl, by simpa using hx, w0, w1⟩
theorem trod_four {tr tp : TypeId} {f0 f1 g0 g1 : Field} (hr : P.underlying tr = some (.struct #[f0, f1])) (e0 : f0.type = tp) (e1 : f1.type = tp) (o0 : f0.offset = 0) (o1 : f1.offset = 2) (hR : P.cellsOf tr = 4)
    (hp : P.underlying tp = some (.struct #[g0, g1])) (i0 : P.underlying g0.type = some (.int .i64)) (i1 : P.underlying g1.type = some (.int .i64)) (p0 : g0.offset = 0) (p1 : g1.offset = 1) (k0 : P.cellsOf g0.type = 1) (k1 : P.cellsOf g1.type = 1) (hC : P.cellsOf tp = 2)
    {fuel : Nat} {cs : List Value} {x : DataW H × List MemPlace} (h : DataW.trod enc P W base spare held fuel tr cs = some x) :
    ∃ x0 x1 x2 x3 : Int, cs = [.int .i64 x0, .int .i64 x1, .int .i64 x2, .int .i64 x3] ∧ x.2 = [] ∧ (Lit.int .i64 x0).wf = true ∧ (Lit.int .i64 x1).wf = true ∧ (Lit.int .i64 x2).wf = true ∧ (Lit.int .i64 x3).wf = true := by
  obtain ⟨y0, y1, n, hx, hl, h0, h1⟩ := trod_struct2 hr h
  rw [e0] at h0
  rw [e1] at h1
  match cs, hl.trans hR with
  | [c0, c1, c2, c3], _ =>
    simp [o0, o1, hC] at h0 h1
    obtain ⟨x0, x1, e0, rfl, w0, w1⟩ := trod_two hp i0 i1 p0 p1 k0 k1 hC h0
    obtain ⟨x2, x3, e1, rfl, w2, w3⟩ := trod_two hp i0 i1 p0 p1 k0 k1 hC h1
    cases e0
    cases e1
    exact ⟨x0, x1, x2, x3, rfl, by rw [hx]; rfl, w0, w1, w2, w3⟩
theorem trod_edit_of {te tr tp : TypeId} {u0 u1 u2 f0 f1 g0 g1 : Field} (he : P.underlying te = some (.struct #[u0, u1, u2])) (hE : P.cellsOf te = 6) (a0 : u0.offset = 0) (a1 : u1.offset = 1) (a2 : u2.offset = 5) (b0 : P.underlying u0.type = some .bool) (b1 : u1.type = tr) (b2 : P.underlying u2.type = some .string) (c0 : P.cellsOf u0.type = 1) (c2 : P.cellsOf u2.type = 1)
    (hr : P.underlying tr = some (.struct #[f0, f1])) (e0 : f0.type = tp) (e1 : f1.type = tp) (o0 : f0.offset = 0) (o1 : f1.offset = 2) (hR : P.cellsOf tr = 4)
    (hp : P.underlying tp = some (.struct #[g0, g1])) (i0 : P.underlying g0.type = some (.int .i64)) (i1 : P.underlying g1.type = some (.int .i64)) (p0 : g0.offset = 0) (p1 : g1.offset = 1) (k0 : P.cellsOf g0.type = 1) (k1 : P.cellsOf g1.type = 1) (hC : P.cellsOf tp = 2)
    {fuel : Nat} {cs : List Value} {x : DataW H × List MemPlace} (h : DataW.trod enc P W base spare held fuel te cs = some x) :
    ∃ (b : Bool) (x0 x1 x2 x3 : Int) (s : ByteArray) (y : DataW H), cs = [.bool b, .int .i64 x0, .int .i64 x1, .int .i64 x2, .int .i64 x3, .string s] ∧ x = (.agg [.lit (.bool b), y, .lit (.string s.data.toList)], []) ∧
      (Lit.int .i64 x0).wf = true ∧ (Lit.int .i64 x1).wf = true ∧ (Lit.int .i64 x2).wf = true ∧ (Lit.int .i64 x3).wf = true ∧ s.size ≤ maxLen := by
  obtain ⟨y0, y1, y2, n, hx, hl, h0, h1, h2⟩ := trod_struct3 he h
  rw [b1] at h1
  match cs, hl.trans hE with
  | [v0, v1, v2, v3, v4, v5], _ =>
    simp [a0, a1, a2, c0, c2, hR] at h0 h1 h2
    obtain ⟨b, q0, rfl⟩ := DataW.trod_bool b0 h0
    obtain ⟨x0, x1, x2, x3, q1, hy, w0, w1, w2, w3⟩ := trod_four hr e0 e1 o0 o1 hR hp i0 i1 p0 p1 k0 k1 hC h1
    obtain ⟨s, q2, rfl, hs⟩ := DataW.trod_string b2 h2
    cases q0
    cases q1
    cases q2
    refine ⟨b, x0, x1, x2, x3, s, y1.1, rfl, ?_, w0, w1, w2, w3, hs⟩
    rw [hx, hy]
    simp
theorem trod_edit {fuel : Nat} {cs : List Value} {x : DataW H × List MemPlace} (h : DataW.trod enc Try.prog W base spare held fuel 29 cs = some x) :
    ∃ (b : Bool) (x0 x1 x2 x3 : Int) (s : ByteArray) (y : DataW H), cs = [.bool b, .int .i64 x0, .int .i64 x1, .int .i64 x2, .int .i64 x3, .string s] ∧ x = (.agg [.lit (.bool b), y, .lit (.string s.data.toList)], []) ∧
      (Lit.int .i64 x0).wf = true ∧ (Lit.int .i64 x1).wf = true ∧ (Lit.int .i64 x2).wf = true ∧ (Lit.int .i64 x3).wf = true ∧ s.size ≤ maxLen :=
  trod_edit_of Try.underlying29 (by kernel_rfl) rfl rfl rfl Try.underlying4 rfl Try.underlying9 (by kernel_rfl) (by kernel_rfl) Try.underlying27 rfl rfl rfl rfl (by kernel_rfl) Try.underlying25 Try.underlying3 Try.underlying3 rfl rfl (by kernel_rfl) (by kernel_rfl) (by kernel_rfl) h
end
end Go.Proofs.Ytjebkpcekkkbkaa.B
namespace Go.Proofs.Ytjebkpcekkkbkaa.B
open Go.RowKit Go.ChangeShapes Go.WideShapes Go.Joins Go.Deep Go.Proofs.YtjebkpcekkkbkaaW.PrintWords Go.Proofs.Ytjebkpcekkkbkaa.FBase
def IsEds (W : World) (E : Option Addr) (len cap : Nat) (es : List S29) : Prop :=
  es.length = len ∧ len ≤ cap ∧ len ≤ 1048576 ∧ (E = none → cap = 0) ∧ Kd.C k29 W E es.length es ∧ ∀ x ∈ es, x.f2.size ≤ 1048576 ∧ x.f1.f0.f1 ≤ 9223372036854775807 ∧ x.f1.f1.f1 ≤ 9223372036854775807
section
variable {H : Type} {enc : TypeId × Value → H} {W : World} {base : Nat} {spare : Nat → Bool} {held : Bool}
theorem addr_add (a : Addr) (i j : Nat) : (a.add i).add j = a.add (i + j) := Go.Deep.add_add a i j
set_option maxRecDepth 100000 in
theorem open_eds {fuel : Nat} {E : Option Addr} {len cap : Nat} {x : DataW H × List MemPlace} (h : DataW.trod enc Try.prog W base spare held fuel 47 [.slice E len cap] = some x) (hk : Rows.uptoBulk x.1 ≤ 1048576) :
    ∃ es, IsEds W E len cap es := by
  rcases open_slice Try.underlying47 h with ⟨hcs, _⟩ | ⟨a, len', cap', m, n, D, Pl, hcs, hb, hl, hm, hmm, rfl, hx⟩
  · obtain ⟨rfl, rfl, rfl⟩ : E = none ∧ len = 0 ∧ cap = 0 := by simpa using hcs
    exact ⟨[], rfl, Nat.le_refl _, by decide, fun _ => rfl, Kd.C_nil _ _, fun x hx => nomatch hx⟩
  · obtain ⟨rfl, rfl, rfl⟩ : E = some a ∧ len = len' ∧ cap = cap' := by simpa using hcs
    clear hcs
    have hlm : len ≤ m := by rw [hmm]; split <;> omega
    have h6 : Try.prog.cellsOf 29 = 6 := by kernel_rfl
    have hsl := bulks.slice_le (H := H) ((List.range len).map D) ((List.range (m - len)).map fun j => D (len + j))
    have hse := bulks.slice_elems (H := H) ((List.range len).map D) ((List.range (m - len)).map fun j => D (len + j))
    simp only [List.length_map, List.length_range] at hsl
    have key : ∀ i, i < len → ∃ x : S29, (∀ j u, [Value.bool x.f0, .int .i64 x.f1.f0.f0, .int .i64 x.f1.f0.f1, .int .i64 x.f1.f1.f0, .int .i64 x.f1.f1.f1, .string x.f2][j]? = some u → W.cell? (a.add (i * 6 + j)) = some u) ∧ x.f2.size ≤ 1048576 ∧ x.f1.f0.f1 ≤ 9223372036854775807 ∧ x.f1.f1.f1 ≤ 9223372036854775807 := by
      intro i hi
      obtain ⟨cs', h1, h2⟩ := hx i (by omega)
      obtain ⟨b, x0, x1, x2, x3, s, y, rfl, hd, w0, w1, w2, w3, hs⟩ := trod_edit h2
      obtain ⟨_, hlen, hcell⟩ := World.cells?_some h1
      refine ⟨⟨b, ⟨⟨x0, x1⟩, ⟨x2, x3⟩⟩, s⟩, fun j u hj => ?_, ?_, (int_wf w1).2, (int_wf w3).2⟩
      · have hj6 : j < 6 := by
          have := (List.getElem?_eq_some_iff.1 hj).1
          simpa using this
        have := hcell j (by rw [h6]; exact hj6)
        rw [addr_add, h6] at this
        rw [this]
        exact hj
      · have hD : D i ∈ (List.range len).map D := List.mem_map.2 ⟨i, List.mem_range.2 hi, rfl⟩
        have p1 := bulks.part_le hD
        rw [(Prod.mk.inj hd).1] at p1
        have p2 : Rows.uptoBulkAll [DataW.lit (H := H) (.bool b), y, .lit (.string s.data.toList)] ≤ Rows.uptoBulk (.agg [DataW.lit (H := H) (.bool b), y, .lit (.string s.data.toList)]) := by simp [Rows.uptoBulk]
        have p3 := bulks.part_le (H := H) (d := .lit (.string s.data.toList)) (l := [DataW.lit (H := H) (.bool b), y, .lit (.string s.data.toList)]) (by simp)
        rw [bulks.string_eq] at p3
        have p4 : s.data.toList.length = s.size := Array.length_toList
        simp only at hk
        show s.size ≤ 1048576
        omega
    haveI : Inhabited S29 := ⟨z29⟩
    obtain ⟨V, hV⟩ := choose_lt key
    have hel : ((List.range len).map V).length = len := by simp
    refine ⟨(List.range len).map V, hel, hl, by simp only at hk; omega, fun e => (by cases e), ⟨rfl, by rw [hel]; unfold maxLen at hm; omega, fun _ => ⟨a, rfl, fun j p hj => ?_⟩⟩, fun x hxm => ?_⟩
    · obtain ⟨hj1, rfl⟩ := List.getElem?_eq_some_iff.1 hj
      have hj2 : j < len := by simpa using hj1
      refine ⟨_, ?_, k29_mk W _, fun i u hu => ?_⟩
      · rfl
      · simp only [List.getElem_map, List.getElem_range] at hu
        exact (hV j hj2).1 i u hu
    · obtain ⟨i, hi, rfl⟩ := List.mem_map.1 hxm
      exact (hV i (List.mem_range.1 hi)).2
end
theorem cutE_pre (W : World) (E : Option Addr) (c : Nat) (es : List S29) (x1 : Int) (hC : Kd.C k29 W E es.length es) (hc : es.length ≤ c) (h0 : 0 ≤ x1) (h2 : x1 ≤ es.length) :
    (∀ W1 : World, (Instr.slice 47 (.slice E es.length c) none (some (.int .i64 x1)) none).run Try.prog W1 = .ok (.slice E (es.take x1.toNat).length c) W1) ∧
      Kd.C k29 W E (es.take x1.toNat).length (es.take x1.toNat) := by
  obtain ⟨i0, hi0, _, hsz, _⟩ := info_parts info29
  have hcut := cut_to (P := Try.prog) 47 29 .i64 Try.underlying47 hi0 E es.length c x1 h0 h2 hc
  have hmid := Kd.C_take hC (m := x1.toNat) (by omega)
  have hml : (es.take x1.toNat).length = x1.toNat := by rw [List.length_take]; omega
  refine ⟨fun W1 => ?_, hmid⟩
  rw [hml]; exact hcut W1
end Go.Proofs.Ytjebkpcekkkbkaa.B
namespace Go.Proofs.Ytjebkpcekkkbkaa.B
open Go.RowKit Go.Shelf Go.Proofs Go.Proofs.YtjebkpcekkkbkaaW.PrintWords Go.Proofs.YtjebkpcekkkbkaaW.PrintLast Go.Proofs.YtjebkpcekkkbkaaW.PrintMore Go.Proofs.Ytjebkpcekkkbkaa.FBase
theorem eall_len : ∀ (es : List Ed) (l : List Int), Bytes l → V l → l.length ≤ 8192 → (∀ e ∈ es, Bytes e.t) → (eall l es).1.length ≤ 8192
  | [], l, _, _, hn, _ => by simpa [eall] using hn
  | e :: es, l, hB, hV, hn, hT => by
    unfold eall
    by_cases h : (eone l e).2 = 0
    · have hv := eone_V hB (hT e (by simp)) h
      have := eall_len es (eone l e).1 hv.2.1 hv.1 hv.2.2 (fun x hx => hT x (by simp [hx]))
      simp only [h]
      simpa using this
    · simp [h]
theorem eapp_len (l : List Int) (es : List Ed) (hB : Bytes l) (hn : l.length ≤ 8192) (hT : ∀ e ∈ es, Bytes e.t) : (eapp l es).1.length ≤ 8192 := by
  unfold eapp
  by_cases h1 : (chk l).2 ≠ 0
  · rw [if_pos h1]; simp
  · rw [if_neg h1]
    by_cases h2 : 32 < es.length
    · rw [if_pos h2]; simp
    · rw [if_neg h2]
      exact eall_len es l hB ((chk_V hB).1 (by omega)) hn hT
theorem eds_T (es : List S29) : ∀ e ∈ es.map edOf, Bytes e.t := by
  intro e he
  obtain ⟨x, _, rfl⟩ := List.mem_map.1 he
  exact bytesOf_B _
structure Fr (a b : List Int) (k f : Nat) : Prop where
  p : IsP a f
  la : f ≤ a.length
  lb : f ≤ b.length
  pre : a.take f = b.take f
  most : ∀ j : Nat, f < j → j < k → ¬ IsP a j
theorem Fr.no {a b : List Int} {k f : Nat} (h : Fr a b k f) (h4 : ¬ IsP a k) : Fr a b (k + 1) f :=
  ⟨h.p, h.la, h.lb, h.pre, fun j h5 h6 => by
    rcases Nat.lt_or_ge j k with h7 | h7
    · exact h.most j h5 h7
    · obtain rfl : j = k := by omega
      exact h4⟩
theorem box6 {W : World} {b : Nat} {v0 v1 v2 v3 v4 v5 : Value} {t : TypeId} (h : IsBlk W b (.cells #[v0, v1, v2, v3, v4, v5] t)) :
    W.cell? ⟨b, 0, none⟩ = some v0 ∧ W.cell? ⟨b, 1, none⟩ = some v1 ∧ W.cell? ⟨b, 2, none⟩ = some v2 ∧ W.cell? ⟨b, 3, none⟩ = some v3 ∧ W.cell? ⟨b, 4, none⟩ = some v4 ∧ W.cell? ⟨b, 5, none⟩ = some v5 ∧
    (∀ o, (W.alloc o).cell? ⟨b, 0, none⟩ = some v0) ∧ (∀ o, (W.alloc o).cell? ⟨b, 1, none⟩ = some v1) ∧ (∀ o, (W.alloc o).cell? ⟨b, 2, none⟩ = some v2) ∧ (∀ o, (W.alloc o).cell? ⟨b, 3, none⟩ = some v3) ∧ (∀ o, (W.alloc o).cell? ⟨b, 4, none⟩ = some v4) ∧ (∀ o, (W.alloc o).cell? ⟨b, 5, none⟩ = some v5) :=
  have e0 : W.cell? ⟨b, 0, none⟩ = some v0 := h.cell 0
  have e1 : W.cell? ⟨b, 1, none⟩ = some v1 := h.cell 1
  have e2 : W.cell? ⟨b, 2, none⟩ = some v2 := h.cell 2
  have e3 : W.cell? ⟨b, 3, none⟩ = some v3 := h.cell 3
  have e4 : W.cell? ⟨b, 4, none⟩ = some v4 := h.cell 4
  have e5 : W.cell? ⟨b, 5, none⟩ = some v5 := h.cell 5
  ⟨e0, e1, e2, e3, e4, e5, cell_alloc1 e0, cell_alloc1 e1, cell_alloc1 e2, cell_alloc1 e3, cell_alloc1 e4, cell_alloc1 e5⟩
set_option maxRecDepth 100000 in
set_option maxHeartbeats 8000000 in
theorem RSp_whole (A : Option Addr) (c : Nat) (l : List Int) (wh : Bool) (x0 x1 x2 x3 : Int) (s : ByteArray) (w : World) (hr : Kd.C (Kd.int .u8) w A l.length l) (hc : l.length ≤ c) (hB : Bytes l) (hs : l.length ≤ 1048576) (hl : (chk l).2 = 0) (hx1 : x1 ≤ 9223372036854775807) (hx3 : x3 ≤ 9223372036854775807) (hw : wh = true) : Calls Try.prog 91 #[.slice A l.length c, .agg #[.bool wh, .int .i64 x0, .int .i64 x1, .int .i64 x2, .int .i64 x3, .string s]] w fun e w' => e = .returned (.tuple #[.agg #[.int .i64 0, .int .i64 l.length], .int .i64 0]) ∧ Below w.heap.size w w' := by
  subst hw
  have hb1 := below_alloc (Below.refl _ w) (.cells #[.bool true, .int .i64 x0, .int .i64 x1, .int .i64 x2, .int .i64 x3, .string s] 29)
  have hb2 : Below (w.alloc (.cells #[.bool true, .int .i64 x0, .int .i64 x1, .int .i64 x2, .int .i64 x3, .string s] 29)).heap.size (w.alloc (.cells #[.bool true, .int .i64 x0, .int .i64 x1, .int .i64 x2, .int .i64 x3, .string s] 29)) ((w.alloc (.cells #[.bool true, .int .i64 x0, .int .i64 x1, .int .i64 x2, .int .i64 x3, .string s] 29)).alloc (.cells #[.int .i64 0, .int .i64 0] 44)) := below_alloc (Below.refl _ _) _
  have hg : IsBlk ((w.alloc (.cells #[.bool true, .int .i64 x0, .int .i64 x1, .int .i64 x2, .int .i64 x3, .string s] 29)).alloc (.cells #[.int .i64 0, .int .i64 0] 44)) (w.alloc (.cells #[.bool true, .int .i64 x0, .int .i64 x1, .int .i64 x2, .int .i64 x3, .string s] 29)).heap.size (.cells #[.int .i64 0, .int .i64 0] 44) := blk_new _ _
  rw [World.size_alloc] at hg
  have HS : Aside0 (Sta w ((w.alloc (.cells #[.bool true, .int .i64 x0, .int .i64 x1, .int .i64 x2, .int .i64 x3, .string s] 29)).alloc (.cells #[.int .i64 0, .int .i64 0] 44)) (fun W => IsBlk W w.heap.size (.cells #[.bool true, .int .i64 x0, .int .i64 x1, .int .i64 x2, .int .i64 x3, .string s] 29) ∧ IsBlk W (w.heap.size + 1) (.cells #[.int .i64 0, .int .i64 0] 44) ∧ Kd.C (Kd.int .u8) W A l.length l)) := ⟨⟨below_step hb1 hb2, ⟨IsBlk.below (blk_new w _) hb2, hg, Kd.C_below (Kd.C_below hr hb1) hb2⟩, keeps_and (keeps_blk _ _) (keeps_and (keeps_blk _ _) (keeps_C _ _ _ _))⟩⟩
  clear hb1 hb2 hg hr
  have HCl := Aside0.mk hc
  have HBY := Aside0.mk hB
  obtain ⟨c0, c1, c2, c3, c4, c5, -⟩ := box6 HS.out.now.1
  have k0 : ((w.alloc (.cells #[.bool true, .int .i64 x0, .int .i64 x1, .int .i64 x2, .int .i64 x3, .string s] 29)).alloc (.cells #[.int .i64 0, .int .i64 0] 44)).cell? ⟨w.heap.size + 1, 0, none⟩ = some (.int .i64 0) := HS.out.now.2.1.cell 0
  have f0 := HS.out.now.2.1.frozen 0
  have k1 : ((w.alloc (.cells #[.bool true, .int .i64 x0, .int .i64 x1, .int .i64 x2, .int .i64 x3, .string s] 29)).alloc (.cells #[.int .i64 0, .int .i64 0] 44)).cell? ⟨w.heap.size + 1, 1, none⟩ = some (.int .i64 0) := HS.out.now.2.1.cell 1
  have f1 := HS.out.now.2.1.frozen 1
  clear hB hl hc
  go_enter Try.func91, Try.ntmps91
  go_wp2
  first | rw [Exit.noGoto_ret] | skip
  refine bodyPost_ret (v := .tuple #[.agg #[.int .i64 0, .int .i64 l.length], .int .i64 0]) (results_ct (p := 4) (u := 5) (ty := 44) rfl _ _ (w.heap.size + 1) 44 #[.int .i64 0, .int .i64 l.length] (0, 0) _ rfl ?_ Try.underlying44 rfl (by kernel_rfl)) rfl ⟨rfl, ?_⟩
  · exact blk_new2 w _ _
  · exact below_step (below_alloc (Below.refl _ _) _) (below_alloc (Below.refl _ _) _)
set_option maxRecDepth 100000 in
set_option maxHeartbeats 8000000 in
theorem RSp_arg (A : Option Addr) (c : Nat) (l : List Int) (wh : Bool) (x0 x1 x2 x3 : Int) (s : ByteArray) (w : World) (hr : Kd.C (Kd.int .u8) w A l.length l) (hc : l.length ≤ c) (hB : Bytes l) (hs : l.length ≤ 1048576) (hl : (chk l).2 = 0) (hx1 : x1 ≤ 9223372036854775807) (hx3 : x3 ≤ 9223372036854775807) (hw : wh = false) (h2 : (msp l x0 x1 x2 x3).2.2 = 2) : Calls Try.prog 91 #[.slice A l.length c, .agg #[.bool wh, .int .i64 x0, .int .i64 x1, .int .i64 x2, .int .i64 x3, .string s]] w fun e w' => e = .returned (.tuple #[.agg #[.int .i64 0, .int .i64 0], .int .i64 150]) ∧ Below w.heap.size w w' := by
  subst hw
  have hm := (esp_msp l x0 x1 x2 x3).2.2 (by omega)
  have HM1 := Aside0.mk hm.1
  have HM2 := Aside0.mk hm.2
  have HM3 := Aside0.mk h2
  have HV := Aside0.mk ((chk_V hB).1 hl)
  have hkk := RCheck_f l hB hs (Nat.lt_succ_self _)
  rw [show chk l = ((chk l).1, 0) from Prod.ext rfl hl] at hkk
  have HK := Aside0.mk hkk
  clear hm h2 hkk
  have hb1 := below_alloc (Below.refl _ w) (.cells #[.bool false, .int .i64 x0, .int .i64 x1, .int .i64 x2, .int .i64 x3, .string s] 29)
  have hb2 : Below (w.alloc (.cells #[.bool false, .int .i64 x0, .int .i64 x1, .int .i64 x2, .int .i64 x3, .string s] 29)).heap.size (w.alloc (.cells #[.bool false, .int .i64 x0, .int .i64 x1, .int .i64 x2, .int .i64 x3, .string s] 29)) ((w.alloc (.cells #[.bool false, .int .i64 x0, .int .i64 x1, .int .i64 x2, .int .i64 x3, .string s] 29)).alloc (.cells #[.int .i64 0, .int .i64 0] 44)) := below_alloc (Below.refl _ _) _
  have hg : IsBlk ((w.alloc (.cells #[.bool false, .int .i64 x0, .int .i64 x1, .int .i64 x2, .int .i64 x3, .string s] 29)).alloc (.cells #[.int .i64 0, .int .i64 0] 44)) (w.alloc (.cells #[.bool false, .int .i64 x0, .int .i64 x1, .int .i64 x2, .int .i64 x3, .string s] 29)).heap.size (.cells #[.int .i64 0, .int .i64 0] 44) := blk_new _ _
  rw [World.size_alloc] at hg
  have HS : Aside0 (Sta w ((w.alloc (.cells #[.bool false, .int .i64 x0, .int .i64 x1, .int .i64 x2, .int .i64 x3, .string s] 29)).alloc (.cells #[.int .i64 0, .int .i64 0] 44)) (fun W => IsBlk W w.heap.size (.cells #[.bool false, .int .i64 x0, .int .i64 x1, .int .i64 x2, .int .i64 x3, .string s] 29) ∧ IsBlk W (w.heap.size + 1) (.cells #[.int .i64 0, .int .i64 0] 44) ∧ Kd.C (Kd.int .u8) W A l.length l)) := ⟨⟨below_step hb1 hb2, ⟨IsBlk.below (blk_new w _) hb2, hg, Kd.C_below (Kd.C_below hr hb1) hb2⟩, keeps_and (keeps_blk _ _) (keeps_and (keeps_blk _ _) (keeps_C _ _ _ _))⟩⟩
  clear hb1 hb2 hg hr
  have HCl := Aside0.mk hc
  have HBY := Aside0.mk hB
  obtain ⟨c0, c1, c2, c3, c4, c5, -⟩ := box6 HS.out.now.1
  have k0 : ((w.alloc (.cells #[.bool false, .int .i64 x0, .int .i64 x1, .int .i64 x2, .int .i64 x3, .string s] 29)).alloc (.cells #[.int .i64 0, .int .i64 0] 44)).cell? ⟨w.heap.size + 1, 0, none⟩ = some (.int .i64 0) := HS.out.now.2.1.cell 0
  have f0 := HS.out.now.2.1.frozen 0
  have k1 : ((w.alloc (.cells #[.bool false, .int .i64 x0, .int .i64 x1, .int .i64 x2, .int .i64 x3, .string s] 29)).alloc (.cells #[.int .i64 0, .int .i64 0] 44)).cell? ⟨w.heap.size + 1, 1, none⟩ = some (.int .i64 0) := HS.out.now.2.1.cell 1
  have f1 := HS.out.now.2.1.frozen 1
  clear hB hl hc
  go_enter Try.func91, Try.ntmps91
  go_wp2_with (first | (go_at_call 54; refine (RMNew_ok _ A c l _ _ (HS.out.step (by repeat (first | exact Below.refl _ _ | apply zq2 | apply zq3 | apply zq4 | apply zq5))).now.2.2 HCl.out HK.out hs).mono ?_; rintro e w3 ⟨m, rfl, hM, hb⟩; have m_ := Aside0.mk ((HS.out.call (by repeat (first | exact Below.refl _ _ | apply zq2 | apply zq3 | apply zq4 | apply zq5)) hb).add hM (keeps_rmap _ _)); clear HS hb hM; have HS := m_; clear m_; clear c0 c1 c2 c3 c4 c5 k0 k1 f0 f1; obtain ⟨c0, c1, c2, c3, c4, c5, -⟩ := box6 HS.out.now.2.1; have k0 : w3.cell? ⟨w.heap.size + 1, 0, none⟩ = some (.int .i64 0) := HS.out.now.2.2.1.cell 0; have f0 := HS.out.now.2.2.1.frozen 0; have k1 : w3.cell? ⟨w.heap.size + 1, 1, none⟩ = some (.int .i64 0) := HS.out.now.2.2.1.cell 1; have f1 := HS.out.now.2.2.1.frozen 1) | (go_at_call 115; refine (RSpan_is m l x0 x1 x2 x3 _ (HS.out.step (by repeat (first | exact Below.refl _ _ | apply zq2 | apply zq3 | apply zq4 | apply zq5))).now.1 hs HBY.out HV.out hx1 hx3).mono ?_; rintro e w5 ⟨rfl, hb⟩; rw [HM1.out, HM2.out, HM3.out]; have hg5 := hb.size; have m_ := Aside0.mk (HS.out.call (by repeat (first | exact Below.refl _ _ | apply zq2 | apply zq3 | apply zq4 | apply zq5)) hb); clear HS hb ; have HS := m_; clear m_; clear c0 c1 c2 c3 c4 c5 k0 k1 f0 f1; obtain ⟨c0, c1, c2, c3, c4, c5, -⟩ := box6 HS.out.now.2.1; have k0 : w5.cell? ⟨w.heap.size + 1, 0, none⟩ = some (.int .i64 0) := HS.out.now.2.2.1.cell 0; have f0 := HS.out.now.2.2.1.frozen 0; have k1 : w5.cell? ⟨w.heap.size + 1, 1, none⟩ = some (.int .i64 0) := HS.out.now.2.2.1.cell 1; have f1 := HS.out.now.2.2.1.frozen 1; have e1 := Nat.ne_of_lt (blk_lt HS.out.now.2.2.1); have e2 := Ne.symm e1; have k0a := cell_alloc1 k0; have f0a := froz_alloc1 k0 f0; have k1a := cell_alloc1 k1; have f1a := froz_alloc1 k1 f1))
  first | rw [Exit.noGoto_ret] | skip
  refine bodyPost_ret (v := .tuple #[.agg #[.int .i64 0, .int .i64 0], .int .i64 150]) (results_ct (p := 4) (u := 5) (ty := 44) rfl _ _ (w.heap.size + 1) 44 #[.int .i64 0, .int .i64 0] (0, 0) _ rfl ?_ Try.underlying44 rfl (by kernel_rfl)) rfl ⟨rfl, ?_⟩
  · show IsBlk _ (w.heap.size + 1) _
    (repeat (with_reducible first | refine IsBlk.alloc ?_ _ | refine IsBlk.drewN ?_ _ | refine IsBlk.drew1 ?_))
    with_reducible refine blk2 (z := .int .i64 0) (z1 := .int .i64 0) ?_ _ _
    repeat (with_reducible first | exact HS.out.now.2.2.1 | refine IsBlk.alloc ?_ _ | refine IsBlk.drewN ?_ _ | refine IsBlk.drew1 ?_)
  · have hS := HS.out.bel
    (repeat (first | (with_reducible exact hS) | (with_reducible refine below_alloc ?_ _) | (with_reducible refine pw_below_drewN ?_ _) | (with_reducible refine below_drew1 ?_) | ((with_reducible refine Below.setCell ?_ ?_ _); rotate_left; (focus (first | (simp; done) | (simp; omega))))))
set_option maxRecDepth 100000 in
set_option maxHeartbeats 8000000 in
theorem RSp_ok (A : Option Addr) (c : Nat) (l : List Int) (wh : Bool) (x0 x1 x2 x3 : Int) (s : ByteArray) (w : World) (hr : Kd.C (Kd.int .u8) w A l.length l) (hc : l.length ≤ c) (hB : Bytes l) (hs : l.length ≤ 1048576) (hl : (chk l).2 = 0) (hx1 : x1 ≤ 9223372036854775807) (hx3 : x3 ≤ 9223372036854775807) (hw : wh = false) (g a b : Int) (ha : (msp l x0 x1 x2 x3).1 = a) (hb0 : (msp l x0 x1 x2 x3).2.1 = b) (hg0 : (msp l x0 x1 x2 x3).2.2 = g) (h2 : g ≠ 2) : Calls Try.prog 91 #[.slice A l.length c, .agg #[.bool wh, .int .i64 x0, .int .i64 x1, .int .i64 x2, .int .i64 x3, .string s]] w fun e w' => e = .returned (.tuple #[.agg #[.int .i64 a, .int .i64 b], .int .i64 g]) ∧ Below w.heap.size w w' := by
  subst hw
  have HM1 := Aside0.mk ha
  have HM2 := Aside0.mk hb0
  have HM3 := Aside0.mk hg0
  have HV := Aside0.mk ((chk_V hB).1 hl)
  have hkk := RCheck_f l hB hs (Nat.lt_succ_self _)
  rw [show chk l = ((chk l).1, 0) from Prod.ext rfl hl] at hkk
  have HK := Aside0.mk hkk
  have g2 : (g == 2) = false := beq_eq_false_iff_ne.mpr h2
  clear ha hb0 hg0 h2 hkk
  have hb1 := below_alloc (Below.refl _ w) (.cells #[.bool false, .int .i64 x0, .int .i64 x1, .int .i64 x2, .int .i64 x3, .string s] 29)
  have hb2 : Below (w.alloc (.cells #[.bool false, .int .i64 x0, .int .i64 x1, .int .i64 x2, .int .i64 x3, .string s] 29)).heap.size (w.alloc (.cells #[.bool false, .int .i64 x0, .int .i64 x1, .int .i64 x2, .int .i64 x3, .string s] 29)) ((w.alloc (.cells #[.bool false, .int .i64 x0, .int .i64 x1, .int .i64 x2, .int .i64 x3, .string s] 29)).alloc (.cells #[.int .i64 0, .int .i64 0] 44)) := below_alloc (Below.refl _ _) _
  have hg : IsBlk ((w.alloc (.cells #[.bool false, .int .i64 x0, .int .i64 x1, .int .i64 x2, .int .i64 x3, .string s] 29)).alloc (.cells #[.int .i64 0, .int .i64 0] 44)) (w.alloc (.cells #[.bool false, .int .i64 x0, .int .i64 x1, .int .i64 x2, .int .i64 x3, .string s] 29)).heap.size (.cells #[.int .i64 0, .int .i64 0] 44) := blk_new _ _
  rw [World.size_alloc] at hg
  have HS : Aside0 (Sta w ((w.alloc (.cells #[.bool false, .int .i64 x0, .int .i64 x1, .int .i64 x2, .int .i64 x3, .string s] 29)).alloc (.cells #[.int .i64 0, .int .i64 0] 44)) (fun W => IsBlk W w.heap.size (.cells #[.bool false, .int .i64 x0, .int .i64 x1, .int .i64 x2, .int .i64 x3, .string s] 29) ∧ IsBlk W (w.heap.size + 1) (.cells #[.int .i64 0, .int .i64 0] 44) ∧ Kd.C (Kd.int .u8) W A l.length l)) := ⟨⟨below_step hb1 hb2, ⟨IsBlk.below (blk_new w _) hb2, hg, Kd.C_below (Kd.C_below hr hb1) hb2⟩, keeps_and (keeps_blk _ _) (keeps_and (keeps_blk _ _) (keeps_C _ _ _ _))⟩⟩
  clear hb1 hb2 hg hr
  have HCl := Aside0.mk hc
  have HBY := Aside0.mk hB
  obtain ⟨c0, c1, c2, c3, c4, c5, -⟩ := box6 HS.out.now.1
  have k0 : ((w.alloc (.cells #[.bool false, .int .i64 x0, .int .i64 x1, .int .i64 x2, .int .i64 x3, .string s] 29)).alloc (.cells #[.int .i64 0, .int .i64 0] 44)).cell? ⟨w.heap.size + 1, 0, none⟩ = some (.int .i64 0) := HS.out.now.2.1.cell 0
  have f0 := HS.out.now.2.1.frozen 0
  have k1 : ((w.alloc (.cells #[.bool false, .int .i64 x0, .int .i64 x1, .int .i64 x2, .int .i64 x3, .string s] 29)).alloc (.cells #[.int .i64 0, .int .i64 0] 44)).cell? ⟨w.heap.size + 1, 1, none⟩ = some (.int .i64 0) := HS.out.now.2.1.cell 1
  have f1 := HS.out.now.2.1.frozen 1
  clear hB hl hc
  go_enter Try.func91, Try.ntmps91
  go_wp2_with (first | (go_at_call 54; refine (RMNew_ok _ A c l _ _ (HS.out.step (by repeat (first | exact Below.refl _ _ | apply zq2 | apply zq3 | apply zq4 | apply zq5))).now.2.2 HCl.out HK.out hs).mono ?_; rintro e w3 ⟨m, rfl, hM, hb⟩; have m_ := Aside0.mk ((HS.out.call (by repeat (first | exact Below.refl _ _ | apply zq2 | apply zq3 | apply zq4 | apply zq5)) hb).add hM (keeps_rmap _ _)); clear HS hb hM; have HS := m_; clear m_; clear c0 c1 c2 c3 c4 c5 k0 k1 f0 f1; obtain ⟨c0, c1, c2, c3, c4, c5, -⟩ := box6 HS.out.now.2.1; have k0 : w3.cell? ⟨w.heap.size + 1, 0, none⟩ = some (.int .i64 0) := HS.out.now.2.2.1.cell 0; have f0 := HS.out.now.2.2.1.frozen 0; have k1 : w3.cell? ⟨w.heap.size + 1, 1, none⟩ = some (.int .i64 0) := HS.out.now.2.2.1.cell 1; have f1 := HS.out.now.2.2.1.frozen 1) | (go_at_call 115; refine (RSpan_is m l x0 x1 x2 x3 _ (HS.out.step (by repeat (first | exact Below.refl _ _ | apply zq2 | apply zq3 | apply zq4 | apply zq5))).now.1 hs HBY.out HV.out hx1 hx3).mono ?_; rintro e w5 ⟨rfl, hb⟩; rw [HM1.out, HM2.out, HM3.out]; have hg5 := hb.size; have m_ := Aside0.mk (HS.out.call (by repeat (first | exact Below.refl _ _ | apply zq2 | apply zq3 | apply zq4 | apply zq5)) hb); clear HS hb ; have HS := m_; clear m_; clear c0 c1 c2 c3 c4 c5 k0 k1 f0 f1; obtain ⟨c0, c1, c2, c3, c4, c5, -⟩ := box6 HS.out.now.2.1; have k0 : w5.cell? ⟨w.heap.size + 1, 0, none⟩ = some (.int .i64 0) := HS.out.now.2.2.1.cell 0; have f0 := HS.out.now.2.2.1.frozen 0; have k1 : w5.cell? ⟨w.heap.size + 1, 1, none⟩ = some (.int .i64 0) := HS.out.now.2.2.1.cell 1; have f1 := HS.out.now.2.2.1.frozen 1; have e1 := Nat.ne_of_lt (blk_lt HS.out.now.2.2.1); have e2 := Ne.symm e1; have k0a := cell_alloc1 k0; have f0a := froz_alloc1 k0 f0; have k1a := cell_alloc1 k1; have f1a := froz_alloc1 k1 f1))
  first | rw [Exit.noGoto_ret] | skip
  refine bodyPost_ret (v := .tuple #[.agg #[.int .i64 a, .int .i64 b], .int .i64 g]) (results_ct (p := 4) (u := 5) (ty := 44) rfl _ _ (w.heap.size + 1) 44 #[.int .i64 a, .int .i64 b] (0, 0) _ rfl ?_ Try.underlying44 rfl (by kernel_rfl)) rfl ⟨rfl, ?_⟩
  · show IsBlk _ (w.heap.size + 1) _
    (repeat (with_reducible first | refine IsBlk.alloc ?_ _ | refine IsBlk.drewN ?_ _ | refine IsBlk.drew1 ?_))
    with_reducible refine blk2 (z := .int .i64 0) (z1 := .int .i64 0) ?_ _ _
    repeat (with_reducible first | exact HS.out.now.2.2.1 | refine IsBlk.alloc ?_ _ | refine IsBlk.drewN ?_ _ | refine IsBlk.drew1 ?_)
  · have hS := HS.out.bel
    (repeat (first | (with_reducible exact hS) | (with_reducible refine below_alloc ?_ _) | (with_reducible refine pw_below_drewN ?_ _) | (with_reducible refine below_drew1 ?_) | ((with_reducible refine Below.setCell ?_ ?_ _); rotate_left; (focus (first | (simp; done) | (simp; omega))))))
theorem RSp_is (A : Option Addr) (c : Nat) (l : List Int) (wh : Bool) (x0 x1 x2 x3 : Int) (s : ByteArray) (w : World) (hr : Kd.C (Kd.int .u8) w A l.length l) (hc : l.length ≤ c) (hB : Bytes l) (hs : l.length ≤ 1048576) (hl : (chk l).2 = 0) (hx1 : x1 ≤ 9223372036854775807) (hx3 : x3 ≤ 9223372036854775807) : Calls Try.prog 91 #[.slice A l.length c, .agg #[.bool wh, .int .i64 x0, .int .i64 x1, .int .i64 x2, .int .i64 x3, .string s]] w fun e w' => e = .returned (.tuple #[.agg #[.int .i64 (esp l wh x0 x1 x2 x3).1, .int .i64 (esp l wh x0 x1 x2 x3).2.1], .int .i64 (esp l wh x0 x1 x2 x3).2.2]) ∧ Below w.heap.size w w' := by
  cases wh with
  | true =>
    rw [show esp l true x0 x1 x2 x3 = (0, (l.length : Int), 0) by simp [esp]]
    exact RSp_whole A c l true x0 x1 x2 x3 s w hr hc hB hs hl hx1 hx3 rfl
  | false =>
    by_cases h : (msp l x0 x1 x2 x3).2.2 = 2
    · rw [(esp_msp l x0 x1 x2 x3).1 h]
      exact RSp_arg A c l false x0 x1 x2 x3 s w hr hc hB hs hl hx1 hx3 rfl h
    · rw [(esp_msp l x0 x1 x2 x3).2.1 h]
      exact RSp_ok A c l false x0 x1 x2 x3 s w hr hc hB hs hl hx1 hx3 rfl _ _ _ rfl rfl rfl h
section
variable {P : Program}
theorem r_run_str {W : World} (base : Nat) (t u ty e : TypeId) (ht : P.underlying t = some (.slice e)) (hu : P.underlying u = some .string) (hinfo : (P.info? e).map (fun i => (i.zero, i.size, i.bytes)) = some (some (.int .u8 0), 1, 1))
    (v : Value) (xs : List Int) (y : ByteArray) (hR : Kd.R (Kd.int .u8) e W base (fun _ => True) v xs) (hbase : base ≤ W.heap.size) (hl : xs.length + y.size ≤ 140737488355328) :
    ∃ v1 w1, (Builtin.append_ #[t, u] ty #[v, .string y]).run P W = .ok v1 w1 ∧ Kd.R (Kd.int .u8) e w1 base (fun _ => True) v1 (xs ++ bytesOf y) ∧ ∃ row, W.grownBy w1 row ∧ ∀ k, row = some k → base ≤ k := by
  obtain ⟨i0, hi, hzz⟩ := Option.map_eq_some_iff.1 hinfo
  simp only [Prod.mk.injEq] at hzz
  obtain ⟨hz0, hz1, hz2⟩ := hzz
  have hown := Kd.own_of_R (enc := Value.int .u8) (h1 := fun _ => rfl) hR
  obtain ⟨v1, w1, hrun, ho1, hg1, _⟩ := Lib.run_append_own_string (P := P) W base t u ty e i0 ht hu hi hz0 hz1 hz2 v xs.length (nums .u8 xs) hown y (by unfold maxLen; omega) (by omega) hbase
  refine ⟨v1, w1, hrun, ?_, _, hg1, fun k hk => own_base hown k hk⟩
  refine Kd.R_of_own (enc := Value.int .u8) (h1 := fun _ => rfl) ?_ (fun _ _ => trivial)
  have e1 : encs (Value.int .u8) (xs ++ bytesOf y) = nums .u8 xs ++ Lib.strCells y := by
    show nums .u8 (xs ++ bytesOf y) = _
    rw [nums_append]
    congr 1
    simp [nums, bytesOf, Lib.strCells]
  rw [e1, List.length_append, bytesOf_length]
  exact ho1
theorem r_run_slice {W : World} (base : Nat) (t ty e : TypeId) (ht : P.underlying t = some (.slice e)) (hinfo : (P.info? e).map (fun i => (i.zero, i.size, i.bytes)) = some (some (.int .u8 0), 1, 1))
    (v : Value) (xs ys : List Int) (A : Option Addr) (c : Nat) (hR : Kd.R (Kd.int .u8) e W base (fun _ => True) v xs) (HR : Kd.C (Kd.int .u8) W A ys.length ys) (hbase : base ≤ W.heap.size) (hl : xs.length + ys.length ≤ 140737488355328) :
    ∃ v1 w1, (Builtin.append_ #[t, t] ty #[v, .slice A ys.length c]).run P W = .ok v1 w1 ∧ Kd.R (Kd.int .u8) e w1 base (fun _ => True) v1 (xs ++ ys) ∧ ∃ row, W.grownBy w1 row ∧ ∀ k, row = some k → base ≤ k := by
  obtain ⟨i0, hi, hzz⟩ := Option.map_eq_some_iff.1 hinfo
  simp only [Prod.mk.injEq] at hzz
  obtain ⟨hz0, hz1, hz2⟩ := hzz
  have hown := Kd.own_of_R (enc := Value.int .u8) (h1 := fun _ => rfl) hR
  rcases A with _ | a2
  · have h0 : ys.length = 0 := by
      rcases Nat.eq_zero_or_pos ys.length with h0 | h0
      · exact h0
      · obtain ⟨ad, h, _⟩ := HR.2.2 h0
        cases h
    obtain rfl : ys = [] := List.eq_nil_of_length_eq_zero h0
    refine ⟨v, W, ?_, by rw [List.append_nil]; exact hR, none, World.grownBy.refl W _, fun k hk => by cases hk⟩
    rcases hown.2 with ⟨rfl, hn⟩ | ⟨g, cap, cur, rfl, _, _, hnc, _⟩
    · simp [Builtin.append_, run_underlying ht, sizeOf, typeInfo, hi, Builtin.lenOf, Builtin.firstCells]
    · simp [Builtin.append_, run_underlying ht, sizeOf, typeInfo, hi, Builtin.lenOf, Builtin.firstCells, hnc, storeCells]
  · obtain ⟨v1, w1, hrun, ho1, hg1, _⟩ := run_append_own (P := P) W base t ty e i0 (.int .u8 0) 1 1 ht hi hz0 hz1 hz2 rfl (by decide) v xs.length (encs (Value.int .u8) xs) hown a2 ys.length c (nums .u8 ys) (by rw [nums_length, Nat.mul_one]) (reads_cells HR) (by intro u hu; simp only [nums, List.mem_map] at hu; obtain ⟨x, _, rfl⟩ := hu; rfl) (by unfold maxLen; omega) (by omega) hbase
    refine ⟨v1, w1, hrun, ?_, _, hg1, fun k hk => own_base hown k hk⟩
    refine Kd.R_of_own (enc := Value.int .u8) (h1 := fun _ => rfl) ?_ (fun _ _ => trivial)
    have e1 : encs (Value.int .u8) (xs ++ ys) = encs (Value.int .u8) xs ++ nums .u8 ys := by simp [encs, nums]
    rw [e1, List.length_append]
    exact ho1
theorem r_op_str {w0 W : World} {o : Oper} {a : Act} {K : Act → World → Prop} {Q : Exit → Act → World → Prop} (base : Nat) (s x : Operand) (t u e : TypeId)
    (ho : o.op = .call { callee := .builtin .append, args := #[s, x], argTypes := #[t, u] }) (ht : P.underlying t = some (.slice e)) (hu : P.underlying u = some .string) (hinfo : (P.info? e).map (fun i => (i.zero, i.size, i.bytes)) = some (some (.int .u8 0), 1, 1))
    (v : Value) (xs : List Int) (y : ByteArray) (hs : a.eval s = v) (hx : a.eval x = .string y)
    (HO : Kd.R (Kd.int .u8) e W base (fun _ => True) v xs) (HB : Below base w0 W) (hbase : base ≤ W.heap.size) (hl : xs.length + y.size ≤ 140737488355328)
    (h : ∀ v1 w1, Kd.R (Kd.int .u8) e w1 base (fun _ => True) v1 (xs ++ bytesOf y) → Below base w0 w1 → W.heap.size ≤ w1.heap.size → K (a.put o.dst v1) w1) : o.wp P a W K Q := by
  obtain ⟨v1, w1, hrun, r1, row, r2, r3⟩ := r_run_str (P := P) base t u o.type e ht hu hinfo v xs y HO hbase hl
  unfold Oper.wp
  simp [execOp, ho, resolve, invoke, builtin, hs, hx, hrun, Result.andThen]
  exact h v1 w1 r1 (HB.grown r2 hbase r3) r2.size
theorem r_append {w0 W : World} {ops : Array Oper} {rest : List Oper} {o : Oper} {a : Act} {Q : Exit → Act → World → Prop} (base : Nat) (hgd : o.guard = none) (s x : Operand) (t e : TypeId)
    (ho : o.op = .call { callee := .builtin .append, args := #[s, x], argTypes := #[t, t] }) (ht : P.underlying t = some (.slice e)) (hinfo : (P.info? e).map (fun i => (i.zero, i.size, i.bytes)) = some (some (.int .u8 0), 1, 1))
    (v : Value) (xs ys : List Int) (A : Option Addr) (m c : Nat) (hs : a.eval s = v) (hx : a.eval x = .slice A m c) (hm : ys.length = m)
    (HO : Kd.R (Kd.int .u8) e W base (fun _ => True) v xs) (HR : Kd.C (Kd.int .u8) W A ys.length ys) (HB : Below base w0 W) (hbase : base ≤ W.heap.size) (hl : xs.length + ys.length ≤ 140737488355328)
    (h : ∀ v1 w1, Kd.R (Kd.int .u8) e w1 base (fun _ => True) v1 (xs ++ ys) → Below base w0 w1 → W.heap.size ≤ w1.heap.size → wpList P ops Q rest (a.put o.dst v1) w1) : wpList P ops Q (o :: rest) a W := by
  subst hm
  refine wpList_plain hgd fun K hK' => ?_
  obtain ⟨v1, w1, hrun, r1, row, r2, r3⟩ := r_run_slice (P := P) base t o.type e ht hinfo v xs ys A c HO HR hbase hl
  unfold Oper.wp
  simp [execOp, ho, resolve, invoke, builtin, hs, hx, hrun, Result.andThen]
  exact hK' _ _ (h v1 w1 r1 (HB.grown r2 hbase r3) r2.size)
end
theorem RCheck_at (k : Nat) (A : Option Addr) (c : Nat) (l : List Int) (n : Nat) (hn1 : l.length = n) (r1 r2 : Int) (w : World) (hr : Kd.C (Kd.int .u8) w A n l) (hc : n ≤ c) (h : colophonref01_Check.f k l = some (r1, r2)) :
    Calls Try.prog 55 #[.slice A n c] w fun e w' => e = .returned (.tuple #[.int .i64 r1, .int .i64 r2]) ∧ Below w.heap.size w w' := by
  subst hn1
  exact colophonref01_Check.calls k A c l r1 r2 w hr hc h
set_option maxRecDepth 100000 in
set_option maxHeartbeats 8000000 in
theorem ROne_e1 (A : Option Addr) (c : Nat) (l : List Int) (wh : Bool) (x0 x1 x2 x3 : Int) (s : ByteArray) (w : World) (hr : Kd.C (Kd.int .u8) w A l.length l) (hc : l.length ≤ c) (hB : Bytes l) (hs : l.length ≤ 1048576) (hs2 : s.size ≤ 1048576) (hx1 : x1 ≤ 9223372036854775807) (hx3 : x3 ≤ 9223372036854775807) (r : Int) (hk : (chk l).2 = r) (hz : r ≠ 0) : Calls Try.prog 64 #[.slice A l.length c, .agg #[.bool wh, .int .i64 x0, .int .i64 x1, .int .i64 x2, .int .i64 x3, .string s]] w fun e w' => ∃ v : Value, e = .returned (.tuple #[v, .int .i64 r]) ∧ Kd.R (Kd.int .u8) 5 w' w.heap.size (fun _ => True) v [] ∧ Below w.heap.size w w' := by
  have hka := RCheck_f l hB hs (Nat.lt_succ_self _)
  rw [show chk l = ((chk l).1, r) from Prod.ext rfl hk] at hka
  have HKA := Aside0.mk hka
  have g1 : (r != 0) = true := bne_iff_ne.mpr hz
  have t1 := True.intro
  have hb1 := below_alloc (Below.refl _ w) (.cells #[.bool wh, .int .i64 x0, .int .i64 x1, .int .i64 x2, .int .i64 x3, .string s] 29)
  have HS : Aside0 (Sta w (w.alloc (.cells #[.bool wh, .int .i64 x0, .int .i64 x1, .int .i64 x2, .int .i64 x3, .string s] 29)) (fun W => IsBlk W w.heap.size (.cells #[.bool wh, .int .i64 x0, .int .i64 x1, .int .i64 x2, .int .i64 x3, .string s] 29) ∧ Kd.C (Kd.int .u8) W A l.length l)) := ⟨⟨hb1, ⟨blk_new w _, Kd.C_below hr hb1⟩, keeps_and (keeps_blk _ _) (keeps_C _ _ _ _)⟩⟩
  have HCl := Aside0.mk hc
  obtain ⟨c0, c1, c2, c3, c4, c5, c0a, c1a, c2a, c3a, c4a, c5a⟩ := box6 HS.out.now.1
  clear hr hc hB hk hz hka
  go_enter Try.func64, Try.ntmps64
  go_wp2_with (have _t := t1; go_at_call 55; refine (colophonref01_Check.calls _ A c l _ _ _ (HS.out.step (by repeat (first | exact Below.refl _ _ | apply zq2 | apply zq3 | apply zq4 | apply zq5))).now.2 HCl.out HKA.out).mono ?_; rintro e w1 ⟨rfl, hb⟩; have m_ := Aside0.mk (HS.out.call (by repeat (first | exact Below.refl _ _ | apply zq2 | apply zq3 | apply zq4 | apply zq5)) hb); clear HS hb ; have HS := m_; clear m_; clear c0 c1 c2 c3 c4 c5 c0a c1a c2a c3a c4a c5a; obtain ⟨c0, c1, c2, c3, c4, c5, c0a, c1a, c2a, c3a, c4a, c5a⟩ := box6 HS.out.now.1; clear t1 _t)
  go_ret2
  exact ⟨_, rfl, Kd.R_nil _ _ _ _ _, (HS.out.step (by repeat (first | exact Below.refl _ _ | apply zq2 | apply zq3 | apply zq4 | apply zq5))).bel⟩
set_option maxRecDepth 100000 in
set_option maxHeartbeats 8000000 in
theorem ROne_e2 (A : Option Addr) (c : Nat) (l : List Int) (wh : Bool) (x0 x1 x2 x3 : Int) (s : ByteArray) (w : World) (hr : Kd.C (Kd.int .u8) w A l.length l) (hc : l.length ≤ c) (hB : Bytes l) (hs : l.length ≤ 1048576) (hs2 : s.size ≤ 1048576) (hx1 : x1 ≤ 9223372036854775807) (hx3 : x3 ≤ 9223372036854775807) (hl : (chk l).2 = 0) (r : Int) (hk : (chk (bytesOf s)).2 = r) (hz : r ≠ 0) : Calls Try.prog 64 #[.slice A l.length c, .agg #[.bool wh, .int .i64 x0, .int .i64 x1, .int .i64 x2, .int .i64 x3, .string s]] w fun e w' => ∃ v : Value, e = .returned (.tuple #[v, .int .i64 r]) ∧ Kd.R (Kd.int .u8) 5 w' w.heap.size (fun _ => True) v [] ∧ Below w.heap.size w w' := by
  have hka := RCheck_f l hB hs (Nat.lt_succ_self _)
  rw [show chk l = ((chk l).1, 0) from Prod.ext rfl hl] at hka
  have hkt := RCheck_f (bytesOf s) (bytesOf_B s) (by rw [bytesOf_length]; exact hs2) (Nat.lt_succ_self _)
  rw [show chk (bytesOf s) = ((chk (bytesOf s)).1, r) from Prod.ext rfl hk] at hkt
  have HKA := Aside0.mk hka
  have HKT := Aside0.mk hkt
  have g1 : (r != 0) = true := bne_iff_ne.mpr hz
  have kb := fun W : World => print_bytes (P := Try.prog) 9 22 5 Try.underlying9 Try.underlying22 Try.underlying5 s W
  have t1 := True.intro
  have t2 := True.intro
  have HBY := Aside0.mk hB
  have HL0 := Aside0.mk hl
  have hb1 := below_alloc (Below.refl _ w) (.cells #[.bool wh, .int .i64 x0, .int .i64 x1, .int .i64 x2, .int .i64 x3, .string s] 29)
  have HS : Aside0 (Sta w (w.alloc (.cells #[.bool wh, .int .i64 x0, .int .i64 x1, .int .i64 x2, .int .i64 x3, .string s] 29)) (fun W => IsBlk W w.heap.size (.cells #[.bool wh, .int .i64 x0, .int .i64 x1, .int .i64 x2, .int .i64 x3, .string s] 29) ∧ Kd.C (Kd.int .u8) W A l.length l)) := ⟨⟨hb1, ⟨blk_new w _, Kd.C_below hr hb1⟩, keeps_and (keeps_blk _ _) (keeps_C _ _ _ _)⟩⟩
  have HCl := Aside0.mk hc
  obtain ⟨c0, c1, c2, c3, c4, c5, c0a, c1a, c2a, c3a, c4a, c5a⟩ := box6 HS.out.now.1
  clear hr hc hB hk hz hka hkt hl
  go_enter Try.func64, Try.ntmps64
  go_wp2_with (first | (have _t := t1; go_at_call 55; refine (colophonref01_Check.calls _ A c l _ _ _ (HS.out.step (by repeat (first | exact Below.refl _ _ | apply zq2 | apply zq3 | apply zq4 | apply zq5))).now.2 HCl.out HKA.out).mono ?_; rintro e w1 ⟨rfl, hb⟩; have m_ := Aside0.mk (HS.out.call (by repeat (first | exact Below.refl _ _ | apply zq2 | apply zq3 | apply zq4 | apply zq5)) hb); clear HS hb ; have HS := m_; clear m_; clear c0 c1 c2 c3 c4 c5 c0a c1a c2a c3a c4a c5a; obtain ⟨c0, c1, c2, c3, c4, c5, c0a, c1a, c2a, c3a, c4a, c5a⟩ := box6 HS.out.now.1; clear t1 _t) | (have _t := t2; go_at_call 55; refine (RCheck_at _ _ _ (bytesOf s) s.size (bytesOf_length s) _ _ _ (bytes_at _ _ s _ (by simp) (by omega)) (grownCap_ge _ _ _ _) HKT.out).mono ?_; rintro e w2 ⟨rfl, hb⟩; have m_ := Aside0.mk (HS.out.call (by repeat (first | exact Below.refl _ _ | apply zq2 | apply zq3 | apply zq4 | apply zq5)) hb); clear HS hb ; have HS := m_; clear m_; clear c0 c1 c2 c3 c4 c5 c0a c1a c2a c3a c4a c5a; obtain ⟨c0, c1, c2, c3, c4, c5, c0a, c1a, c2a, c3a, c4a, c5a⟩ := box6 HS.out.now.1; clear t2 _t))
  go_ret2
  exact ⟨_, rfl, Kd.R_nil _ _ _ _ _, (HS.out.step (by repeat (first | exact Below.refl _ _ | apply zq2 | apply zq3 | apply zq4 | apply zq5))).bel⟩
set_option maxRecDepth 100000 in
set_option maxHeartbeats 8000000 in
theorem ROne_e3 (A : Option Addr) (c : Nat) (l : List Int) (wh : Bool) (x0 x1 x2 x3 : Int) (s : ByteArray) (w : World) (hr : Kd.C (Kd.int .u8) w A l.length l) (hc : l.length ≤ c) (hB : Bytes l) (hs : l.length ≤ 1048576) (hs2 : s.size ≤ 1048576) (hx1 : x1 ≤ 9223372036854775807) (hx3 : x3 ≤ 9223372036854775807) (hl : (chk l).2 = 0) (ht : (chk (bytesOf s)).2 = 0) (r : Int) (hk : (esp l wh x0 x1 x2 x3).2.2 = r) (hz : r ≠ 0) : Calls Try.prog 64 #[.slice A l.length c, .agg #[.bool wh, .int .i64 x0, .int .i64 x1, .int .i64 x2, .int .i64 x3, .string s]] w fun e w' => ∃ v : Value, e = .returned (.tuple #[v, .int .i64 r]) ∧ Kd.R (Kd.int .u8) 5 w' w.heap.size (fun _ => True) v [] ∧ Below w.heap.size w w' := by
  have hka := RCheck_f l hB hs (Nat.lt_succ_self _)
  rw [show chk l = ((chk l).1, 0) from Prod.ext rfl hl] at hka
  have hkt := RCheck_f (bytesOf s) (bytesOf_B s) (by rw [bytesOf_length]; exact hs2) (Nat.lt_succ_self _)
  rw [show chk (bytesOf s) = ((chk (bytesOf s)).1, 0) from Prod.ext rfl ht] at hkt
  have HKA := Aside0.mk hka
  have HKT := Aside0.mk hkt
  have HEG := Aside0.mk hk
  have g1 : (r != 0) = true := bne_iff_ne.mpr hz
  obtain ⟨a, hea⟩ : ∃ a, (esp l wh x0 x1 x2 x3).1 = a := ⟨_, rfl⟩
  obtain ⟨b, heb⟩ : ∃ a, (esp l wh x0 x1 x2 x3).2.1 = a := ⟨_, rfl⟩
  have hrg := esp_range hB ((chk_V hB).1 hl) wh x0 x1 x2 x3
  rw [hea, heb] at hrg
  obtain ⟨a0, ab, bl⟩ := hrg
  have HEA := Aside0.mk hea
  have HEB := Aside0.mk heb
  have kb := fun W : World => print_bytes (P := Try.prog) 9 22 5 Try.underlying9 Try.underlying22 Try.underlying5 s W
  have t1 := True.intro
  have t2 := True.intro
  have HBY := Aside0.mk hB
  have HL0 := Aside0.mk hl
  have hb1 := below_alloc (Below.refl _ w) (.cells #[.bool wh, .int .i64 x0, .int .i64 x1, .int .i64 x2, .int .i64 x3, .string s] 29)
  have HS : Aside0 (Sta w (w.alloc (.cells #[.bool wh, .int .i64 x0, .int .i64 x1, .int .i64 x2, .int .i64 x3, .string s] 29)) (fun W => IsBlk W w.heap.size (.cells #[.bool wh, .int .i64 x0, .int .i64 x1, .int .i64 x2, .int .i64 x3, .string s] 29) ∧ Kd.C (Kd.int .u8) W A l.length l)) := ⟨⟨hb1, ⟨blk_new w _, Kd.C_below hr hb1⟩, keeps_and (keeps_blk _ _) (keeps_C _ _ _ _)⟩⟩
  have HCl := Aside0.mk hc
  obtain ⟨c0, c1, c2, c3, c4, c5, c0a, c1a, c2a, c3a, c4a, c5a⟩ := box6 HS.out.now.1
  clear hr hc hB hk hz hka hkt hl ht hea heb
  go_enter Try.func64, Try.ntmps64
  go_wp2_with (first | (have _t := t1; go_at_call 55; refine (colophonref01_Check.calls _ A c l _ _ _ (HS.out.step (by repeat (first | exact Below.refl _ _ | apply zq2 | apply zq3 | apply zq4 | apply zq5))).now.2 HCl.out HKA.out).mono ?_; rintro e w1 ⟨rfl, hb⟩; have m_ := Aside0.mk (HS.out.call (by repeat (first | exact Below.refl _ _ | apply zq2 | apply zq3 | apply zq4 | apply zq5)) hb); clear HS hb ; have HS := m_; clear m_; clear c0 c1 c2 c3 c4 c5 c0a c1a c2a c3a c4a c5a; obtain ⟨c0, c1, c2, c3, c4, c5, c0a, c1a, c2a, c3a, c4a, c5a⟩ := box6 HS.out.now.1; clear t1 _t) | (have _t := t2; go_at_call 55; refine (RCheck_at _ _ _ (bytesOf s) s.size (bytesOf_length s) _ _ _ (bytes_at _ _ s _ (by simp) (by omega)) (grownCap_ge _ _ _ _) HKT.out).mono ?_; rintro e w2 ⟨rfl, hb⟩; have m_ := Aside0.mk (HS.out.call (by repeat (first | exact Below.refl _ _ | apply zq2 | apply zq3 | apply zq4 | apply zq5)) hb); clear HS hb ; have HS := m_; clear m_; clear c0 c1 c2 c3 c4 c5 c0a c1a c2a c3a c4a c5a; obtain ⟨c0, c1, c2, c3, c4, c5, c0a, c1a, c2a, c3a, c4a, c5a⟩ := box6 HS.out.now.1; clear t2 _t) | (go_at_call 91; refine (RSp_is A c l wh x0 x1 x2 x3 s _ (HS.out.step (by repeat (first | exact Below.refl _ _ | apply zq2 | apply zq3 | apply zq4 | apply zq5))).now.2 HCl.out HBY.out hs HL0.out hx1 hx3).mono ?_; rintro e w3 ⟨rfl, hb⟩; rw [HEA.out, HEB.out, HEG.out]; have m_ := Aside0.mk (HS.out.call (by repeat (first | exact Below.refl _ _ | apply zq2 | apply zq3 | apply zq4 | apply zq5)) hb); clear HS hb ; have HS := m_; clear m_; clear c0 c1 c2 c3 c4 c5 c0a c1a c2a c3a c4a c5a; obtain ⟨c0, c1, c2, c3, c4, c5, c0a, c1a, c2a, c3a, c4a, c5a⟩ := box6 HS.out.now.1))
  go_ret2
  exact ⟨_, rfl, Kd.R_nil _ _ _ _ _, (HS.out.step (by repeat (first | exact Below.refl _ _ | apply zq2 | apply zq3 | apply zq4 | apply zq5))).bel⟩
set_option maxRecDepth 100000 in
set_option maxHeartbeats 8000000 in
theorem ROne_e4 (A : Option Addr) (c : Nat) (l : List Int) (wh : Bool) (x0 x1 x2 x3 : Int) (s : ByteArray) (w : World) (hr : Kd.C (Kd.int .u8) w A l.length l) (hc : l.length ≤ c) (hB : Bytes l) (hs : l.length ≤ 1048576) (hs2 : s.size ≤ 1048576) (hx1 : x1 ≤ 9223372036854775807) (hx3 : x3 ≤ 9223372036854775807) (hl : (chk l).2 = 0) (ht : (chk (bytesOf s)).2 = 0) (hk : (esp l wh x0 x1 x2 x3).2.2 = 0) (hlim : 8192 < (l.length : Int) - ((esp l wh x0 x1 x2 x3).2.1 - (esp l wh x0 x1 x2 x3).1) + s.size) : Calls Try.prog 64 #[.slice A l.length c, .agg #[.bool wh, .int .i64 x0, .int .i64 x1, .int .i64 x2, .int .i64 x3, .string s]] w fun e w' => ∃ v : Value, e = .returned (.tuple #[v, .int .i64 5]) ∧ Kd.R (Kd.int .u8) 5 w' w.heap.size (fun _ => True) v [] ∧ Below w.heap.size w w' := by
  have hka := RCheck_f l hB hs (Nat.lt_succ_self _)
  rw [show chk l = ((chk l).1, 0) from Prod.ext rfl hl] at hka
  have hkt := RCheck_f (bytesOf s) (bytesOf_B s) (by rw [bytesOf_length]; exact hs2) (Nat.lt_succ_self _)
  rw [show chk (bytesOf s) = ((chk (bytesOf s)).1, 0) from Prod.ext rfl ht] at hkt
  have HKA := Aside0.mk hka
  have HKT := Aside0.mk hkt
  have HEG := Aside0.mk hk
  obtain ⟨a, hea⟩ : ∃ a, (esp l wh x0 x1 x2 x3).1 = a := ⟨_, rfl⟩
  obtain ⟨b, heb⟩ : ∃ a, (esp l wh x0 x1 x2 x3).2.1 = a := ⟨_, rfl⟩
  have hrg := esp_range hB ((chk_V hB).1 hl) wh x0 x1 x2 x3
  rw [hea, heb] at hrg
  obtain ⟨a0, ab, bl⟩ := hrg
  have HEA := Aside0.mk hea
  have HEB := Aside0.mk heb
  rw [hea, heb] at hlim
  have v1 : IntKind.i64.wrap (a + s.size) = a + s.size := IntWalk.i64_in _ (by omega)
  have v2 : IntKind.i64.wrap (a + s.size + l.length) = a + s.size + l.length := IntWalk.i64_in _ (by omega)
  have v3 : IntKind.i64.wrap (a + s.size + l.length - b) = a + s.size + l.length - b := IntWalk.i64_in _ (by omega)
  have g3 : decide (8192 < a + s.size + l.length - b) = true := decide_eq_true (by omega)
  have kb := fun W : World => print_bytes (P := Try.prog) 9 22 5 Try.underlying9 Try.underlying22 Try.underlying5 s W
  have t1 := True.intro
  have t2 := True.intro
  have HBY := Aside0.mk hB
  have HL0 := Aside0.mk hl
  have hb1 := below_alloc (Below.refl _ w) (.cells #[.bool wh, .int .i64 x0, .int .i64 x1, .int .i64 x2, .int .i64 x3, .string s] 29)
  have HS : Aside0 (Sta w (w.alloc (.cells #[.bool wh, .int .i64 x0, .int .i64 x1, .int .i64 x2, .int .i64 x3, .string s] 29)) (fun W => IsBlk W w.heap.size (.cells #[.bool wh, .int .i64 x0, .int .i64 x1, .int .i64 x2, .int .i64 x3, .string s] 29) ∧ Kd.C (Kd.int .u8) W A l.length l)) := ⟨⟨hb1, ⟨blk_new w _, Kd.C_below hr hb1⟩, keeps_and (keeps_blk _ _) (keeps_C _ _ _ _)⟩⟩
  have HCl := Aside0.mk hc
  obtain ⟨c0, c1, c2, c3, c4, c5, c0a, c1a, c2a, c3a, c4a, c5a⟩ := box6 HS.out.now.1
  clear hr hc hB hk hka hkt hl ht hea heb hlim
  by_cases h9 : 8192 < s.size
  · have g2 : decide (8192 < s.size) = true := decide_eq_true h9
    have g4 : decide ((8192 : Int) < (s.size : Int)) = true := decide_eq_true (by omega)
    go_enter Try.func64, Try.ntmps64
    go_wp2_with (first | (have _t := t1; go_at_call 55; refine (colophonref01_Check.calls _ A c l _ _ _ (HS.out.step (by repeat (first | exact Below.refl _ _ | apply zq2 | apply zq3 | apply zq4 | apply zq5))).now.2 HCl.out HKA.out).mono ?_; rintro e w1 ⟨rfl, hb⟩; have m_ := Aside0.mk (HS.out.call (by repeat (first | exact Below.refl _ _ | apply zq2 | apply zq3 | apply zq4 | apply zq5)) hb); clear HS hb ; have HS := m_; clear m_; clear c0 c1 c2 c3 c4 c5 c0a c1a c2a c3a c4a c5a; obtain ⟨c0, c1, c2, c3, c4, c5, c0a, c1a, c2a, c3a, c4a, c5a⟩ := box6 HS.out.now.1; clear t1 _t) | (have _t := t2; go_at_call 55; refine (RCheck_at _ _ _ (bytesOf s) s.size (bytesOf_length s) _ _ _ (bytes_at _ _ s _ (by simp) (by omega)) (grownCap_ge _ _ _ _) HKT.out).mono ?_; rintro e w2 ⟨rfl, hb⟩; have m_ := Aside0.mk (HS.out.call (by repeat (first | exact Below.refl _ _ | apply zq2 | apply zq3 | apply zq4 | apply zq5)) hb); clear HS hb ; have HS := m_; clear m_; clear c0 c1 c2 c3 c4 c5 c0a c1a c2a c3a c4a c5a; obtain ⟨c0, c1, c2, c3, c4, c5, c0a, c1a, c2a, c3a, c4a, c5a⟩ := box6 HS.out.now.1; clear t2 _t) | (go_at_call 91; refine (RSp_is A c l wh x0 x1 x2 x3 s _ (HS.out.step (by repeat (first | exact Below.refl _ _ | apply zq2 | apply zq3 | apply zq4 | apply zq5))).now.2 HCl.out HBY.out hs HL0.out hx1 hx3).mono ?_; rintro e w3 ⟨rfl, hb⟩; rw [HEA.out, HEB.out, HEG.out]; have m_ := Aside0.mk (HS.out.call (by repeat (first | exact Below.refl _ _ | apply zq2 | apply zq3 | apply zq4 | apply zq5)) hb); clear HS hb ; have HS := m_; clear m_; clear c0 c1 c2 c3 c4 c5 c0a c1a c2a c3a c4a c5a; obtain ⟨c0, c1, c2, c3, c4, c5, c0a, c1a, c2a, c3a, c4a, c5a⟩ := box6 HS.out.now.1))
    go_ret2
    exact ⟨_, rfl, Kd.R_nil _ _ _ _ _, (HS.out.step (by repeat (first | exact Below.refl _ _ | apply zq2 | apply zq3 | apply zq4 | apply zq5))).bel⟩
  · have g2 : decide (8192 < s.size) = false := decide_eq_false h9
    have g4 : decide ((8192 : Int) < (s.size : Int)) = false := decide_eq_false (by omega)
    go_enter Try.func64, Try.ntmps64
    go_wp2_with (first | (have _t := t1; go_at_call 55; refine (colophonref01_Check.calls _ A c l _ _ _ (HS.out.step (by repeat (first | exact Below.refl _ _ | apply zq2 | apply zq3 | apply zq4 | apply zq5))).now.2 HCl.out HKA.out).mono ?_; rintro e w1 ⟨rfl, hb⟩; have m_ := Aside0.mk (HS.out.call (by repeat (first | exact Below.refl _ _ | apply zq2 | apply zq3 | apply zq4 | apply zq5)) hb); clear HS hb ; have HS := m_; clear m_; clear c0 c1 c2 c3 c4 c5 c0a c1a c2a c3a c4a c5a; obtain ⟨c0, c1, c2, c3, c4, c5, c0a, c1a, c2a, c3a, c4a, c5a⟩ := box6 HS.out.now.1; clear t1 _t) | (have _t := t2; go_at_call 55; refine (RCheck_at _ _ _ (bytesOf s) s.size (bytesOf_length s) _ _ _ (bytes_at _ _ s _ (by simp) (by omega)) (grownCap_ge _ _ _ _) HKT.out).mono ?_; rintro e w2 ⟨rfl, hb⟩; have m_ := Aside0.mk (HS.out.call (by repeat (first | exact Below.refl _ _ | apply zq2 | apply zq3 | apply zq4 | apply zq5)) hb); clear HS hb ; have HS := m_; clear m_; clear c0 c1 c2 c3 c4 c5 c0a c1a c2a c3a c4a c5a; obtain ⟨c0, c1, c2, c3, c4, c5, c0a, c1a, c2a, c3a, c4a, c5a⟩ := box6 HS.out.now.1; clear t2 _t) | (go_at_call 91; refine (RSp_is A c l wh x0 x1 x2 x3 s _ (HS.out.step (by repeat (first | exact Below.refl _ _ | apply zq2 | apply zq3 | apply zq4 | apply zq5))).now.2 HCl.out HBY.out hs HL0.out hx1 hx3).mono ?_; rintro e w3 ⟨rfl, hb⟩; rw [HEA.out, HEB.out, HEG.out]; have m_ := Aside0.mk (HS.out.call (by repeat (first | exact Below.refl _ _ | apply zq2 | apply zq3 | apply zq4 | apply zq5)) hb); clear HS hb ; have HS := m_; clear m_; clear c0 c1 c2 c3 c4 c5 c0a c1a c2a c3a c4a c5a; obtain ⟨c0, c1, c2, c3, c4, c5, c0a, c1a, c2a, c3a, c4a, c5a⟩ := box6 HS.out.now.1))
    go_ret2
    exact ⟨_, rfl, Kd.R_nil _ _ _ _ _, (HS.out.step (by repeat (first | exact Below.refl _ _ | apply zq2 | apply zq3 | apply zq4 | apply zq5))).bel⟩
set_option maxRecDepth 100000 in
set_option maxHeartbeats 8000000 in
theorem ROne_ok (A : Option Addr) (c : Nat) (l : List Int) (wh : Bool) (x0 x1 x2 x3 : Int) (s : ByteArray) (w : World) (hr : Kd.C (Kd.int .u8) w A l.length l) (hc : l.length ≤ c) (hB : Bytes l) (hs : l.length ≤ 1048576) (hs2 : s.size ≤ 1048576) (hx1 : x1 ≤ 9223372036854775807) (hx3 : x3 ≤ 9223372036854775807) (hl : (chk l).2 = 0) (ht : (chk (bytesOf s)).2 = 0) (hk : (esp l wh x0 x1 x2 x3).2.2 = 0) (hlim : ¬ 8192 < (l.length : Int) - ((esp l wh x0 x1 x2 x3).2.1 - (esp l wh x0 x1 x2 x3).1) + s.size) :
    Calls Try.prog 64 #[.slice A l.length c, .agg #[.bool wh, .int .i64 x0, .int .i64 x1, .int .i64 x2, .int .i64 x3, .string s]] w fun e w' => ∃ v : Value, e = .returned (.tuple #[v, .int .i64 0]) ∧ Kd.R (Kd.int .u8) 5 w' w.heap.size (fun _ => True) v (l.take (esp l wh x0 x1 x2 x3).1.toNat ++ bytesOf s ++ l.drop (esp l wh x0 x1 x2 x3).2.1.toNat) ∧ Below w.heap.size w w' := by
  have hka := RCheck_f l hB hs (Nat.lt_succ_self _)
  rw [show chk l = ((chk l).1, 0) from Prod.ext rfl hl] at hka
  have hkt := RCheck_f (bytesOf s) (bytesOf_B s) (by rw [bytesOf_length]; exact hs2) (Nat.lt_succ_self _)
  rw [show chk (bytesOf s) = ((chk (bytesOf s)).1, 0) from Prod.ext rfl ht] at hkt
  have HKA := Aside0.mk hka
  have HKT := Aside0.mk hkt
  have HEG := Aside0.mk hk
  obtain ⟨a, hea⟩ : ∃ a, (esp l wh x0 x1 x2 x3).1 = a := ⟨_, rfl⟩
  obtain ⟨b, heb⟩ : ∃ a, (esp l wh x0 x1 x2 x3).2.1 = a := ⟨_, rfl⟩
  have hrg := esp_range hB ((chk_V hB).1 hl) wh x0 x1 x2 x3
  rw [hea, heb] at hrg
  obtain ⟨a0, ab, bl⟩ := hrg
  have HEA := Aside0.mk hea
  have HEB := Aside0.mk heb
  rw [hea, heb] at hlim ⊢
  have v1 : IntKind.i64.wrap (a + s.size) = a + s.size := IntWalk.i64_in _ (by omega)
  have v2 : IntKind.i64.wrap (a + s.size + l.length) = a + s.size + l.length := IntWalk.i64_in _ (by omega)
  have v3 : IntKind.i64.wrap (a + s.size + l.length - b) = a + s.size + l.length - b := IntWalk.i64_in _ (by omega)
  have g3 : decide (8192 < a + s.size + l.length - b) = false := decide_eq_false (by omega)
  have g2 : decide (8192 < s.size) = false := decide_eq_false (by omega)
  have g4 : decide ((8192 : Int) < (s.size : Int)) = false := decide_eq_false (by omega)
  obtain ⟨X1, hP, hp⟩ := cut_pre w A c l a hr hc a0 (by omega)
  obtain ⟨B5, d5, X2, hQ, hq⟩ := cut_suf w A c l b hr hc (by omega) bl
  have lp : (l.take a.toNat).length ≤ 1048576 := by rw [List.length_take]; omega
  have lq : (l.drop b.toNat).length ≤ 1048576 := by rw [List.length_drop]; omega
  generalize l.take a.toNat = p at *
  generalize l.drop b.toNat = q at *
  have HL1 : Aside0 (p.length + s.size ≤ 140737488355328) := ⟨by omega⟩
  have HL2 : Aside0 ((p ++ bytesOf s).length + q.length ≤ 140737488355328) := ⟨by rw [List.length_append, bytesOf_length]; omega⟩
  have HLP := Aside0.mk hp
  have hsp := lp
  have HCP0 : Aside0 (∀ W, Below w.heap.size w W → Kd.C (Kd.int .u8) W A p.length p) := ⟨fun W hW => Kd.C_below hP hW⟩
  have HCQ0 : Aside0 (∀ W, Below w.heap.size w W → Kd.C (Kd.int .u8) W B5 q.length q) := ⟨fun W hW => Kd.C_below hQ hW⟩
  have kb := fun W : World => print_bytes (P := Try.prog) 9 22 5 Try.underlying9 Try.underlying22 Try.underlying5 s W
  have t1 := True.intro
  have t2 := True.intro
  have HBY := Aside0.mk hB
  have HL0 := Aside0.mk hl
  have hb1 := below_alloc (Below.refl _ w) (.cells #[.bool wh, .int .i64 x0, .int .i64 x1, .int .i64 x2, .int .i64 x3, .string s] 29)
  have HS : Aside0 (Sta w (w.alloc (.cells #[.bool wh, .int .i64 x0, .int .i64 x1, .int .i64 x2, .int .i64 x3, .string s] 29)) (fun W => IsBlk W w.heap.size (.cells #[.bool wh, .int .i64 x0, .int .i64 x1, .int .i64 x2, .int .i64 x3, .string s] 29) ∧ Kd.C (Kd.int .u8) W A l.length l)) := ⟨⟨hb1, ⟨blk_new w _, Kd.C_below hr hb1⟩, keeps_and (keeps_blk _ _) (keeps_C _ _ _ _)⟩⟩
  have HCl := Aside0.mk hc
  obtain ⟨c0, c1, c2, c3, c4, c5, c0a, c1a, c2a, c3a, c4a, c5a⟩ := box6 HS.out.now.1
  clear hr hc hB hk hka hkt hl ht hea heb hlim hP hQ hp hq
  go_enter Try.func64, Try.ntmps64
  go_upto_region 12 with (first | (have _t := t1; go_at_call 55; refine (colophonref01_Check.calls _ A c l _ _ _ (HS.out.step (by repeat (first | exact Below.refl _ _ | apply zq2 | apply zq3 | apply zq4 | apply zq5))).now.2 HCl.out HKA.out).mono ?_; rintro e w1 ⟨rfl, hb⟩; have m_ := Aside0.mk (HS.out.call (by repeat (first | exact Below.refl _ _ | apply zq2 | apply zq3 | apply zq4 | apply zq5)) hb); clear HS hb ; have HS := m_; clear m_; clear c0 c1 c2 c3 c4 c5 c0a c1a c2a c3a c4a c5a; obtain ⟨c0, c1, c2, c3, c4, c5, c0a, c1a, c2a, c3a, c4a, c5a⟩ := box6 HS.out.now.1; clear t1 _t) | (have _t := t2; go_at_call 55; refine (RCheck_at _ _ _ (bytesOf s) s.size (bytesOf_length s) _ _ _ (bytes_at _ _ s _ (by simp) (by omega)) (grownCap_ge _ _ _ _) HKT.out).mono ?_; rintro e w2 ⟨rfl, hb⟩; have m_ := Aside0.mk (HS.out.call (by repeat (first | exact Below.refl _ _ | apply zq2 | apply zq3 | apply zq4 | apply zq5)) hb); clear HS hb ; have HS := m_; clear m_; clear c0 c1 c2 c3 c4 c5 c0a c1a c2a c3a c4a c5a; obtain ⟨c0, c1, c2, c3, c4, c5, c0a, c1a, c2a, c3a, c4a, c5a⟩ := box6 HS.out.now.1; clear t2 _t) | (go_at_call 91; refine (RSp_is A c l wh x0 x1 x2 x3 s _ (HS.out.step (by repeat (first | exact Below.refl _ _ | apply zq2 | apply zq3 | apply zq4 | apply zq5))).now.2 HCl.out HBY.out hs HL0.out hx1 hx3).mono ?_; rintro e w3 ⟨rfl, hb⟩; rw [HEA.out, HEB.out, HEG.out]; have m_ := Aside0.mk (HS.out.call (by repeat (first | exact Below.refl _ _ | apply zq2 | apply zq3 | apply zq4 | apply zq5)) hb); clear HS hb ; have HS := m_; clear m_; clear c0 c1 c2 c3 c4 c5 c0a c1a c2a c3a c4a c5a; obtain ⟨c0, c1, c2, c3, c4, c5, c0a, c1a, c2a, c3a, c4a, c5a⟩ := box6 HS.out.now.1))
  have HS9 := Aside0.mk ((HS.out.step (below_alloc (Below.refl w3.heap.size w3) (.cells #[.int .i64 a, .int .i64 b] 44))).add (blk_new w3 (.cells #[.int .i64 a, .int .i64 b] 44)) (keeps_blk _ _))
  clear HS c0a c0 c1a c1 c2a c2 c3a c3 c4a c4 c5a c5
  generalize w3.alloc (.cells #[.int .i64 a, .int .i64 b] 44) = W6 at HS9 ⊢
  generalize w3.heap.size = g6 at HS9 ⊢
  have HS := HS9
  clear HS9
  have HZ : Aside0 (W6.cell? ⟨g6, 0, none⟩ = some (.int .i64 a) ∧ W6.cell? ⟨g6, 1, none⟩ = some (.int .i64 b) ∧ W6.cell? ⟨w.heap.size, 5, none⟩ = some (.string s)) := ⟨HS.out.now.1.cell 0, HS.out.now.1.cell 1, HS.out.now.2.1.cell 5⟩
  have z0 := HZ.out.1
  have y5 := HZ.out.2.2
  have HCP : Aside0 (∀ W, Below W6.heap.size W6 W → Kd.C (Kd.int .u8) W A p.length p) := ⟨fun W hW => Kd.C_below (HCP0.out _ HS.out.bel) hW⟩
  have HCQ : Aside0 (∀ W, Below W6.heap.size W6 W → Kd.C (Kd.int .u8) W B5 q.length q) := ⟨fun W hW => Kd.C_below (HCQ0.out _ HS.out.bel) hW⟩
  go_region_held3 (fun wx => wx.cell? ⟨g6, 0, none⟩ = some (.int .i64 a) ∧ wx.cell? ⟨w.heap.size, 5, none⟩ = some (.string s)) (go_keep) (first | (go_at_call 17; refine (Copy_ok A c p _ (HCP.out _ (pw_below_drewN (Below.refl _ _) _)) HLP.out hsp).mono ?_; rintro e w7 ⟨v, rfl, hR, hb⟩; have HR7 := Aside0.mk (Kd.R_lower hR (show W6.heap.size ≤ _ by simp)); have HB7 := Aside0.mk (below_step (show Below W6.heap.size W6 _ from (by repeat (first | exact Below.refl _ _ | apply zq2 | apply zq3 | apply zq4 | apply zq5))) hb); clear hR hb; have z0 : w7.cell? ⟨g6, 0, none⟩ = some (.int .i64 a) := cell_below HZ.out.1 HB7.out; have y5 : w7.cell? ⟨w.heap.size, 5, none⟩ = some (.string s) := cell_below HZ.out.2.2 HB7.out) | ((rw [if_pos (by rfl)]); refine r_op_str (w0 := W6) W6.heap.size (.tmp 63) (.tmp 65) 22 9 5 rfl Try.underlying22 Try.underlying9 info5 _ p s rfl rfl HR7.out HB7.out HB7.out.size HL1.out ?_; intro v8 w8 hR8 hb8 hsz8; have HR8 := Aside0.mk hR8; have HB8 := Aside0.mk hb8; clear hR8 hb8 hsz8; have z0 : w8.cell? ⟨g6, 0, none⟩ = some (.int .i64 a) := cell_below HZ.out.1 HB8.out; have y5 : w8.cell? ⟨w.heap.size, 5, none⟩ = some (.string s) := cell_below HZ.out.2.2 HB8.out))
  all_goals
    have z1 : w8.cell? ⟨g6, 1, none⟩ = some (.int .i64 b) := cell_below HZ.out.2.1 HB8.out
    go_wp2_with ((with_reducible refine gate_builtin (b := .append) (xs := #[.tmp 67, .tmp 71]) rfl ?_); at_builtin; refine r_append (w0 := W6) W6.heap.size rfl (.tmp 67) (.tmp 71) 22 5 rfl Try.underlying22 info5 _ (p ++ bytesOf s) q B5 q.length d5 rfl rfl rfl HR8.out (HCQ.out _ HB8.out) HB8.out HB8.out.size HL2.out ?_; intro v9 w9 hR9 hb9 hsz9; have HR9 := Aside0.mk hR9; have HB9 := Aside0.mk hb9; clear hR9 hb9 hsz9)
    go_ret2
    exact ⟨_, rfl, Kd.R_lower HR9.out HS.out.bel.size, below_step HS.out.bel HB9.out⟩
end Go.Proofs.Ytjebkpcekkkbkaa.B
