/-
  Chapter 15's statements: works.
-/
import Derived.RangeFuncNested
import Derived.RangeFuncBound
import Derived.RangeFuncCalls
import Derived.RangeFuncLeaves
import Derived.RangeFuncBox
import Derived.Shelf.Abstract
import Derived.Shelf.RegionOpen
import Derived.OwnWalkIn
import Derived.TacticsInMore
import Derived.LoopNIn
import Derived.LoopIn
import Derived.Test.YtjebkpcekkkbkaaProg
import Derived.Below
import Derived.Deep.Draws
import Derived.Deep.AppendLies
import Derived.Maps.AppendAt
import Derived.OwnWalk
import Derived.Laws.BytesArg
import Derived.Laws.MakeOwn
import Derived.Laws.OwnMore
import Derived.Deep.OwnRows
import Derived.Tactics
import Derived.Lib.ConvBytes
import Derived.Laws.Slices
import Derived.WalkKit
import Derived.KernelRfl
import Derived.RowKit3
import Derived.Deep.LoopGhost
import Derived.Deep.QuietTactic
import Derived.BigQuiet
import Derived.WideLaws
import Derived.Deep.DeepCutAuto
import Derived.Deep.CutBlock
import Derived.Deep.RegionHeld3
import Derived.Laws.Rows
import Derived.Lib.AppendStr
import Derived.ArgAppend
import Derived.Laws.IdiomCopy
import Derived.OrdersHeld
import Derived.Laws.BitsLemmas
import Derived.RowKit
import Derived.Test.YtjebkpcekkkbkaaWWords
import Derived.Test.YtjebkpcekkkbkaaWLast
import Derived.Test.YtjebkpcekkkbkaaWTab
import Derived.Test.YtjebkpcekkkbkaaWFour
import Derived.Test.YtjebkpcekkkbkaaWQPut
import Derived.Test.YtjebkpcekkkbkaaWApart
import Derived.Test.YtjebkpcekkkbkaaWArr
import Derived.Test.YtjebkpcekkkbkaaWZeros
import Derived.Test.YtjebkpcekkkbkaaWFoot
import Derived.Test.YtjebkpcekkkbkaaWKept
import Derived.Test.YtjebkpcekkkbkaaWShare
import Derived.Test.YtjebkpcekkkbkaaWN
import Derived.Test.YtjebkpcekkkbkaaWFootNe
import Derived.Test.YtjebkpcekkkbkaaWAt
import Derived.Test.YtjebkpcekkkbkaaWEqStruct
import Derived.Test.YtjebkpcekkkbkaaWRepsOne
import Derived.Test.YtjebkpcekkkbkaaWInv
import Derived.Test.YtjebkpcekkkbkaaWInvWords
import Derived.Test.YtjebkpcekkkbkaaWGuard
import Derived.Test.YtjebkpcekkkbkaaWNEv
import Derived.Test.YtjebkpcekkkbkaaWMore
import Derived.Deep.DeepFit
import Derived.Test.YtjebkpcekkkbkaaBulk
import Derived.ChangeShapes
import Derived.WalkMore
import Derived.WalkSpells
import Derived.Deep.CutRange
import Derived.IntWalk
import Derived.Lib.SlBytesConst
import Derived.Test.YtjebkpcekkkbkaaZN136
set_option linter.unusedSimpArgs false
set_option linter.unusedVariables false
/-
  edit: Diff, walked.
-/
namespace Go.Proofs.Ytjebkpcekkkbkaa.B
open Go.RowKit Go.Shelf Go.Proofs Go.Proofs.YtjebkpcekkkbkaaW.PrintWords Go.Proofs.YtjebkpcekkkbkaaW.PrintLast Go.Proofs.YtjebkpcekkkbkaaW.PrintMore Go.Proofs.Ytjebkpcekkkbkaa.FBase
attribute [local go_sem] max2_int min2_int max_two min_two
set_option maxRecDepth 100000 in
set_option maxHeartbeats 4000000 in
theorem Diff_ok (A B : Option Addr) (c d : Nat) (a b : List Int) (w : World) (hr : Kd.C (Kd.int .u8) w A a.length a) (hc : a.length ≤ c) (hr2 : Kd.C (Kd.int .u8) w B b.length b) (hd : b.length ≤ d) (hn : A = none → c = 0) (hA : Bytes a) (hB : Bytes b) (hs : a.length ≤ 1048576) (hs2 : b.length ≤ 140737488351232) (hl : (chk a).2 = 0) (ht : (chk b).2 = 0) (hlim : ¬ 8192 < b.length) :
    Calls Try.prog 18 #[.slice A a.length c, .slice B b.length d] w fun e w' => (∃ f t : Nat, IsDiff a b f t ∧ e = .returned (.tuple #[.agg #[.bool false, .int .i64 (fnd a f : Int), .int .i64 (pch a f), .int .i64 (fnd a ((a.length - t : Nat) : Int) : Int), .int .i64 (pch a ((a.length - t : Nat) : Int)), .string (strOfNums ((b.take (b.length - t)).drop f))], .int .i64 0])) ∧ Below w.heap.size w w' := by
  have HR2 := Aside0.mk hr2
  have hb1 := below_alloc (Below.refl _ w) (.cells #[.bool false, .int .i64 0, .int .i64 0, .int .i64 0, .int .i64 0, .string ⟨#[]⟩] 29)
  have HS : Aside0 (Sta w (w.alloc (.cells #[.bool false, .int .i64 0, .int .i64 0, .int .i64 0, .int .i64 0, .string ⟨#[]⟩] 29)) (fun W => IsBlk W w.heap.size (.cells #[.bool false, .int .i64 0, .int .i64 0, .int .i64 0, .int .i64 0, .string ⟨#[]⟩] 29) ∧ Kd.C (Kd.int .u8) W A a.length a ∧ Kd.C (Kd.int .u8) W B b.length b)) := ⟨⟨hb1, ⟨blk_new w _, Kd.C_below hr hb1, Kd.C_below hr2 hb1⟩, keeps_and (keeps_blk _ _) (keeps_and (keeps_C _ _ _ _) (keeps_C _ _ _ _))⟩⟩
  clear hb1 hr hr2
  have n1 := blk_lt HS.out.now.1
  have k0 : (w.alloc (.cells #[.bool false, .int .i64 0, .int .i64 0, .int .i64 0, .int .i64 0, .string ⟨#[]⟩] 29)).cell? ⟨w.heap.size, 0, none⟩ = some (.bool false) := HS.out.now.1.cell 0
  have f0 := HS.out.now.1.frozen 0
  have k1 : (w.alloc (.cells #[.bool false, .int .i64 0, .int .i64 0, .int .i64 0, .int .i64 0, .string ⟨#[]⟩] 29)).cell? ⟨w.heap.size, 1, none⟩ = some (.int .i64 0) := HS.out.now.1.cell 1
  have f1 := HS.out.now.1.frozen 1
  have k2 : (w.alloc (.cells #[.bool false, .int .i64 0, .int .i64 0, .int .i64 0, .int .i64 0, .string ⟨#[]⟩] 29)).cell? ⟨w.heap.size, 2, none⟩ = some (.int .i64 0) := HS.out.now.1.cell 2
  have f2 := HS.out.now.1.frozen 2
  have k3 : (w.alloc (.cells #[.bool false, .int .i64 0, .int .i64 0, .int .i64 0, .int .i64 0, .string ⟨#[]⟩] 29)).cell? ⟨w.heap.size, 3, none⟩ = some (.int .i64 0) := HS.out.now.1.cell 3
  have f3 := HS.out.now.1.frozen 3
  have k4 : (w.alloc (.cells #[.bool false, .int .i64 0, .int .i64 0, .int .i64 0, .int .i64 0, .string ⟨#[]⟩] 29)).cell? ⟨w.heap.size, 4, none⟩ = some (.int .i64 0) := HS.out.now.1.cell 4
  have f4 := HS.out.now.1.frozen 4
  have k5 : (w.alloc (.cells #[.bool false, .int .i64 0, .int .i64 0, .int .i64 0, .int .i64 0, .string ⟨#[]⟩] 29)).cell? ⟨w.heap.size, 5, none⟩ = some (.string ⟨#[]⟩) := HS.out.now.1.cell 5
  have f5 := HS.out.now.1.frozen 5
  have HC := Aside0.mk hc
  have HD := Aside0.mk hd
  have HAY := Aside0.mk hA
  have HBY := Aside0.mk hB
  have HT := Aside0.mk (texts2_f a b hA hB hs hs2)
  clear hc hd
  rw [hl, ht, if_neg (by simp)] at HT
  have g9 : decide (8192 < (b.length : Int)) = false := decide_eq_false (by omega)
  have hv := (chk_V hA).1 hl
  have hkk := Check_f a hA hs (Nat.lt_succ_self _)
  rw [show chk a = ((chk a).1, 0) from Prod.ext rfl hl] at hkk
  have HK := Aside0.mk hkk
  have HV := Aside0.mk hv
  clear hl ht hA hB hkk hv hlim
  obtain ⟨M, hM, M1, M2, M3⟩ : ∃ M : Nat, (if b.length < a.length then (b.length : Int) else (a.length : Int)) = (M : Int) ∧ M ≤ a.length ∧ M ≤ b.length ∧ (M = a.length ∨ M = b.length) := by
    by_cases h : b.length < a.length
    · exact ⟨b.length, if_pos h, by omega, Nat.le_refl _, .inr rfl⟩
    · exact ⟨a.length, if_neg h, Nat.le_refl _, by omega, .inl rfl⟩
  go_enter Try.func18, Try.ntmps18
  go_upto_block 0 with (first | (go_at_call 51; refine (edit_texts.calls _ _ _ [a, b] _ _ (row2_at _ _ (by simp) _ _ _ _ a b (HS.out.step (by repeat (first | exact Below.refl _ _ | apply below_alloc | apply pw_below_drewN | apply below_drew1 | apply bytes_step))).now.2.1 HC.out (HS.out.step (by repeat (first | exact Below.refl _ _ | apply below_alloc | apply pw_below_drewN | apply below_drew1 | apply bytes_step))).now.2.2 HD.out _) (Nat.le_refl _) HT.out).mono ?_; rintro e w1 ⟨rfl, hd⟩; have hb := hd.below; clear hd; have m_ := Aside0.mk (HS.out.call (by repeat (first | exact Below.refl _ _ | apply below_alloc | apply pw_below_drewN | apply below_drew1 | apply bytes_step)) hb); clear HS hb ; have HS := m_; clear m_; have n1 := blk_lt HS.out.now.1; have k0 : w1.cell? ⟨w.heap.size, 0, none⟩ = some (.bool false) := HS.out.now.1.cell 0; have f0 := HS.out.now.1.frozen 0; have k1 : w1.cell? ⟨w.heap.size, 1, none⟩ = some (.int .i64 0) := HS.out.now.1.cell 1; have f1 := HS.out.now.1.frozen 1; have k2 : w1.cell? ⟨w.heap.size, 2, none⟩ = some (.int .i64 0) := HS.out.now.1.cell 2; have f2 := HS.out.now.1.frozen 2; have k3 : w1.cell? ⟨w.heap.size, 3, none⟩ = some (.int .i64 0) := HS.out.now.1.cell 3; have f3 := HS.out.now.1.frozen 3; have k4 : w1.cell? ⟨w.heap.size, 4, none⟩ = some (.int .i64 0) := HS.out.now.1.cell 4; have f4 := HS.out.now.1.frozen 4; have k5 : w1.cell? ⟨w.heap.size, 5, none⟩ = some (.string ⟨#[]⟩) := HS.out.now.1.cell 5; have f5 := HS.out.now.1.frozen 5) | (go_at_call 25; refine (MNew_ok _ A c a _ _ (HS.out.step (by repeat (first | exact Below.refl _ _ | apply below_alloc | apply pw_below_drewN | apply below_drew1 | apply bytes_step))).now.2.1 HC.out hn HK.out hs).mono ?_; rintro e w2 ⟨m, rfl, hM, hb⟩; have m_ := Aside0.mk ((HS.out.call (by repeat (first | exact Below.refl _ _ | apply below_alloc | apply pw_below_drewN | apply below_drew1 | apply bytes_step)) hb).add hM (keeps_map _ _)); clear HS hb hM; have HS := m_; clear m_))
  go_cut [9] from 13 (fun s9 W => ∃ k : Nat, s9 = .int .i64 k ∧ k ≤ a.length ∧ k ≤ b.length ∧ Aside0 (Pre a b k) ∧ Aside0 (∀ n, k < n → n ≤ a.length → n ≤ b.length → a.take n ≠ b.take n) ∧ Aside0 (Sta w W (fun W => IsMap W m a ∧ IsBlk W w.heap.size (.cells #[.bool false, .int .i64 0, .int .i64 0, .int .i64 0, .int .i64 0, .string ⟨#[]⟩] 29) ∧ Kd.C (Kd.int .u8) W A a.length a ∧ Kd.C (Kd.int .u8) W B b.length b)))
  case first =>
    go_wp2
    go_loopw [9] (fun s9 W => ∃ k : Nat, s9 = .int .i64 k ∧ k ≤ a.length ∧ k ≤ b.length ∧ Aside0 (Pre a b k) ∧ Aside0 (Sta w W (fun W => IsMap W m a ∧ IsBlk W w.heap.size (.cells #[.bool false, .int .i64 0, .int .i64 0, .int .i64 0, .int .i64 0, .string ⟨#[]⟩] 29) ∧ Kd.C (Kd.int .u8) W A a.length a ∧ Kd.C (Kd.int .u8) W B b.length b))) (fun s9 _ => a.length - (intOf s9).toNat)
    case atStart => exact ⟨0, rfl, Nat.zero_le _, Nat.zero_le _, ⟨⟨Nat.zero_le _, Nat.zero_le _, rfl⟩⟩, HS⟩
    case round =>
      clear HS
      obtain ⟨k, rfl, hk1, hk2, HP, HS⟩ := hrel
      by_cases h0 : k < M
      · have h1 : k < a.length := by omega
        have h2 : k < b.length := by omega
        have g1 : decide (k < M) = true := decide_eq_true h0
        obtain ⟨ad1, e1, x1⟩ := Kd.at_int HS.out.now.2.2.1 (k : Int) (by omega) (by omega)
        obtain ⟨ad2, e2, x2⟩ := Kd.at_int HS.out.now.2.2.2 (k : Int) (by omega) (by omega)
        cases e1
        cases e2
        rw [Int.toNat_natCast] at x1 x2
        by_cases h3 : rd a k = rd b k
        · have g3 : (rd a k == rd b k) = true := beq_iff_eq.mpr h3
          have HP2 := Aside0.mk (HP.out.step h1 h2 h3)
          clear h3
          go_wp2
          repeat (go_quiet (fail); try go_wp2)
          go_roundw
          case measure => simp [intOf]; omega
          case rel => exact ⟨k + 1, by simp, by omega, by omega, HP2, ⟨HS.out.step (by repeat (first | exact Below.refl _ _ | apply below_alloc | apply pw_below_drewN | apply below_drew1 | apply bytes_step))⟩⟩
        · have g3 : (rd a k == rd b k) = false := beq_eq_false_iff_ne.mpr h3
          have HQ := Aside0.mk (Pre.stop (.inr (.inr h3)))
          clear h3
          go_wp2
          repeat (go_quiet (fail); try go_wp2)
          go_meet
          exact ⟨k, rfl, hk1, hk2, HP, HQ, ⟨HS.out.step (by repeat (first | exact Below.refl _ _ | apply below_alloc | apply pw_below_drewN | apply below_drew1 | apply bytes_step))⟩⟩
      · have g1 : decide (k < M) = false := decide_eq_false h0
        have HQ : Aside0 (∀ n, k < n → n ≤ a.length → n ≤ b.length → a.take n ≠ b.take n) := ⟨Pre.stop (by omega)⟩
        go_wp2
        repeat (go_quiet (fail); try go_wp2)
        go_meet
        exact ⟨k, rfl, hk1, hk2, HP, HQ, ⟨HS.out.step (by repeat (first | exact Below.refl _ _ | apply below_alloc | apply pw_below_drewN | apply below_drew1 | apply bytes_step))⟩⟩
  case rest =>
    clear HS
    obtain ⟨k1, rfl, hka, hkb, HP, HQ, HS⟩ := hcut
    go_upto_block 2 with (fail)
    go_cut [9] from 13 (fun s9 W => ∃ k : Nat, s9 = .int .i64 k ∧ k ≤ a.length ∧ k ≤ b.length ∧ Aside0 (Down a b k) ∧ Aside0 (isPb a k = true) ∧ Aside0 (Sta w W (fun W => IsMap W m a ∧ IsBlk W w.heap.size (.cells #[.bool false, .int .i64 0, .int .i64 0, .int .i64 0, .int .i64 0, .string ⟨#[]⟩] 29) ∧ Kd.C (Kd.int .u8) W A a.length a ∧ Kd.C (Kd.int .u8) W B b.length b)))
    case first =>
      go_wp2
      go_loopw [9] (fun s9 W => ∃ k : Nat, s9 = .int .i64 k ∧ k ≤ a.length ∧ k ≤ b.length ∧ Aside0 (Down a b k) ∧ Aside0 (Sta w W (fun W => IsMap W m a ∧ IsBlk W w.heap.size (.cells #[.bool false, .int .i64 0, .int .i64 0, .int .i64 0, .int .i64 0, .string ⟨#[]⟩] 29) ∧ Kd.C (Kd.int .u8) W A a.length a ∧ Kd.C (Kd.int .u8) W B b.length b))) (fun s9 _ => (intOf s9).toNat)
      case atStart => exact ⟨k1, rfl, hka, hkb, ⟨⟨HP.out, fun n h1 h2 h3 h4 => absurd h4 (HQ.out n h1 h2 h3)⟩⟩, HS⟩
      case round =>
        clear HS HP HQ hka hkb
        obtain ⟨k, rfl, hka, hkb, HP, HS⟩ := hrel
        by_cases h1 : isPb a k = true
        · have HI := Aside0.mk h1
          clear h1
          go_wp2_with (go_at_call 52; refine (Mis_is m a (k : Int) _ (HS.out.step (by repeat (first | exact Below.refl _ _ | apply below_alloc | apply pw_below_drewN | apply below_drew1 | apply bytes_step))).now.1 hs HAY.out HV.out (by omega) (by omega)).mono ?_; rintro e w3 ⟨rfl, hb⟩; rw [HI.out]; have m_ := Aside0.mk (HS.out.call (by repeat (first | exact Below.refl _ _ | apply below_alloc | apply pw_below_drewN | apply below_drew1 | apply bytes_step)) hb); clear HS hb ; have HS := m_; clear m_)
          go_meet
          exact ⟨k, rfl, hka, hkb, HP, HI, HS⟩
        · have h2 : isPb a k = false := by cases h : isPb a k with | true => exact absurd h h1 | false => rfl
          have HI := Aside0.mk h2
          obtain ⟨hk0, hdn⟩ := HP.out.step HAY.out HV.out h2
          have HD2 := Aside0.mk hdn
          clear h1 h2 hdn
          go_wp2_with (go_at_call 52; refine (Mis_is m a (k : Int) _ (HS.out.step (by repeat (first | exact Below.refl _ _ | apply below_alloc | apply pw_below_drewN | apply below_drew1 | apply bytes_step))).now.1 hs HAY.out HV.out (by omega) (by omega)).mono ?_; rintro e w3 ⟨rfl, hb⟩; rw [HI.out]; have m_ := Aside0.mk (HS.out.call (by repeat (first | exact Below.refl _ _ | apply below_alloc | apply pw_below_drewN | apply below_drew1 | apply bytes_step)) hb); clear HS hb ; have HS := m_; clear m_)
          go_roundw
          case measure => simp [intOf]; omega
          case rel => exact ⟨k - 1, by rw [show (k : Int) - 1 = ((k - 1 : Nat) : Int) by omega], by omega, by omega, HD2, HS⟩
    case rest =>
      clear HS HP HQ hka hkb
      obtain ⟨f, rfl, hfa, hfb, HP, HI, HS⟩ := hcut
      go_upto_block 4 with (fail)
      go_cut [10] from 13 (fun s10 W => ∃ k : Nat, s10 = .int .i64 k ∧ f + k ≤ a.length ∧ f + k ≤ b.length ∧ Aside0 (Suf a b f k) ∧ Aside0 (∀ n, k < n → f + n ≤ a.length → f + n ≤ b.length → a.drop (a.length - n) ≠ b.drop (b.length - n)) ∧ Aside0 (Sta w W (fun W => IsMap W m a ∧ IsBlk W w.heap.size (.cells #[.bool false, .int .i64 0, .int .i64 0, .int .i64 0, .int .i64 0, .string ⟨#[]⟩] 29) ∧ Kd.C (Kd.int .u8) W A a.length a ∧ Kd.C (Kd.int .u8) W B b.length b)))
      case first =>
        go_wp2
        go_loopw [10] (fun s10 W => ∃ k : Nat, s10 = .int .i64 k ∧ f + k ≤ a.length ∧ f + k ≤ b.length ∧ Aside0 (Suf a b f k) ∧ Aside0 (Sta w W (fun W => IsMap W m a ∧ IsBlk W w.heap.size (.cells #[.bool false, .int .i64 0, .int .i64 0, .int .i64 0, .int .i64 0, .string ⟨#[]⟩] 29) ∧ Kd.C (Kd.int .u8) W A a.length a ∧ Kd.C (Kd.int .u8) W B b.length b))) (fun s10 _ => a.length - (intOf s10).toNat)
        case atStart => exact ⟨0, rfl, by omega, by omega, ⟨⟨by omega, by omega, by simp⟩⟩, HS⟩
        case round =>
          clear HS
          obtain ⟨k, rfl, hka, hkb, HQ, HS⟩ := hrel
          have v0 : IntKind.i64.wrap ((M : Int) - f) = (M : Int) - f := IntWalk.i64_in _ (by omega)
          by_cases h0 : (k : Int) < (M : Int) - f
          · have h1 : f + k < a.length := by omega
            have h2 : f + k < b.length := by omega
            have g1 : decide ((k : Int) < (M : Int) - f) = true := decide_eq_true h0
            obtain ⟨ad1, e1, x1⟩ := Kd.at_int HS.out.now.2.2.1 ((a.length - 1 - k : Nat) : Int) (by omega) (by omega)
            obtain ⟨ad2, e2, x2⟩ := Kd.at_int HS.out.now.2.2.2 ((b.length - 1 - k : Nat) : Int) (by omega) (by omega)
            cases e1
            cases e2
            rw [Int.toNat_natCast] at x1 x2
            have v1 : IntKind.i64.wrap ((a.length : Int) - 1) = (a.length : Int) - 1 := IntWalk.i64_in _ (by omega)
            have v2 : IntKind.i64.wrap ((a.length : Int) - 1 - k) = (a.length : Int) - 1 - k := IntWalk.i64_in _ (by omega)
            have v3 : IntKind.i64.wrap ((b.length : Int) - 1) = (b.length : Int) - 1 := IntWalk.i64_in _ (by omega)
            have v4 : IntKind.i64.wrap ((b.length : Int) - 1 - k) = (b.length : Int) - 1 - k := IntWalk.i64_in _ (by omega)
            have u1 : ((a.length : Int) - 1 - k).toNat = a.length - 1 - k := by omega
            have u2 : ((b.length : Int) - 1 - k).toNat = b.length - 1 - k := by omega
            have p1 : (0 : Int) ≤ (a.length : Int) - 1 - k := by omega
            have p2 : (0 : Int) ≤ (b.length : Int) - 1 - k := by omega
            have p3 : (a.length : Int) - 1 - k < a.length := by omega
            have p4 : (b.length : Int) - 1 - k < b.length := by omega
            by_cases h3 : rd a ((a.length - 1 - k : Nat) : Int) = rd b ((b.length - 1 - k : Nat) : Int)
            · have g3 : (rd a ((a.length - 1 - k : Nat) : Int) == rd b ((b.length - 1 - k : Nat) : Int)) = true := beq_iff_eq.mpr h3
              have HP2 := Aside0.mk (HQ.out.step h1 h2 h3)
              clear h3
              go_wp2
              repeat (go_quiet (fail); try go_wp2)
              clear v0 v1 v2 v3 v4
              go_roundw
              case measure => simp [intOf]; omega
              case rel => exact ⟨k + 1, by simp, by omega, by omega, HP2, ⟨HS.out.step (by repeat (first | exact Below.refl _ _ | apply below_alloc | apply pw_below_drewN | apply below_drew1 | apply bytes_step))⟩⟩
            · have g3 : (rd a ((a.length - 1 - k : Nat) : Int) == rd b ((b.length - 1 - k : Nat) : Int)) = false := beq_eq_false_iff_ne.mpr h3
              have HW := Aside0.mk (Suf.stop (a := a) (b := b) (f := f) (k := k) (.inr (.inr h3)))
              clear h3
              go_wp2
              repeat (go_quiet (fail); try go_wp2)
              go_meet
              exact ⟨k, rfl, hka, hkb, HQ, HW, ⟨HS.out.step (by repeat (first | exact Below.refl _ _ | apply below_alloc | apply pw_below_drewN | apply below_drew1 | apply bytes_step))⟩⟩
          · have g1 : decide ((k : Int) < (M : Int) - f) = false := decide_eq_false h0
            have HW : Aside0 (∀ n, k < n → f + n ≤ a.length → f + n ≤ b.length → a.drop (a.length - n) ≠ b.drop (b.length - n)) := ⟨Suf.stop (by omega)⟩
            go_wp2
            repeat (go_quiet (fail); try go_wp2)
            go_meet
            exact ⟨k, rfl, hka, hkb, HQ, HW, ⟨HS.out.step (by repeat (first | exact Below.refl _ _ | apply below_alloc | apply pw_below_drewN | apply below_drew1 | apply bytes_step))⟩⟩
      case rest =>
        clear HS
        obtain ⟨k2, rfl, hja, hjb, HQ, HW, HS⟩ := hcut
        go_upto_block 6 with (fail)
        go_cut [10] from 13 (fun s10 W => ∃ k : Nat, s10 = .int .i64 k ∧ f + k ≤ a.length ∧ f + k ≤ b.length ∧ Aside0 (Far a b f k) ∧ Aside0 (isPb a ((a.length : Int) - k) = true) ∧ Aside0 (Sta w W (fun W => IsMap W m a ∧ IsBlk W w.heap.size (.cells #[.bool false, .int .i64 0, .int .i64 0, .int .i64 0, .int .i64 0, .string ⟨#[]⟩] 29) ∧ Kd.C (Kd.int .u8) W A a.length a ∧ Kd.C (Kd.int .u8) W B b.length b)))
        case first =>
          go_wp2
          go_loopw [10] (fun s10 W => ∃ k : Nat, s10 = .int .i64 k ∧ f + k ≤ a.length ∧ f + k ≤ b.length ∧ Aside0 (Far a b f k) ∧ Aside0 (Sta w W (fun W => IsMap W m a ∧ IsBlk W w.heap.size (.cells #[.bool false, .int .i64 0, .int .i64 0, .int .i64 0, .int .i64 0, .string ⟨#[]⟩] 29) ∧ Kd.C (Kd.int .u8) W A a.length a ∧ Kd.C (Kd.int .u8) W B b.length b))) (fun s10 _ => (intOf s10).toNat)
          case atStart => exact ⟨k2, rfl, hja, hjb, ⟨⟨HQ.out, fun n h1 h2 h3 h4 => absurd h4 (HW.out n h1 h2 h3)⟩⟩, HS⟩
          case round =>
            clear HS HQ HW hja hjb
            obtain ⟨k, rfl, hka, hkb, HQ, HS⟩ := hrel
            by_cases h1 : isPb a ((a.length : Int) - k) = true
            · have HI := Aside0.mk h1
              clear h1
              go_wp2_with (go_at_call 52; refine (Mis_is m a ((a.length : Int) - k) _ (HS.out.step (by repeat (first | exact Below.refl _ _ | apply below_alloc | apply pw_below_drewN | apply below_drew1 | apply bytes_step))).now.1 hs HAY.out HV.out (by omega) (by omega)).mono ?_; rintro e w3 ⟨rfl, hb⟩; rw [HI.out]; have m_ := Aside0.mk (HS.out.call (by repeat (first | exact Below.refl _ _ | apply below_alloc | apply pw_below_drewN | apply below_drew1 | apply bytes_step)) hb); clear HS hb ; have HS := m_; clear m_)
              go_meet
              exact ⟨k, rfl, hka, hkb, HQ, HI, HS⟩
            · have h2 : isPb a ((a.length : Int) - k) = false := by cases h : isPb a ((a.length : Int) - k) with | true => exact absurd h h1 | false => rfl
              have HI := Aside0.mk h2
              obtain ⟨hk0, hdn⟩ := HQ.out.step HAY.out HV.out (by rw [show ((a.length - k : Nat) : Int) = (a.length : Int) - k by omega]; exact h2)
              have HD2 := Aside0.mk hdn
              clear h1 h2 hdn
              go_wp2_with (go_at_call 52; refine (Mis_is m a ((a.length : Int) - k) _ (HS.out.step (by repeat (first | exact Below.refl _ _ | apply below_alloc | apply pw_below_drewN | apply below_drew1 | apply bytes_step))).now.1 hs HAY.out HV.out (by omega) (by omega)).mono ?_; rintro e w3 ⟨rfl, hb⟩; rw [HI.out]; have m_ := Aside0.mk (HS.out.call (by repeat (first | exact Below.refl _ _ | apply below_alloc | apply pw_below_drewN | apply below_drew1 | apply bytes_step)) hb); clear HS hb ; have HS := m_; clear m_)
              go_roundw
              case measure => simp [intOf]; omega
              case rel => exact ⟨k - 1, by rw [show (k : Int) - 1 = ((k - 1 : Nat) : Int) by omega], by omega, by omega, HD2, HS⟩
        case rest =>
          clear HS HW hja hjb
          obtain ⟨t, rfl, hta, htb, HQ, HJ, HS⟩ := hcut
          have hdiff : IsDiff a b f t := ⟨(isPb_iff a f).1 HI.out, hta, htb, HP.out.pre.eq, HP.out.most, by rw [show ((a.length - t : Nat) : Int) = (a.length : Int) - t by omega]; exact (isPb_iff a _).1 HJ.out, HQ.out.suf.eq, HQ.out.far⟩
          obtain ⟨SB, sd, E2, hCs, hsd⟩ := cut_seg w B d b (f : Int) ((b.length : Int) - t) HR2.out HD.out (by omega) (by omega) (by omega)
          rw [show ((b.length : Int) - t).toNat = b.length - t by omega, Int.toNat_natCast] at E2 hCs hsd
          obtain ⟨seg, hseg⟩ : ∃ x, (b.take (b.length - t)).drop f = x := ⟨_, rfl⟩
          rw [hseg] at E2 hCs hsd
          obtain ⟨ss, hss⟩ : ∃ ss, strOfNums seg = ss := ⟨_, rfl⟩
          have HSS := Aside0.mk hss
          obtain ⟨fa, hfa'⟩ : ∃ x : Int, (fnd a (f : Int) : Int) = x := ⟨_, rfl⟩
          obtain ⟨pa, hpa'⟩ : ∃ x : Int, pch a (f : Int) = x := ⟨_, rfl⟩
          obtain ⟨fb, hfb'⟩ : ∃ x : Int, (fnd a ((a.length : Int) - t) : Int) = x := ⟨_, rfl⟩
          obtain ⟨pb, hpb'⟩ : ∃ x : Int, pch a ((a.length : Int) - t) = x := ⟨_, rfl⟩
          have HPO : Aside0 (IsDiff a b f t ∧ Value.agg #[.bool false, .int .i64 fa, .int .i64 pa, .int .i64 fb, .int .i64 pb, .string ss] = .agg #[.bool false, .int .i64 (fnd a f : Int), .int .i64 (pch a f), .int .i64 (fnd a ((a.length - t : Nat) : Int) : Int), .int .i64 (pch a ((a.length - t : Nat) : Int)), .string (strOfNums ((b.take (b.length - t)).drop f))]) := ⟨⟨hdiff, by rw [hseg, hss, show ((a.length - t : Nat) : Int) = (a.length : Int) - t by omega, hfa', hpa', hfb', hpb']⟩⟩
          have HFA := Aside0.mk hfa'
          have HPA := Aside0.mk hpa'
          have HFB := Aside0.mk hfb'
          have HPB := Aside0.mk hpb'
          have HCS : Aside0 (∀ W, Below w.heap.size w W → Kd.C (Kd.int .u8) W SB seg.length seg) := ⟨fun W hW => Kd.C_below hCs hW⟩
          clear hCs hdiff hseg hss hfa' hpa' hfb' hpb' HP HQ HI HJ hsd
          go_upto_region 21 with (go_at_call 53; refine (MRange_is m a (f : Int) ((a.length : Int) - t) _ (HS.out.step (by repeat (first | exact Below.refl _ _ | apply below_alloc | apply pw_below_drewN | apply below_drew1 | apply bytes_step))).now.1 hs HAY.out HV.out (by omega) (by omega) (by omega)).mono ?_; rintro e w4 ⟨rfl, hb⟩; rw [HFA.out, HPA.out, HFB.out, HPB.out]; have m_ := Aside0.mk (HS.out.call (by repeat (first | exact Below.refl _ _ | apply below_alloc | apply pw_below_drewN | apply below_drew1 | apply bytes_step)) hb); clear HS hb ; have HS := m_; clear m_)
          have HKS : ∀ W : World, Kd.C (Kd.int .u8) W SB seg.length seg → (convert 22 9 (.slice SB seg.length sd)).run Try.prog W = .ok (.string ss) W := fun W h => by
            have h2 := Kd.C_string (P := Try.prog) (w := W) (src := 22) (dst := 9) (e := 5) (c := sd) Try.underlying22 Try.underlying5 Try.underlying9 h
            rw [HSS.out] at h2
            exact h2
          have HS9 := Aside0.mk ((HS.out.step (below_alloc (Below.refl w4.heap.size w4) (.cells #[.int .i64 fa, .int .i64 pa, .int .i64 fb, .int .i64 pb] 27))).add (blk_new w4 (.cells #[.int .i64 fa, .int .i64 pa, .int .i64 fb, .int .i64 pb] 27)) (keeps_blk _ _))
          have hg6 := blk_lt HS.out.now.2.1
          clear HS
          generalize w4.alloc (.cells #[.int .i64 fa, .int .i64 pa, .int .i64 fb, .int .i64 pb] 27) = W6 at HS9 ⊢
          generalize w4.heap.size = g6 at HS9 hg6 ⊢
          have HS := HS9
          clear HS9
          have n1 := blk_lt HS.out.now.2.2.1
          have k0 : W6.cell? ⟨w.heap.size, 0, none⟩ = some (.bool false) := HS.out.now.2.2.1.cell 0
          have f0 := HS.out.now.2.2.1.frozen 0
          have k1 : W6.cell? ⟨w.heap.size, 1, none⟩ = some (.int .i64 0) := HS.out.now.2.2.1.cell 1
          have f1 := HS.out.now.2.2.1.frozen 1
          have k2 : W6.cell? ⟨w.heap.size, 2, none⟩ = some (.int .i64 0) := HS.out.now.2.2.1.cell 2
          have f2 := HS.out.now.2.2.1.frozen 2
          have k3 : W6.cell? ⟨w.heap.size, 3, none⟩ = some (.int .i64 0) := HS.out.now.2.2.1.cell 3
          have f3 := HS.out.now.2.2.1.frozen 3
          have k4 : W6.cell? ⟨w.heap.size, 4, none⟩ = some (.int .i64 0) := HS.out.now.2.2.1.cell 4
          have f4 := HS.out.now.2.2.1.frozen 4
          have k5 : W6.cell? ⟨w.heap.size, 5, none⟩ = some (.string ⟨#[]⟩) := HS.out.now.2.2.1.cell 5
          have f5 := HS.out.now.2.2.1.frozen 5
          have z0 : W6.cell? ⟨g6, 0, none⟩ = some (.int .i64 fa) := HS.out.now.1.cell 0
          have z1 : W6.cell? ⟨g6, 1, none⟩ = some (.int .i64 pa) := HS.out.now.1.cell 1
          have z2 : W6.cell? ⟨g6, 2, none⟩ = some (.int .i64 fb) := HS.out.now.1.cell 2
          have z3 : W6.cell? ⟨g6, 3, none⟩ = some (.int .i64 pb) := HS.out.now.1.cell 3
          have e3 := Nat.ne_of_lt hg6
          have e4 := Ne.symm e3
          have ks0 := HKS W6 (HCS.out _ HS.out.bel)
          have ks1 := HKS W6.drew (Kd.C_drew (HCS.out _ HS.out.bel))
          have q9 : Below w.heap.size w ((((((W6.setCell ⟨w.heap.size, 0, none⟩ (.bool false)).setCell ⟨w.heap.size, 1, none⟩ (.int .i64 fa)).setCell ⟨w.heap.size, 2, none⟩ (.int .i64 pa)).setCell ⟨w.heap.size, 3, none⟩ (.int .i64 fb)).setCell ⟨w.heap.size, 4, none⟩ (.int .i64 pb)).setCell ⟨w.heap.size, 5, none⟩ (.string ss)) := ((((((HS.out.bel.setCell (Nat.le_refl _) _).setCell (Nat.le_refl _) _).setCell (Nat.le_refl _) _).setCell (Nat.le_refl _) _).setCell (Nat.le_refl _) _).setCell (Nat.le_refl _) _)
          have ks5 := HKS (((((((W6.setCell ⟨w.heap.size, 0, none⟩ (.bool false)).setCell ⟨w.heap.size, 1, none⟩ (.int .i64 fa)).setCell ⟨w.heap.size, 2, none⟩ (.int .i64 pa)).setCell ⟨w.heap.size, 3, none⟩ (.int .i64 fb)).setCell ⟨w.heap.size, 4, none⟩ (.int .i64 pb)).setCell ⟨w.heap.size, 5, none⟩ (.string ss)).drew) (Kd.C_drew (HCS.out _ q9))
          clear q9 HKS
          have v5 : IntKind.i64.wrap ((b.length : Int) - t) = (b.length : Int) - t := IntWalk.i64_in _ (by omega)
          have v6 : (0 : Int) ≤ f := by omega
          have v7 : (f : Int) ≤ (b.length : Int) - t := by omega
          go_region_held3 (fun wx => wx.cell? ⟨g6, 0, none⟩ = some (.int .i64 fa) ∧ wx.cell? ⟨g6, 1, none⟩ = some (.int .i64 pa) ∧ wx.cell? ⟨g6, 2, none⟩ = some (.int .i64 fb) ∧ wx.cell? ⟨g6, 3, none⟩ = some (.int .i64 pb) ∧ (convert 22 9 (.slice SB seg.length sd)).run Try.prog wx = .ok (.string ss) wx) (go_keep) (fail)
          all_goals
            go_wp2
            first | rw [Exit.noGoto_ret] | skip
            refine bodyPost_ret (v := .tuple #[.agg #[.bool false, .int .i64 fa, .int .i64 pa, .int .i64 fb, .int .i64 pb, .string ss], .int .i64 0]) (results_ct (p := 4) (u := 5) (ty := 29) rfl _ _ w.heap.size 29 #[.bool false, .int .i64 fa, .int .i64 pa, .int .i64 fb, .int .i64 pb, .string ss] (0, 0) _ rfl ?_ Try.underlying29 rfl (by kernel_rfl)) rfl ⟨⟨f, t, HPO.out.1, by rw [HPO.out.2]⟩, ?_⟩
            · show IsBlk _ w.heap.size _
              (repeat (with_reducible first | refine IsBlk.alloc ?_ _ | refine IsBlk.drewN ?_ _ | refine IsBlk.drew1 ?_))
              with_reducible refine blk6 (z0 := .bool false) (z1 := .int .i64 0) (z2 := .int .i64 0) (z3 := .int .i64 0) (z4 := .int .i64 0) (z5 := .string ⟨#[]⟩) ?_ _ _ _ _ _ _
              repeat (with_reducible first | exact HS.out.now.2.2.1 | refine IsBlk.alloc ?_ _ | refine IsBlk.drewN ?_ _ | refine IsBlk.drew1 ?_)
            · have hS := HS.out.bel
              (repeat (first | (with_reducible exact hS) | (with_reducible refine below_alloc ?_ _) | (with_reducible refine pw_below_drewN ?_ _) | (with_reducible refine below_drew1 ?_) | ((with_reducible refine Below.setCell ?_ ?_ _); rotate_left; (focus (first | (simp; done) | (simp; omega))))))
          
end Go.Proofs.Ytjebkpcekkkbkaa.B


/-
  Chapter 4's statements: what they share.
-/
namespace Go.Proofs.Ytjebkpcekkkbkaa.B
open Go.RowKit Go.Shelf Go.Proofs Go.Proofs.YtjebkpcekkkbkaaW.PrintWords Go.Proofs.YtjebkpcekkkbkaaW.PrintLast Go.Proofs.YtjebkpcekkkbkaaW.PrintMore Go.Proofs.Ytjebkpcekkkbkaa.FBase
def csF : Nat → List Int → Option (List (Int × Int))
  | 0, y => if y = [] then some [] else none
  | n + 1, y => if y = [] then some [] else if (dec y).2.2 = 0 then (csF n (y.drop (dec y).2.1.toNat)).map (fun r => ((dec y).2.1, usz (dec y).1) :: r) else none
theorem csF_ok : ∀ (n : Nat) {y : List Int} {r : List (Int × Int)}, csF n y = some r → Cs y r
  | 0, y, r, h => by
    simp only [csF] at h
    split at h
    · rename_i e
      subst e
      cases h
      exact .nil
    · cases h
  | n + 1, y, r, h => by
    simp only [csF] at h
    split at h
    · rename_i e
      subst e
      cases h
      exact .nil
    · split at h
      · rename_i he
        obtain ⟨q, hq, rfl⟩ := Option.map_eq_some_iff.1 h
        exact .step y q he (csF_ok n hq)
      · cases h
def findB (L : List Ln) (at_ : Int) (r : Nat) : Bool := decide (r < L.length) && (List.range r).all (fun t => decide ((rdLn L (t : Nat)).f2 ≤ at_)) && (decide (¬ r + 1 < L.length) || decide (at_ < (rdLn L r).f2))
theorem findB_ok {L : List Ln} {at_ : Int} {r : Nat} (h : findB L at_ r = true) : FindAt L at_ r := by
  simp only [findB, Bool.and_eq_true, Bool.or_eq_true, decide_eq_true_eq, List.all_eq_true, List.mem_range] at h
  refine ⟨h.1.1, h.1.2, fun h2 => ?_⟩
  rcases h.2 with h3 | h3
  · exact absurd h2 h3
  · exact h3
theorem poff_of {l : List Int} {L : List Ln} {line char : Int} (hL : lns l 0 0 = L) : poff l line char = if (L.length : Int) ≤ line then (l.length : Int) else (rdLn L line).f0 + off (chars (seg l (rdLn L line))) char := by unfold poff; rw [hL]
end Go.Proofs.Ytjebkpcekkkbkaa.B

/-
  Chapter 15's statements: what they share.
-/
namespace Go.Proofs.Ytjebkpcekkkbkaa.B
open Go.RowKit Go.Shelf Go.Proofs Go.Proofs.YtjebkpcekkkbkaaW.PrintWords Go.Proofs.YtjebkpcekkkbkaaW.PrintLast Go.Proofs.YtjebkpcekkkbkaaW.PrintMore Go.Proofs.Ytjebkpcekkkbkaa.FBase
theorem One_at (A : Option Addr) (c : Nat) (l : List Int) (n : Nat) (hn1 : l.length = n) (wh : Bool) (x0 x1 x2 x3 : Int) (s : ByteArray) (w : World) (hr : Kd.C (Kd.int .u8) w A n l) (hc : n ≤ c) (hn : A = none → c = 0) (hB : Bytes l) (hs : n ≤ 1048576) (hs2 : s.size ≤ 140737488351232) (hx1 : x1 ≤ 9223372036854775807) (hx3 : x3 ≤ 9223372036854775807) :
    Calls Try.prog 23 #[.slice A n c, .agg #[.bool wh, .int .i64 x0, .int .i64 x1, .int .i64 x2, .int .i64 x3, .string s]] w fun e w' => ∃ v : Value, e = .returned (.tuple #[v, .int .i64 (ech l (bytesOf s) wh x0 x1 x2 x3).2.2.2]) ∧ Kd.R (Kd.int .u8) 5 w' w.heap.size (fun _ => True) v (ech l (bytesOf s) wh x0 x1 x2 x3).2.2.1 ∧ Below w.heap.size w w' := by
  subst hn1
  exact One_is A c l wh x0 x1 x2 x3 s w hr hc hn hB hs hs2 hx1 hx3
set_option maxRecDepth 100000 in
set_option maxHeartbeats 2000000 in
theorem makes_ok (sb s want : ByteArray) (wh : Bool) (x0 x1 x2 x3 : Int) (w : World) (hs : sb.size ≤ 1048576) (hs2 : s.size ≤ 140737488351232) (hx1 : x1 ≤ 9223372036854775807) (hx3 : x3 ≤ 9223372036854775807) (her : (ech (bytesOf sb) (bytesOf s) wh x0 x1 x2 x3).2.2.2 = 0) (hwa : strOfNums (ech (bytesOf sb) (bytesOf s) wh x0 x1 x2 x3).2.2.1 = want) :
    Calls Try.prog 32 #[.string sb, .agg #[.bool wh, .int .i64 x0, .int .i64 x1, .int .i64 x2, .int .i64 x3, .string s], .string want] w fun e w' => e = .returned (.bool true) ∧ Below w.heap.size w w' := by
  have HS := Aside0.mk ((Sta.start w).step (below_alloc (Below.refl _ w) (.cells #[.bool wh, .int .i64 x0, .int .i64 x1, .int .i64 x2, .int .i64 x3, .string s] 29)))
  have c0 : (w.alloc (.cells #[.bool wh, .int .i64 x0, .int .i64 x1, .int .i64 x2, .int .i64 x3, .string s] 29)).cell? ⟨w.heap.size, 0, none⟩ = some (.bool wh) := (blk_cell (blk_new w _) 0).trans rfl
  have c1 : (w.alloc (.cells #[.bool wh, .int .i64 x0, .int .i64 x1, .int .i64 x2, .int .i64 x3, .string s] 29)).cell? ⟨w.heap.size, 1, none⟩ = some (.int .i64 x0) := (blk_cell (blk_new w _) 1).trans rfl
  have c2 : (w.alloc (.cells #[.bool wh, .int .i64 x0, .int .i64 x1, .int .i64 x2, .int .i64 x3, .string s] 29)).cell? ⟨w.heap.size, 2, none⟩ = some (.int .i64 x1) := (blk_cell (blk_new w _) 2).trans rfl
  have c3 : (w.alloc (.cells #[.bool wh, .int .i64 x0, .int .i64 x1, .int .i64 x2, .int .i64 x3, .string s] 29)).cell? ⟨w.heap.size, 3, none⟩ = some (.int .i64 x2) := (blk_cell (blk_new w _) 3).trans rfl
  have c4 : (w.alloc (.cells #[.bool wh, .int .i64 x0, .int .i64 x1, .int .i64 x2, .int .i64 x3, .string s] 29)).cell? ⟨w.heap.size, 4, none⟩ = some (.int .i64 x3) := (blk_cell (blk_new w _) 4).trans rfl
  have c5 : (w.alloc (.cells #[.bool wh, .int .i64 x0, .int .i64 x1, .int .i64 x2, .int .i64 x3, .string s] 29)).cell? ⟨w.heap.size, 5, none⟩ = some (.string s) := (blk_cell (blk_new w _) 5).trans rfl
  have d0 : (Lib.bytesWorld (w.alloc (.cells #[.bool wh, .int .i64 x0, .int .i64 x1, .int .i64 x2, .int .i64 x3, .string s] 29)) 5 sb).cell? ⟨w.heap.size, 0, none⟩ = some (.bool wh) := cell_below c0 (bytes_step (Below.refl _ _))
  have d1 : (Lib.bytesWorld (w.alloc (.cells #[.bool wh, .int .i64 x0, .int .i64 x1, .int .i64 x2, .int .i64 x3, .string s] 29)) 5 sb).cell? ⟨w.heap.size, 1, none⟩ = some (.int .i64 x0) := cell_below c1 (bytes_step (Below.refl _ _))
  have d2 : (Lib.bytesWorld (w.alloc (.cells #[.bool wh, .int .i64 x0, .int .i64 x1, .int .i64 x2, .int .i64 x3, .string s] 29)) 5 sb).cell? ⟨w.heap.size, 2, none⟩ = some (.int .i64 x1) := cell_below c2 (bytes_step (Below.refl _ _))
  have d3 : (Lib.bytesWorld (w.alloc (.cells #[.bool wh, .int .i64 x0, .int .i64 x1, .int .i64 x2, .int .i64 x3, .string s] 29)) 5 sb).cell? ⟨w.heap.size, 3, none⟩ = some (.int .i64 x2) := cell_below c3 (bytes_step (Below.refl _ _))
  have d4 : (Lib.bytesWorld (w.alloc (.cells #[.bool wh, .int .i64 x0, .int .i64 x1, .int .i64 x2, .int .i64 x3, .string s] 29)) 5 sb).cell? ⟨w.heap.size, 4, none⟩ = some (.int .i64 x3) := cell_below c4 (bytes_step (Below.refl _ _))
  have d5 : (Lib.bytesWorld (w.alloc (.cells #[.bool wh, .int .i64 x0, .int .i64 x1, .int .i64 x2, .int .i64 x3, .string s] 29)) 5 sb).cell? ⟨w.heap.size, 5, none⟩ = some (.string s) := cell_below c5 (bytes_step (Below.refl _ _))
  have kb := fun W : World => print_bytes (P := Try.prog) 9 22 5 Try.underlying9 Try.underlying22 Try.underlying5 sb W
  obtain ⟨out, hout⟩ : ∃ o, (ech (bytesOf sb) (bytesOf s) wh x0 x1 x2 x3).2.2.1 = o := ⟨_, rfl⟩
  rw [hout] at hwa
  have HB1 := Aside0.mk (bytesOf_B sb)
  have HER := Aside0.mk her
  have HEO := Aside0.mk hout
  have HWA := Aside0.mk hwa
  clear her hout hwa
  go_enter Try.func32, Try.ntmps32
  go_wp2_with (go_at_call 23; refine (One_at _ _ (bytesOf sb) sb.size (bytesOf_length sb) wh x0 x1 x2 x3 s _ (bytes_at _ _ sb _ (by simp) (by omega)) (grownCap_ge _ _ _ _) (fun e => nomatch e) HB1.out hs hs2 hx1 hx3).mono ?_; rintro e w1 ⟨v, rfl, hR, hb⟩; rw [HER.out]; rw [HEO.out] at hR; obtain ⟨A2, cc2, rfl, hl2, hn2, hC2⟩ := Ap.read (.inr hR); have ks := Kd.C_string (P := Try.prog) (w := w1) (src := 22) (dst := 9) (e := 5) (c := cc2) Try.underlying22 Try.underlying5 Try.underlying9 hC2; rw [HWA.out] at ks; clear hR hl2 hn2 hC2; have m_ := Aside0.mk (HS.out.call (by repeat (first | exact Below.refl _ _ | apply below_alloc | apply pw_below_drewN | apply below_drew1 | apply bytes_step)) hb); clear HS hb ; have HS := m_; clear m_)
  go_ret
  exact ⟨rfl, (HS.out.step (by repeat (first | exact Below.refl _ _ | apply below_alloc | apply pw_below_drewN | apply below_drew1 | apply bytes_step))).bel⟩
theorem abc_lns : lns [97, 10, 98, 10, 99] 0 0 = [⟨0, 1, 2⟩, ⟨2, 3, 4⟩, ⟨4, 5, 5⟩] := by simp [lns]
theorem abc_B : Bytes [97, 10, 98, 10, 99] := by intro x hx; simp at hx; omega
theorem abc_V : V [97, 10, 98, 10, 99] := (csF_ok 40 (r := [(1, 1), (1, 1), (1, 1), (1, 1), (1, 1)]) (by decide +kernel)).v
theorem abc_chk : (chk [97, 10, 98, 10, 99]).2 = 0 := (chk_V abc_B).2 abc_V
theorem abc_cs0 : Cs (seg [97, 10, 98, 10, 99] ⟨0, 1, 2⟩) [(1, 1)] := csF_ok 40 (by decide +kernel)
theorem abc_cs1 : Cs (seg [97, 10, 98, 10, 99] ⟨2, 3, 4⟩) [(1, 1)] := csF_ok 40 (by decide +kernel)
theorem abc_cs2 : Cs (seg [97, 10, 98, 10, 99] ⟨4, 5, 5⟩) [(1, 1)] := csF_ok 40 (by decide +kernel)
theorem axyc_lns : lns [97, 10, 120, 121, 10, 99] 0 0 = [⟨0, 1, 2⟩, ⟨2, 4, 5⟩, ⟨5, 6, 6⟩] := by simp [lns]
theorem axyc_cs1 : Cs (seg [97, 10, 120, 121, 10, 99] ⟨2, 4, 5⟩) [(1, 1), (1, 1)] := csF_ok 40 (by decide +kernel)
theorem abc_at_1_0 : poff [97, 10, 98, 10, 99] 1 0 = 2 := by rw [poff_of abc_lns]; first | (rw [if_pos (by decide)]; rfl) | (rw [if_neg (by decide), show rdLn [⟨0, 1, 2⟩, ⟨2, 3, 4⟩, ⟨4, 5, 5⟩] 1 = ⟨2, 3, 4⟩ from rfl, chars_is abc_cs1]; rfl)
theorem abc_at_1_1 : poff [97, 10, 98, 10, 99] 1 1 = 3 := by rw [poff_of abc_lns]; first | (rw [if_pos (by decide)]; rfl) | (rw [if_neg (by decide), show rdLn [⟨0, 1, 2⟩, ⟨2, 3, 4⟩, ⟨4, 5, 5⟩] 1 = ⟨2, 3, 4⟩ from rfl, chars_is abc_cs1]; rfl)
theorem abc_at_0_5 : poff [97, 10, 98, 10, 99] 0 5 = 1 := by rw [poff_of abc_lns]; first | (rw [if_pos (by decide)]; rfl) | (rw [if_neg (by decide), show rdLn [⟨0, 1, 2⟩, ⟨2, 3, 4⟩, ⟨4, 5, 5⟩] 0 = ⟨0, 1, 2⟩ from rfl, chars_is abc_cs0]; rfl)
theorem abc_at_2_0 : poff [97, 10, 98, 10, 99] 2 0 = 4 := by rw [poff_of abc_lns]; first | (rw [if_pos (by decide)]; rfl) | (rw [if_neg (by decide), show rdLn [⟨0, 1, 2⟩, ⟨2, 3, 4⟩, ⟨4, 5, 5⟩] 2 = ⟨4, 5, 5⟩ from rfl, chars_is abc_cs2]; rfl)
theorem abc_of_2 : fnd [97, 10, 98, 10, 99] 2 = (1 : Nat) ∧ pch [97, 10, 98, 10, 99] 2 = 0 := by
  have h : fnd [97, 10, 98, 10, 99] 2 = 1 := fnd_eq (by rw [abc_lns]; exact findB_ok (by decide))
  refine ⟨h, ?_⟩
  unfold pch
  rw [h, abc_lns, show rdLn [⟨0, 1, 2⟩, ⟨2, 3, 4⟩, ⟨4, 5, 5⟩] ((1 : Nat) : Int) = ⟨2, 3, 4⟩ from rfl, chars_is abc_cs1]
  rfl
theorem abc_of_3 : fnd [97, 10, 98, 10, 99] 3 = (1 : Nat) ∧ pch [97, 10, 98, 10, 99] 3 = 1 := by
  have h : fnd [97, 10, 98, 10, 99] 3 = 1 := fnd_eq (by rw [abc_lns]; exact findB_ok (by decide))
  refine ⟨h, ?_⟩
  unfold pch
  rw [h, abc_lns, show rdLn [⟨0, 1, 2⟩, ⟨2, 3, 4⟩, ⟨4, 5, 5⟩] ((1 : Nat) : Int) = ⟨2, 3, 4⟩ from rfl, chars_is abc_cs1]
  rfl
theorem abc_is_2 : isPb [97, 10, 98, 10, 99] 2 = true := by
  unfold isPb
  rw [abc_of_2.1, abc_of_2.2]
  exact beq_iff_eq.mpr abc_at_1_0
theorem abc_is_3 : isPb [97, 10, 98, 10, 99] 3 = true := by
  unfold isPb
  rw [abc_of_3.1, abc_of_3.2]
  exact beq_iff_eq.mpr abc_at_1_1
theorem axyc_at_1_0 : poff [97, 10, 120, 121, 10, 99] 1 0 = 2 := by rw [poff_of axyc_lns]; first | (rw [if_pos (by decide)]; rfl) | (rw [if_neg (by decide), show rdLn [⟨0, 1, 2⟩, ⟨2, 4, 5⟩, ⟨5, 6, 6⟩] 1 = ⟨2, 4, 5⟩ from rfl, chars_is axyc_cs1]; rfl)
theorem axyc_at_1_2 : poff [97, 10, 120, 121, 10, 99] 1 2 = 4 := by rw [poff_of axyc_lns]; first | (rw [if_pos (by decide)]; rfl) | (rw [if_neg (by decide), show rdLn [⟨0, 1, 2⟩, ⟨2, 4, 5⟩, ⟨5, 6, 6⟩] 1 = ⟨2, 4, 5⟩ from rfl, chars_is axyc_cs1]; rfl)
theorem axyc_of_2 : fnd [97, 10, 120, 121, 10, 99] 2 = (1 : Nat) ∧ pch [97, 10, 120, 121, 10, 99] 2 = 0 := by
  have h : fnd [97, 10, 120, 121, 10, 99] 2 = 1 := fnd_eq (by rw [axyc_lns]; exact findB_ok (by decide))
  refine ⟨h, ?_⟩
  unfold pch
  rw [h, axyc_lns, show rdLn [⟨0, 1, 2⟩, ⟨2, 4, 5⟩, ⟨5, 6, 6⟩] ((1 : Nat) : Int) = ⟨2, 4, 5⟩ from rfl, chars_is axyc_cs1]
  rfl
theorem axyc_of_4 : fnd [97, 10, 120, 121, 10, 99] 4 = (1 : Nat) ∧ pch [97, 10, 120, 121, 10, 99] 4 = 2 := by
  have h : fnd [97, 10, 120, 121, 10, 99] 4 = 1 := fnd_eq (by rw [axyc_lns]; exact findB_ok (by decide))
  refine ⟨h, ?_⟩
  unfold pch
  rw [h, axyc_lns, show rdLn [⟨0, 1, 2⟩, ⟨2, 4, 5⟩, ⟨5, 6, 6⟩] ((1 : Nat) : Int) = ⟨2, 4, 5⟩ from rfl, chars_is axyc_cs1]
  rfl
theorem axyc_is_2 : isPb [97, 10, 120, 121, 10, 99] 2 = true := by
  unfold isPb
  rw [axyc_of_2.1, axyc_of_2.2]
  exact beq_iff_eq.mpr axyc_at_1_0
theorem axyc_is_4 : isPb [97, 10, 120, 121, 10, 99] 4 = true := by
  unfold isPb
  rw [axyc_of_4.1, axyc_of_4.2]
  exact beq_iff_eq.mpr axyc_at_1_2
end Go.Proofs.Ytjebkpcekkkbkaa.B

namespace Go.Proofs.Ytjebkpcekkkbkaa.B
open Go.RowKit Go.Shelf Go.Proofs Go.Proofs.YtjebkpcekkkbkaaW.PrintWords Go.Proofs.YtjebkpcekkkbkaaW.PrintLast Go.Proofs.YtjebkpcekkkbkaaW.PrintMore Go.Proofs.Ytjebkpcekkkbkaa.FBase
theorem lit_mark (W : World) (g : Nat) (l : List Int) (cs : Array Value) (t : TypeId) (fr : Nat × Nat) (hg : W.heap.size = g) (hcs : cs.toList = l.map (Value.int .u8)) (hn : l.length ≤ 9223372036854775807) : Kd.C (Kd.int .u8) (W.alloc (.cells cs t fr)) (some ⟨g, 0, none⟩) l.length l := by
  subst hg
  refine Kd.C_of_reads (d := 0) ⟨rfl, hn, fun _ => ⟨_, rfl, fun j hj => ?_⟩⟩
  rw [show (⟨W.heap.size, 0, none⟩ : Addr).add j = ⟨W.heap.size, j, none⟩ by simp [Addr.add]; omega, cell_of_row _ _ j cs t fr (blk_new W _), ← Array.getElem?_toList, hcs]
  simp [List.getD, hj]
theorem conv_lit (w : World) (C : Array Value) (n c : Nat) : (convert 22 22 (.slice (some ⟨w.heap.size, 0, none⟩) n c)).run Try.prog (w.alloc (.cells C 5)) = .ok (.slice (some ⟨w.heap.size, 0, none⟩) n c) (w.alloc (.cells C 5 (C.size, C.size + 1))) :=
  Lib.run_convert_bytes_const (P := Try.prog) w 22 5 C n c Try.underlying22 Try.underlying5
theorem conv_lit2 (w : World) (o : Obj) (C : Array Value) (n c : Nat) : (convert 22 22 (.slice (some ⟨w.heap.size + 1, 0, none⟩) n c)).run Try.prog ((w.alloc o).alloc (.cells C 5)) = .ok (.slice (some ⟨w.heap.size + 1, 0, none⟩) n c) ((w.alloc o).alloc (.cells C 5 (C.size, C.size + 1))) := by
  have h := conv_lit (w.alloc o) C n c
  rw [World.size_alloc] at h
  exact h
theorem conv_lit3 (w : World) (o o' : Obj) (C : Array Value) (n c : Nat) : (convert 22 22 (.slice (some ⟨w.heap.size + 1 + 1, 0, none⟩) n c)).run Try.prog (((w.alloc o).alloc o').alloc (.cells C 5)) = .ok (.slice (some ⟨w.heap.size + 1 + 1, 0, none⟩) n c) (((w.alloc o).alloc o').alloc (.cells C 5 (C.size, C.size + 1))) := by
  have h := conv_lit2 (w.alloc o) o' C n c
  rw [World.size_alloc] at h
  exact h
theorem works_e1 : ech [97, 10, 98, 10, 99] (bytesOf ⟨#[120, 121]⟩) false 1 0 1 1 = (2, 3, [97, 10, 120, 121, 10, 99], 0) := by
  have hb : bytesOf ⟨#[120, 121]⟩ = [120, 121] := rfl
  have hx : (chk [120, 121]).2 = 0 := by decide +kernel
  rw [hb, ech_ok abc_chk hx (esp_at (by decide) (by decide) (by decide) (by decide) abc_at_1_0 abc_at_1_1 (by decide)) (by decide)]
  rfl
theorem works_e2 : ech [97, 10, 98, 10, 99] (bytesOf ⟨#[]⟩) false 0 5 2 0 = (1, 4, [97, 99], 0) := by
  have hb : bytesOf ⟨#[]⟩ = [] := rfl
  rw [hb, ech_ok abc_chk rfl (esp_at (by decide) (by decide) (by decide) (by decide) abc_at_0_5 abc_at_2_0 (by decide)) (by decide)]
  rfl
theorem works_m1 (w : World) : Calls Try.prog 32 #[.string ⟨#[97, 10, 98, 10, 99]⟩, .agg #[.bool false, .int .i64 1, .int .i64 0, .int .i64 1, .int .i64 1, .string ⟨#[120, 121]⟩], .string ⟨#[97, 10, 120, 121, 10, 99]⟩] w fun e w' => e = .returned (.bool true) ∧ Below w.heap.size w w' :=
  makes_ok ⟨#[97, 10, 98, 10, 99]⟩ ⟨#[120, 121]⟩ ⟨#[97, 10, 120, 121, 10, 99]⟩ false 1 0 1 1 w (by decide) (by decide) (by decide) (by decide)
    (by rw [show bytesOf ⟨#[97, 10, 98, 10, 99]⟩ = [97, 10, 98, 10, 99] from rfl, works_e1]) (by rw [show bytesOf ⟨#[97, 10, 98, 10, 99]⟩ = [97, 10, 98, 10, 99] from rfl, works_e1]; rfl)
theorem works_m2 (w : World) : Calls Try.prog 32 #[.string ⟨#[97, 10, 98, 10, 99]⟩, .agg #[.bool false, .int .i64 0, .int .i64 5, .int .i64 2, .int .i64 0, .string ⟨#[]⟩], .string ⟨#[97, 99]⟩] w fun e w' => e = .returned (.bool true) ∧ Below w.heap.size w w' :=
  makes_ok ⟨#[97, 10, 98, 10, 99]⟩ ⟨#[]⟩ ⟨#[97, 99]⟩ false 0 5 2 0 w (by decide) (by decide) (by decide) (by decide)
    (by rw [show bytesOf ⟨#[97, 10, 98, 10, 99]⟩ = [97, 10, 98, 10, 99] from rfl, works_e2]) (by rw [show bytesOf ⟨#[97, 10, 98, 10, 99]⟩ = [97, 10, 98, 10, 99] from rfl, works_e2]; rfl)
theorem works_B3 : Bytes [97, 10, 66, 10, 99] := by intro x hx; simp at hx; omega
theorem works_back (g : Nat) (w : World) (hr : Kd.C (Kd.int .u8) w (some ⟨g, 0, none⟩) 5 [97, 10, 98, 10, 99]) :
    Calls Try.prog 24 #[.slice (some ⟨g, 0, none⟩) 5 5, .agg #[.bool false, .int .i64 1, .int .i64 0, .int .i64 1, .int .i64 1, .string ⟨#[120, 121]⟩]] w fun e w' => e = .returned (.tuple #[.agg #[.bool false, .int .i64 1, .int .i64 0, .int .i64 1, .int .i64 2, .string ⟨#[98]⟩], .int .i64 0]) ∧ Below w.heap.size w w' := by
  have h := Back_ok (some ⟨g, 0, none⟩) 5 [97, 10, 98, 10, 99] false 1 0 1 1 ⟨#[120, 121]⟩ w hr (by decide) (fun e => nomatch e) abc_B (by decide) (by decide) (by decide) (by decide) rfl (by rw [works_e1]) (by rw [works_e1]; exact axyc_is_2) (by rw [works_e1]; exact axyc_is_4)
  rw [works_e1] at h
  have e1 : ((2 : Int) + (({ data := #[120, 121] } : ByteArray).size : Int)) = 4 := rfl
  simp only [e1] at h
  rw [axyc_of_2.1, axyc_of_2.2, axyc_of_4.1, axyc_of_4.2] at h
  exact h
theorem works_dif : IsDiff [97, 10, 98, 10, 99] [97, 10, 66, 10, 99] 2 2 := by
  refine ⟨(isPb_iff _ _).1 abc_is_2, by decide, by decide, rfl, fun n h1 h2 h3 h4 => ?_, (isPb_iff _ _).1 abc_is_3, rfl, fun n h1 h2 h3 h4 => ?_⟩
  · have : n = 3 ∨ n = 4 ∨ n = 5 := by simp at h2; omega
    rcases this with rfl | rfl | rfl <;> exact absurd h4 (by decide)
  · have : n = 3 := by simp at h2; omega
    subst this
    exact absurd h4 (by decide)
theorem works_diff (g g' : Nat) (w : World) (hr : Kd.C (Kd.int .u8) w (some ⟨g, 0, none⟩) 5 [97, 10, 98, 10, 99]) (hr2 : Kd.C (Kd.int .u8) w (some ⟨g', 0, none⟩) 5 [97, 10, 66, 10, 99]) :
    Calls Try.prog 18 #[.slice (some ⟨g, 0, none⟩) 5 5, .slice (some ⟨g', 0, none⟩) 5 5] w fun e w' => e = .returned (.tuple #[.agg #[.bool false, .int .i64 1, .int .i64 0, .int .i64 1, .int .i64 1, .string ⟨#[66]⟩], .int .i64 0]) ∧ Below w.heap.size w w' := by
  have h3 : (chk [97, 10, 66, 10, 99]).2 = 0 := by decide +kernel
  refine (Diff_ok (some ⟨g, 0, none⟩) (some ⟨g', 0, none⟩) 5 5 [97, 10, 98, 10, 99] [97, 10, 66, 10, 99] w hr (by decide) hr2 (by decide) (fun e => nomatch e) abc_B works_B3 (by decide) (by decide) abc_chk h3 (by decide)).mono ?_
  rintro e w' ⟨⟨f, t, hd, rfl⟩, hb⟩
  obtain ⟨rfl, rfl⟩ := hd.uniq works_dif
  refine ⟨?_, hb⟩
  have e2 : ((([97, 10, 98, 10, 99] : List Int).length - 2 : Nat) : Int) = 3 := rfl
  rw [e2]
  have a1 := abc_of_2.1
  have a2 := abc_of_2.2
  have a3 := abc_of_3.1
  have a4 := abc_of_3.2
  rw [show ((2 : Nat) : Int) = 2 from rfl, a1, a2, a3, a4]
  rfl
set_option maxRecDepth 100000 in
set_option maxHeartbeats 4000000 in
theorem works15_ok (w : World) : Calls Try.prog 21 #[] w fun e w' => e = .returned (.bool true) ∧ Below w.heap.size w w' := by
  have HS := Aside0.mk (Sta.start w)
  have t1 := True.intro
  go_enter Try.func21, Try.ntmps21
  have kc := conv_lit
  have kc2 := conv_lit2
  have kc3 := conv_lit3
  go_upto_region 3 with (first | (have _t := t1; go_at_call 30; refine (colophonlaw15_at.calls 1 0 1 1 ⟨#[120, 121]⟩ _ _ _ _ _ _ _ rfl).mono ?_; rintro e w1 ⟨rfl, hb⟩; have hL := Kd.C_below (lit_mark w _ [97, 10, 98, 10, 99] #[.int .u8 97, .int .u8 10, .int .u8 98, .int .u8 10, .int .u8 99] 5 (5, 6) rfl rfl (by decide)) hb; have m_ := Aside0.mk ((HS.out.call (by repeat (first | exact Below.refl _ _ | apply below_alloc | apply pw_below_drewN | apply below_drew1 | apply bytes_step)) hb).add hL (keeps_C _ _ _ _)); clear HS hb hL; have HS := m_; clear m_; clear t1 _t) | (go_at_call 24; refine (works_back _ _ (HS.out.step (by repeat (first | exact Below.refl _ _ | apply below_alloc | apply pw_below_drewN | apply below_drew1 | apply bytes_step))).now.1).mono ?_; rintro e w2 ⟨rfl, hb⟩; have m_ := Aside0.mk (HS.out.call (by repeat (first | exact Below.refl _ _ | apply below_alloc | apply pw_below_drewN | apply below_drew1 | apply bytes_step)) hb); clear HS hb ; have HS := m_; clear m_) | (go_at_call 18; refine (works_diff _ _ _ (Kd.C_below (lit_mark (w2.alloc (.cells #[.bool false, .int .i64 1, .int .i64 0, .int .i64 1, .int .i64 2, .string ⟨#[98]⟩] 29)) _ [97, 10, 98, 10, 99] #[.int .u8 97, .int .u8 10, .int .u8 98, .int .u8 10, .int .u8 99] 5 (5, 6) (by simp) rfl (by decide)) (below_alloc (Below.refl _ _) _)) (lit_mark _ _ [97, 10, 66, 10, 99] #[.int .u8 97, .int .u8 10, .int .u8 66, .int .u8 10, .int .u8 99] 5 (5, 6) (by simp) rfl (by decide))).mono ?_; rintro e w3 ⟨rfl, hb⟩; have hbx := IsBlk.below (IsBlk.below (IsBlk.below (blk_new w2 (.cells #[.bool false, .int .i64 1, .int .i64 0, .int .i64 1, .int .i64 2, .string ⟨#[98]⟩] 29)) (below_alloc (Below.refl _ _) _)) (below_alloc (Below.refl _ _) _)) hb; have m_ := Aside0.mk ((HS.out.call (by repeat (first | exact Below.refl _ _ | apply below_alloc | apply pw_below_drewN | apply below_drew1 | apply bytes_step)) hb).add hbx (keeps_blk _ _)); clear HS hb hbx; have HS := m_; clear m_))
  have m_ := Aside0.mk ((HS.out.step (below_alloc (Below.refl _ w3) (.cells #[.bool false, .int .i64 1, .int .i64 0, .int .i64 1, .int .i64 1, .string ⟨#[66]⟩] 29))).add (blk_new w3 (.cells #[.bool false, .int .i64 1, .int .i64 0, .int .i64 1, .int .i64 1, .string ⟨#[66]⟩] 29)) (keeps_blk _ _))
  clear HS kc kc2 kc3
  have HS := m_
  clear m_
  generalize w3.alloc (.cells #[.bool false, .int .i64 1, .int .i64 0, .int .i64 1, .int .i64 1, .string ⟨#[66]⟩] 29) = W5 at HS ⊢
  generalize w3.heap.size = g3 at HS ⊢
  generalize w2.heap.size = g1 at HS ⊢
  have p0 : W5.cell? ⟨g1, 0, none⟩ = some (.bool false) := HS.out.now.2.1.cell 0
  have q0 : W5.cell? ⟨g3, 0, none⟩ = some (.bool false) := HS.out.now.1.cell 0
  have p1 : W5.cell? ⟨g1, 1, none⟩ = some (.int .i64 1) := HS.out.now.2.1.cell 1
  have q1 : W5.cell? ⟨g3, 1, none⟩ = some (.int .i64 1) := HS.out.now.1.cell 1
  have p2 : W5.cell? ⟨g1, 2, none⟩ = some (.int .i64 0) := HS.out.now.2.1.cell 2
  have q2 : W5.cell? ⟨g3, 2, none⟩ = some (.int .i64 0) := HS.out.now.1.cell 2
  have p3 : W5.cell? ⟨g1, 3, none⟩ = some (.int .i64 1) := HS.out.now.2.1.cell 3
  have q3 : W5.cell? ⟨g3, 3, none⟩ = some (.int .i64 1) := HS.out.now.1.cell 3
  have p4 : W5.cell? ⟨g1, 4, none⟩ = some (.int .i64 2) := HS.out.now.2.1.cell 4
  have q4 : W5.cell? ⟨g3, 4, none⟩ = some (.int .i64 1) := HS.out.now.1.cell 4
  have p5 : W5.cell? ⟨g1, 5, none⟩ = some (.string ⟨#[98]⟩) := HS.out.now.2.1.cell 5
  have q5 : W5.cell? ⟨g3, 5, none⟩ = some (.string ⟨#[66]⟩) := HS.out.now.1.cell 5
  have t2 := True.intro
  have t3 := True.intro
  have t4 := True.intro
  have t5 := True.intro
  have t6 := True.intro
  have t7 := True.intro
  have q1_ : ∀ W : World, (binOp .eql 29 (.agg #[.bool false, .int .i64 1, .int .i64 0, .int .i64 1, .int .i64 2, .string ⟨#[98]⟩]) (.agg #[.bool false, .int .i64 1, .int .i64 0, .int .i64 1, .int .i64 2, .string ⟨#[98]⟩])).run Try.prog W = .ok (.bool true) W := fun _ => by kernel_rfl
  have q3_ : ∀ W : World, (binOp .eql 29 (.agg #[.bool false, .int .i64 1, .int .i64 0, .int .i64 1, .int .i64 1, .string ⟨#[66]⟩]) (.agg #[.bool false, .int .i64 1, .int .i64 0, .int .i64 1, .int .i64 1, .string ⟨#[66]⟩])).run Try.prog W = .ok (.bool true) W := fun _ => by kernel_rfl
  go_region_held3 (fun wx => wx.cell? ⟨g1, 0, none⟩ = some (.bool false) ∧ wx.cell? ⟨g1, 1, none⟩ = some (.int .i64 1) ∧ wx.cell? ⟨g1, 2, none⟩ = some (.int .i64 0) ∧ wx.cell? ⟨g1, 3, none⟩ = some (.int .i64 1) ∧ wx.cell? ⟨g1, 4, none⟩ = some (.int .i64 2) ∧ wx.cell? ⟨g1, 5, none⟩ = some (.string ⟨#[98]⟩) ∧ wx.cell? ⟨g3, 0, none⟩ = some (.bool false) ∧ wx.cell? ⟨g3, 1, none⟩ = some (.int .i64 1) ∧ wx.cell? ⟨g3, 2, none⟩ = some (.int .i64 0) ∧ wx.cell? ⟨g3, 3, none⟩ = some (.int .i64 1) ∧ wx.cell? ⟨g3, 4, none⟩ = some (.int .i64 1) ∧ wx.cell? ⟨g3, 5, none⟩ = some (.string ⟨#[66]⟩)) (go_keep) (first | (have _t := t2; go_at_call 30; refine (colophonlaw15_at.calls 1 0 1 1 ⟨#[120, 121]⟩ _ _ _ _ _ _ _ rfl).mono ?_; rintro e w6 ⟨rfl, hb⟩; have m_ := Aside0.mk (HS.out.call (by repeat (first | exact Below.refl _ _ | apply below_alloc | apply pw_below_drewN | apply below_drew1 | apply bytes_step)) hb); clear HS hb ; have HS := m_; clear m_; have p0 : w6.cell? ⟨g1, 0, none⟩ = some (.bool false) := HS.out.now.2.1.cell 0; have q0 : w6.cell? ⟨g3, 0, none⟩ = some (.bool false) := HS.out.now.1.cell 0; have p1 : w6.cell? ⟨g1, 1, none⟩ = some (.int .i64 1) := HS.out.now.2.1.cell 1; have q1 : w6.cell? ⟨g3, 1, none⟩ = some (.int .i64 1) := HS.out.now.1.cell 1; have p2 : w6.cell? ⟨g1, 2, none⟩ = some (.int .i64 0) := HS.out.now.2.1.cell 2; have q2 : w6.cell? ⟨g3, 2, none⟩ = some (.int .i64 0) := HS.out.now.1.cell 2; have p3 : w6.cell? ⟨g1, 3, none⟩ = some (.int .i64 1) := HS.out.now.2.1.cell 3; have q3 : w6.cell? ⟨g3, 3, none⟩ = some (.int .i64 1) := HS.out.now.1.cell 3; have p4 : w6.cell? ⟨g1, 4, none⟩ = some (.int .i64 2) := HS.out.now.2.1.cell 4; have q4 : w6.cell? ⟨g3, 4, none⟩ = some (.int .i64 1) := HS.out.now.1.cell 4; have p5 : w6.cell? ⟨g1, 5, none⟩ = some (.string ⟨#[98]⟩) := HS.out.now.2.1.cell 5; have q5 : w6.cell? ⟨g3, 5, none⟩ = some (.string ⟨#[66]⟩) := HS.out.now.1.cell 5; clear t2 _t) | (have _t := t3; go_at_call 32; refine (works_m1 _).mono ?_; rintro e w6 ⟨rfl, hb⟩; have m_ := Aside0.mk (HS.out.call (by repeat (first | exact Below.refl _ _ | apply below_alloc | apply pw_below_drewN | apply below_drew1 | apply bytes_step)) hb); clear HS hb ; have HS := m_; clear m_; have p0 : w6.cell? ⟨g1, 0, none⟩ = some (.bool false) := HS.out.now.2.1.cell 0; have q0 : w6.cell? ⟨g3, 0, none⟩ = some (.bool false) := HS.out.now.1.cell 0; have p1 : w6.cell? ⟨g1, 1, none⟩ = some (.int .i64 1) := HS.out.now.2.1.cell 1; have q1 : w6.cell? ⟨g3, 1, none⟩ = some (.int .i64 1) := HS.out.now.1.cell 1; have p2 : w6.cell? ⟨g1, 2, none⟩ = some (.int .i64 0) := HS.out.now.2.1.cell 2; have q2 : w6.cell? ⟨g3, 2, none⟩ = some (.int .i64 0) := HS.out.now.1.cell 2; have p3 : w6.cell? ⟨g1, 3, none⟩ = some (.int .i64 1) := HS.out.now.2.1.cell 3; have q3 : w6.cell? ⟨g3, 3, none⟩ = some (.int .i64 1) := HS.out.now.1.cell 3; have p4 : w6.cell? ⟨g1, 4, none⟩ = some (.int .i64 2) := HS.out.now.2.1.cell 4; have q4 : w6.cell? ⟨g3, 4, none⟩ = some (.int .i64 1) := HS.out.now.1.cell 4; have p5 : w6.cell? ⟨g1, 5, none⟩ = some (.string ⟨#[98]⟩) := HS.out.now.2.1.cell 5; have q5 : w6.cell? ⟨g3, 5, none⟩ = some (.string ⟨#[66]⟩) := HS.out.now.1.cell 5; clear t3 _t) | (have _t := t4; go_at_call 30; refine (colophonlaw15_at.calls 0 5 2 0 ⟨#[]⟩ _ _ _ _ _ _ _ rfl).mono ?_; rintro e w6 ⟨rfl, hb⟩; have m_ := Aside0.mk (HS.out.call (by repeat (first | exact Below.refl _ _ | apply below_alloc | apply pw_below_drewN | apply below_drew1 | apply bytes_step)) hb); clear HS hb ; have HS := m_; clear m_; have p0 : w6.cell? ⟨g1, 0, none⟩ = some (.bool false) := HS.out.now.2.1.cell 0; have q0 : w6.cell? ⟨g3, 0, none⟩ = some (.bool false) := HS.out.now.1.cell 0; have p1 : w6.cell? ⟨g1, 1, none⟩ = some (.int .i64 1) := HS.out.now.2.1.cell 1; have q1 : w6.cell? ⟨g3, 1, none⟩ = some (.int .i64 1) := HS.out.now.1.cell 1; have p2 : w6.cell? ⟨g1, 2, none⟩ = some (.int .i64 0) := HS.out.now.2.1.cell 2; have q2 : w6.cell? ⟨g3, 2, none⟩ = some (.int .i64 0) := HS.out.now.1.cell 2; have p3 : w6.cell? ⟨g1, 3, none⟩ = some (.int .i64 1) := HS.out.now.2.1.cell 3; have q3 : w6.cell? ⟨g3, 3, none⟩ = some (.int .i64 1) := HS.out.now.1.cell 3; have p4 : w6.cell? ⟨g1, 4, none⟩ = some (.int .i64 2) := HS.out.now.2.1.cell 4; have q4 : w6.cell? ⟨g3, 4, none⟩ = some (.int .i64 1) := HS.out.now.1.cell 4; have p5 : w6.cell? ⟨g1, 5, none⟩ = some (.string ⟨#[98]⟩) := HS.out.now.2.1.cell 5; have q5 : w6.cell? ⟨g3, 5, none⟩ = some (.string ⟨#[66]⟩) := HS.out.now.1.cell 5; clear t4 _t) | (have _t := t5; go_at_call 32; refine (works_m2 _).mono ?_; rintro e w6 ⟨rfl, hb⟩; have m_ := Aside0.mk (HS.out.call (by repeat (first | exact Below.refl _ _ | apply below_alloc | apply pw_below_drewN | apply below_drew1 | apply bytes_step)) hb); clear HS hb ; have HS := m_; clear m_; have p0 : w6.cell? ⟨g1, 0, none⟩ = some (.bool false) := HS.out.now.2.1.cell 0; have q0 : w6.cell? ⟨g3, 0, none⟩ = some (.bool false) := HS.out.now.1.cell 0; have p1 : w6.cell? ⟨g1, 1, none⟩ = some (.int .i64 1) := HS.out.now.2.1.cell 1; have q1 : w6.cell? ⟨g3, 1, none⟩ = some (.int .i64 1) := HS.out.now.1.cell 1; have p2 : w6.cell? ⟨g1, 2, none⟩ = some (.int .i64 0) := HS.out.now.2.1.cell 2; have q2 : w6.cell? ⟨g3, 2, none⟩ = some (.int .i64 0) := HS.out.now.1.cell 2; have p3 : w6.cell? ⟨g1, 3, none⟩ = some (.int .i64 1) := HS.out.now.2.1.cell 3; have q3 : w6.cell? ⟨g3, 3, none⟩ = some (.int .i64 1) := HS.out.now.1.cell 3; have p4 : w6.cell? ⟨g1, 4, none⟩ = some (.int .i64 2) := HS.out.now.2.1.cell 4; have q4 : w6.cell? ⟨g3, 4, none⟩ = some (.int .i64 1) := HS.out.now.1.cell 4; have p5 : w6.cell? ⟨g1, 5, none⟩ = some (.string ⟨#[98]⟩) := HS.out.now.2.1.cell 5; have q5 : w6.cell? ⟨g3, 5, none⟩ = some (.string ⟨#[66]⟩) := HS.out.now.1.cell 5; clear t5 _t) | (have _t := t6; go_at_call 30; refine (colophonlaw15_at.calls 1 0 1 2 ⟨#[98]⟩ _ _ _ _ _ _ _ rfl).mono ?_; rintro e w6 ⟨rfl, hb⟩; have m_ := Aside0.mk (HS.out.call (by repeat (first | exact Below.refl _ _ | apply below_alloc | apply pw_below_drewN | apply below_drew1 | apply bytes_step)) hb); clear HS hb ; have HS := m_; clear m_; have p0 : w6.cell? ⟨g1, 0, none⟩ = some (.bool false) := HS.out.now.2.1.cell 0; have q0 : w6.cell? ⟨g3, 0, none⟩ = some (.bool false) := HS.out.now.1.cell 0; have p1 : w6.cell? ⟨g1, 1, none⟩ = some (.int .i64 1) := HS.out.now.2.1.cell 1; have q1 : w6.cell? ⟨g3, 1, none⟩ = some (.int .i64 1) := HS.out.now.1.cell 1; have p2 : w6.cell? ⟨g1, 2, none⟩ = some (.int .i64 0) := HS.out.now.2.1.cell 2; have q2 : w6.cell? ⟨g3, 2, none⟩ = some (.int .i64 0) := HS.out.now.1.cell 2; have p3 : w6.cell? ⟨g1, 3, none⟩ = some (.int .i64 1) := HS.out.now.2.1.cell 3; have q3 : w6.cell? ⟨g3, 3, none⟩ = some (.int .i64 1) := HS.out.now.1.cell 3; have p4 : w6.cell? ⟨g1, 4, none⟩ = some (.int .i64 2) := HS.out.now.2.1.cell 4; have q4 : w6.cell? ⟨g3, 4, none⟩ = some (.int .i64 1) := HS.out.now.1.cell 4; have p5 : w6.cell? ⟨g1, 5, none⟩ = some (.string ⟨#[98]⟩) := HS.out.now.2.1.cell 5; have q5 : w6.cell? ⟨g3, 5, none⟩ = some (.string ⟨#[66]⟩) := HS.out.now.1.cell 5; clear t6 _t) | (have _t := t7; go_at_call 30; refine (colophonlaw15_at.calls 1 0 1 1 ⟨#[66]⟩ _ _ _ _ _ _ _ rfl).mono ?_; rintro e w6 ⟨rfl, hb⟩; have m_ := Aside0.mk (HS.out.call (by repeat (first | exact Below.refl _ _ | apply below_alloc | apply pw_below_drewN | apply below_drew1 | apply bytes_step)) hb); clear HS hb ; have HS := m_; clear m_; have p0 : w6.cell? ⟨g1, 0, none⟩ = some (.bool false) := HS.out.now.2.1.cell 0; have q0 : w6.cell? ⟨g3, 0, none⟩ = some (.bool false) := HS.out.now.1.cell 0; have p1 : w6.cell? ⟨g1, 1, none⟩ = some (.int .i64 1) := HS.out.now.2.1.cell 1; have q1 : w6.cell? ⟨g3, 1, none⟩ = some (.int .i64 1) := HS.out.now.1.cell 1; have p2 : w6.cell? ⟨g1, 2, none⟩ = some (.int .i64 0) := HS.out.now.2.1.cell 2; have q2 : w6.cell? ⟨g3, 2, none⟩ = some (.int .i64 0) := HS.out.now.1.cell 2; have p3 : w6.cell? ⟨g1, 3, none⟩ = some (.int .i64 1) := HS.out.now.2.1.cell 3; have q3 : w6.cell? ⟨g3, 3, none⟩ = some (.int .i64 1) := HS.out.now.1.cell 3; have p4 : w6.cell? ⟨g1, 4, none⟩ = some (.int .i64 2) := HS.out.now.2.1.cell 4; have q4 : w6.cell? ⟨g3, 4, none⟩ = some (.int .i64 1) := HS.out.now.1.cell 4; have p5 : w6.cell? ⟨g1, 5, none⟩ = some (.string ⟨#[98]⟩) := HS.out.now.2.1.cell 5; have q5 : w6.cell? ⟨g3, 5, none⟩ = some (.string ⟨#[66]⟩) := HS.out.now.1.cell 5; clear t7 _t))
  go_wp2
  go_ret
  exact ⟨rfl, (HS.out.step (by repeat (first | exact Below.refl _ _ | apply below_alloc | apply pw_below_drewN | apply below_drew1 | apply bytes_step))).bel⟩
end Go.Proofs.Ytjebkpcekkkbkaa.B
