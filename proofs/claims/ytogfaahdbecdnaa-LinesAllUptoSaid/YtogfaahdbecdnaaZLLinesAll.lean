/-
  The row of LinesAll, in its second form: for every input of bulk at most 1048576 the call answers true, and the input reads as it did.
-/
import Derived.RangeFuncNested
import Derived.RangeFuncBound
import Derived.RangeFuncCalls
import Derived.RangeFuncLeaves
import Derived.RangeFuncBox
import Derived.Shelf.Abstract
import Derived.Shelf.RegionOpen
import Derived.OwnWalkIn
import Derived.TacticsInMore
import Derived.LoopNIn
import Derived.LoopIn
import Derived.Test.YtogfaahdbecdnaaFBasex4
import Derived.Deep.DeepFit
import Derived.Test.YtogfaahdbecdnaaFBasex5
import Derived.Test.YtogfaahdbecdnaaBulk
import Derived.ChangeShapes
import Derived.Sort.QuietIn
import Derived.Deep.DeepCutAuto
import Derived.Deep.CutRange
import Derived.Deep.RegionHeld3
import Derived.WalkKit
import Derived.ProofKit
import Derived.OpenShut
import Derived.ShutString
import Derived.ChangeOld
import Derived.Below
import Derived.SizedLaws
import Derived.JoinedCond
import Derived.Test.YtogfaahdbecdnaaZLLinesAll0
set_option linter.unusedSimpArgs false
set_option linter.unusedVariables false
/-
  Plain laws of characters: the document's Decode and Check come to the program's.
-/
namespace Go.Proofs.Ytogfaahdbecdnaa.B
open Go.RowKit Go.Proofs.YtogfaahdbecdnaaW.PrintWords Go.Proofs.YtogfaahdbecdnaaW.PrintLast Go.Proofs.YtogfaahdbecdnaaW.PrintMore Go.Proofs.Ytogfaahdbecdnaa.FBase
set_option linter.unusedVariables false

theorem dec_of2 (b b1 : Int) (t : List Int) (h0 : 128 ≤ b) : ((194 ≤ b ∧ b < 224) ∧ 128 ≤ b1 ∧ b1 ≤ 191 → dec (b :: b1 :: t) = (b % 32 * 64 + b1 % 64, 2, 0)) ∧ (¬ ((194 ≤ b ∧ b < 224) ∧ 128 ≤ b1 ∧ b1 ≤ 191) → ¬ (224 ≤ b ∧ b ≤ 244 ∧ Low b b1) → dec (b :: b1 :: t) = (0, 0, 10)) := by
  refine ⟨fun h => by rw [dec_2 _ h.1.1 h.1.2, rest_2 h.2], fun h h2 => ?_⟩
  by_cases c0 : b < 194 ∨ 244 < b
  · rw [dec_0 _ h0 c0]
  · by_cases c2 : b < 224
    · rw [dec_2 _ (by omega) c2, rest_no (fun hh => h ⟨⟨by omega, c2⟩, hh⟩)]
    · by_cases c3 : b < 240
      · rw [dec_3 _ (by omega) c3, rest_no (fun hh => h2 ⟨by omega, by omega, hh⟩)]
      · rw [dec_4 _ (by omega) (by omega), rest_no (fun hh => h2 ⟨by omega, by omega, hh⟩)]
theorem dec_of2e (b b1 : Int) (h : 224 ≤ b ∧ b ≤ 244 ∧ Low b b1) : dec [b, b1] = (0, 0, 3) := by
  by_cases c3 : b < 240
  · rw [dec_3 _ h.1 c3, rest_n h.2.2 (by decide) rfl]
  · rw [dec_4 _ (by omega) h.2.1, rest_n h.2.2 (by decide) rfl]
theorem dec_of3 (b b1 b2 : Int) (t : List Int) (hE : E23 b b1) : dec (b :: b1 :: b2 :: t) = if 128 ≤ b2 ∧ b2 ≤ 191 then ((b % 16 * 64 + b1 % 64) * 64 + b2 % 64, 3, 0) else (0, 0, 10) := by
  rw [dec_3 _ hE.1 hE.2.1]
  by_cases h : 128 ≤ b2 ∧ b2 ≤ 191
  · rw [if_pos h, rest_3 hE.2.2 h]
  · rw [if_neg h, rest_n2 hE.2.2 (by decide) h]
theorem dec_of4 (b b1 b2 : Int) (t : List Int) (hE : E24 b b1) (h : ¬ (128 ≤ b2 ∧ b2 ≤ 191)) : dec (b :: b1 :: b2 :: t) = (0, 0, 10) := by
  rw [dec_4 _ hE.1 hE.2.1, rest_n2 hE.2.2 (by decide) h]
theorem split_E (b b1 : Int) (h : 224 ≤ b ∧ b ≤ 244 ∧ Low b b1) : E23 b b1 ∨ E24 b b1 := by
  rcases Int.lt_or_le b 240 with h4 | h4
  · exact .inl ⟨h.1, h4, h.2.2⟩
  · exact .inr ⟨h4, h.2.1, h.2.2⟩

/-- The document's Decode, of bytes that there are. -/
theorem RDecode_y (y : List Int) (h : Bytes y) (hne : y ≠ []) : colophonref01_Decode.l0 60 y 1 = some (dec y) := by
  match y, h, hne with
  | [], _, hne => exact absurd rfl hne
  | [b], h, _ =>
    have hb := h b (by simp)
    have s1 := D_step 58 (by decide) [b] h 1 (by decide) (by decide) (by simp)
    simp only [jn, List.take, m1 b hb.1 hb.2] at s1
    rw [show ((1 : Nat) : Int) = 1 from rfl] at s1
    rw [s1, dec_of1 b hb.1]
    by_cases c1 : b < 128
    · rw [if_pos c1, if_pos c1]
    · rw [if_neg c1, if_neg c1, show (1 : Int) + 1 = ((2 : Nat) : Int) from rfl, D_end 56 [b] 2 (.inr (by simp)), if_pos (by simp), LeO_le (fun k => colophonref01_begins.mono [b] k) (by decide) (begins_1 b hb.1 hb.2), Option.bind_some]
      by_cases c2 : 194 ≤ b ∧ b ≤ 244
      · rw [if_pos (decide_eq_true c2), if_pos c2]
      · rw [if_neg (by simpa using c2), if_neg c2]
  | [b, b1], h, _ =>
    have hb := h b (by simp)
    have hb1 := h b1 (by simp)
    have s1 := D_step 58 (by decide) [b, b1] h 1 (by decide) (by decide) (by simp)
    have s2 := D_step 56 (by decide) [b, b1] h 2 (by decide) (by decide) (by simp)
    simp only [jn, List.take, m1 b hb.1 hb.2] at s1
    simp only [jn, List.take, m2 b b1 hb.1 hb.2 hb1.1 hb1.2] at s2
    rw [show ((1 : Nat) : Int) = 1 from rfl] at s1
    rw [show ((2 : Nat) : Int) = 2 from rfl] at s2
    rw [s1]
    by_cases c1 : b < 128
    · rw [if_pos c1, dec_1 _ c1]
    · rw [if_neg c1, show (1 : Int) + 1 = 2 from rfl, s2]
      have d2 := dec_of2 b b1 [] (by omega)
      by_cases c2 : (194 ≤ b ∧ b < 224) ∧ 128 ≤ b1 ∧ b1 ≤ 191
      · rw [if_pos c2, d2.1 c2]
      · rw [if_neg c2, show (2 : Int) + 1 = ((3 : Nat) : Int) from rfl, D_end 54 [b, b1] 3 (.inr (by simp)), if_pos (by simp), LeO_le (fun k => colophonref01_begins.mono [b, b1] k) (by decide) (begins_2 b b1 h), Option.bind_some]
        by_cases c3 : 224 ≤ b ∧ b ≤ 244 ∧ Low b b1
        · rw [if_pos (decide_eq_true c3), dec_of2e b b1 c3]
        · rw [if_neg (by simpa using c3), d2.2 c2 c3]
  | [b, b1, b2], h, _ =>
    have hb := h b (by simp)
    have hb1 := h b1 (by simp)
    have hb2 := h b2 (by simp)
    have s1 := D_step 58 (by decide) [b, b1, b2] h 1 (by decide) (by decide) (by simp)
    have s2 := D_step 56 (by decide) [b, b1, b2] h 2 (by decide) (by decide) (by simp)
    have s3 := D_step 54 (by decide) [b, b1, b2] h 3 (by decide) (by decide) (by simp)
    simp only [jn, List.take, m1 b hb.1 hb.2] at s1
    simp only [jn, List.take, m2 b b1 hb.1 hb.2 hb1.1 hb1.2] at s2
    simp only [jn, List.take, m3 b b1 b2 hb.1 hb.2 hb1.1 hb1.2 hb2.1 hb2.2] at s3
    rw [show ((1 : Nat) : Int) = 1 from rfl] at s1
    rw [show ((2 : Nat) : Int) = 2 from rfl] at s2
    rw [show ((3 : Nat) : Int) = 3 from rfl] at s3
    rw [s1]
    by_cases c1 : b < 128
    · rw [if_pos c1, dec_1 _ c1]
    · rw [if_neg c1, show (1 : Int) + 1 = 2 from rfl, s2]
      have d2 := dec_of2 b b1 [b2] (by omega)
      by_cases c2 : (194 ≤ b ∧ b < 224) ∧ 128 ≤ b1 ∧ b1 ≤ 191
      · rw [if_pos c2, d2.1 c2]
      · rw [if_neg c2, show (2 : Int) + 1 = 3 from rfl, s3]
        by_cases c3 : E23 b b1 ∧ 128 ≤ b2 ∧ b2 ≤ 191
        · rw [if_pos c3, dec_of3 b b1 b2 [] c3.1, if_pos c3.2]
        · rw [if_neg c3, show (3 : Int) + 1 = ((4 : Nat) : Int) from rfl, D_end 52 [b, b1, b2] 4 (.inr (by simp)), if_pos (by simp), LeO_le (fun k => colophonref01_begins.mono [b, b1, b2] k) (by decide) (begins_3 b b1 b2 h), Option.bind_some]
          by_cases c4 : E34 b b1 b2
          · rw [if_pos (decide_eq_true c4), dec_4 _ c4.1 c4.2.1, rest_4e c4.2.2.1 c4.2.2.2]
          · rw [if_neg (by simpa using c4)]
            by_cases c5 : 224 ≤ b ∧ b ≤ 244 ∧ Low b b1
            · rcases split_E b b1 c5 with e | e
              · rw [dec_of3 b b1 b2 [] e, if_neg (fun hh => c3 ⟨e, hh⟩)]
              · rw [dec_of4 b b1 b2 [] e (fun hh => c4 ⟨e.1, e.2.1, e.2.2, hh⟩)]
            · rw [d2.2 c2 c5]
  | b :: b1 :: b2 :: b3 :: t, h, _ =>
    have hb := h b (by simp)
    have hb1 := h b1 (by simp)
    have hb2 := h b2 (by simp)
    have hb3 := h b3 (by simp)
    have s1 := D_step 58 (by decide) (b :: b1 :: b2 :: b3 :: t) h 1 (by decide) (by decide) (by simp)
    have s2 := D_step 56 (by decide) (b :: b1 :: b2 :: b3 :: t) h 2 (by decide) (by decide) (by simp)
    have s3 := D_step 54 (by decide) (b :: b1 :: b2 :: b3 :: t) h 3 (by decide) (by decide) (by simp)
    have s4 := D_step 52 (by decide) (b :: b1 :: b2 :: b3 :: t) h 4 (by decide) (by decide) (by simp)
    simp only [jn, List.take, m1 b hb.1 hb.2] at s1
    simp only [jn, List.take, m2 b b1 hb.1 hb.2 hb1.1 hb1.2] at s2
    simp only [jn, List.take, m3 b b1 b2 hb.1 hb.2 hb1.1 hb1.2 hb2.1 hb2.2] at s3
    simp only [jn, List.take, m4 b b1 b2 b3 hb.1 hb.2 hb1.1 hb1.2 hb2.1 hb2.2 hb3.1 hb3.2] at s4
    rw [show ((1 : Nat) : Int) = 1 from rfl] at s1
    rw [show ((2 : Nat) : Int) = 2 from rfl] at s2
    rw [show ((3 : Nat) : Int) = 3 from rfl] at s3
    rw [show ((4 : Nat) : Int) = 4 from rfl] at s4
    rw [s1]
    by_cases c1 : b < 128
    · rw [if_pos c1, dec_1 _ c1]
    · rw [if_neg c1, show (1 : Int) + 1 = 2 from rfl, s2]
      have d2 := dec_of2 b b1 (b2 :: b3 :: t) (by omega)
      by_cases c2 : (194 ≤ b ∧ b < 224) ∧ 128 ≤ b1 ∧ b1 ≤ 191
      · rw [if_pos c2, d2.1 c2]
      · rw [if_neg c2, show (2 : Int) + 1 = 3 from rfl, s3]
        by_cases c3 : E23 b b1 ∧ 128 ≤ b2 ∧ b2 ≤ 191
        · rw [if_pos c3, dec_of3 b b1 b2 _ c3.1, if_pos c3.2]
        · rw [if_neg c3, show (3 : Int) + 1 = 4 from rfl, s4]
          by_cases c4 : E34 b b1 b2 ∧ 128 ≤ b3 ∧ b3 ≤ 191
          · rw [if_pos c4, dec_4 _ c4.1.1 c4.1.2.1, rest_4 c4.1.2.2.1 c4.1.2.2.2, if_pos c4.2]
          · rw [if_neg c4, show (4 : Int) + 1 = ((5 : Nat) : Int) from rfl, D_end 50 _ 5 (.inl (by decide)), if_neg (by simp)]
            by_cases c5 : 224 ≤ b ∧ b ≤ 244 ∧ Low b b1
            · rcases split_E b b1 c5 with e | e
              · rw [dec_of3 b b1 b2 _ e, if_neg (fun hh => c3 ⟨e, hh⟩)]
              · by_cases c6 : 128 ≤ b2 ∧ b2 ≤ 191
                · rw [dec_4 _ e.1 e.2.1, rest_4 e.2.2 c6, if_neg (fun hh => c4 ⟨⟨e.1, e.2.1, e.2.2, c6⟩, hh⟩)]
                · rw [dec_of4 b b1 b2 _ e c6]
            · rw [d2.2 c2 c5]
theorem RDecode_f {l : List Int} {i : Int} (h : Bytes l) (h0 : 0 ≤ i) (h1 : i < l.length) {k : Nat} (hk : 61 ≤ k) : colophonref01_Decode.f k l i = some (dec (l.drop i.toNat)) := by
  refine LeO_le (fun k => colophonref01_Decode.mono l i k) hk ?_
  unfold colophonref01_Decode.f
  rw [if_neg (by omega), decide_eq_false (by omega), colophonref01_Decode.j0, if_neg (by decide), if_pos h0, if_pos (by omega)]
  exact RDecode_y _ (h.drop _) (by rw [Ne, List.drop_eq_nil_iff]; omega)
theorem RCheck_l (l : List Int) (h : Bytes l) (hl : l.length ≤ 1048576) (n : Nat) : ∀ (k : Nat) (i : Int), 0 ≤ i → i ≤ l.length → (l.length : Int) - i ≤ n → n + 61 < k → colophonref01_Check.l0 k l i = some (chkF n l i) := by
  induction n with
  | zero =>
    intro k i h0 h1 hn hk
    obtain ⟨k, rfl⟩ : ∃ m, k = m + 1 := ⟨k - 1, by omega⟩
    rw [colophonref01_Check.l0, if_neg (by omega), chkF, show i = l.length by omega]
  | succ n ih =>
    intro k i h0 h1 hn hk
    obtain ⟨k, rfl⟩ : ∃ m, k = m + 1 := ⟨k - 1, by omega⟩
    rw [colophonref01_Check.l0, chkF]
    by_cases hi : i < (l.length : Int)
    · rw [if_pos hi, if_pos hi, RDecode_f h h0 hi (by omega)]
      simp only [Option.bind_some]
      by_cases he : (dec (l.drop i.toNat)).2.2 = 0
      · rw [if_pos he, if_pos he]
        have hd := dec_ok (h.drop i.toNat) he
        have hlen : (l.drop i.toNat).length = l.length - i.toNat := List.length_drop
        rw [w64 _ (by omega) (by omega)]
        exact ih k _ (by omega) (by omega) (by omega) (by omega)
      · rw [if_neg he, if_neg he]
    · rw [if_neg hi, if_neg hi]
/-- The document's Check. -/
theorem RCheck_f (l : List Int) (h : Bytes l) (hl : l.length ≤ 1048576) {k : Nat} (hk : l.length + 61 < k) : colophonref01_Check.f k l = some (chk l) := by
  unfold colophonref01_Check.f chk
  exact RCheck_l l h hl l.length k 0 (Int.le_refl _) (by omega) (by omega) hk
end Go.Proofs.Ytogfaahdbecdnaa.B

/-
  lines: a range over All whose body keeps an invariant: one law.
-/
namespace Go.Proofs.Ytogfaahdbecdnaa.B
open Go.RowKit Go.Shelf Go.Proofs Go.Proofs.YtogfaahdbecdnaaW.PrintWords Go.Proofs.YtogfaahdbecdnaaW.PrintLast Go.Proofs.YtogfaahdbecdnaaW.PrintMore Go.Proofs.Ytogfaahdbecdnaa.FBase
set_option linter.unusedVariables false
attribute [local go_sem] Oper.semAt_some

set_option maxRecDepth 100000 in
set_option maxHeartbeats 2000000 in
/-- All's closure, told by the lines' numbers. -/
theorem All2 (n : Nat) (hn : 1 ≤ n) (l Bs n₀ a : Nat) (L : List Ln) (hpos : 0 < L.length) (hs : L.length ≤ 2097152) (J Jx : List Nat → World → Prop)
    (W : World) (hJ : AbidesFrom W.heap.size J) (hJx : AbidesFrom W.heap.size Jx)
    (hY : ∀ pre x W1, J pre W1 → pre.length < L.length → YieldAt Fence.wide (n - 1) Try.prog l (encLn (nthLn L x)) W1 fun e W' =>
      (e = .returned (.bool true) ∧ J (pre ++ [x]) W' ∧ Below n₀ W1 W') ∨ (e = .returned (.bool false) ∧ Jx (pre ++ [x]) W'))
    (w0 : World) (hw0 : w0.heap.size = n₀) (hbW : Below n₀ w0 W) (hI : IsIdx w0 a L) (hBs : W.cell? ⟨Bs, 0, none⟩ = some (.pointer (some ⟨a, 0, none⟩))) (h0 : J [] W) :
    CallsIn Fence.wide n Try.prog 59 #[.func (.yield l) #[] #[], .pointer (some ⟨Bs, 0, none⟩)] W fun e W' => (∃ v, e = .returned v) ∧
      ((∃ ys, ys = List.range L.length ∧ J ys W') ∨ (∃ pre, (∃ k, k ≤ L.length ∧ pre = List.range k) ∧ Jx pre W')) := by
  subst hw0
  have HI := Aside0.mk hI
  have hbW' : Below w0.heap.size w0 W := hbW
  obtain ⟨A, c, h3, hl, hC⟩ := hI.cell
  have h3W := (hbW.cell (World.block_lt_of_cell? w0 _ h3)).trans h3
  have HC := Aside0.mk hC
  have HB := Aside0.mk hbW
  have HJ := Aside0.mk hJ
  have HY := Aside0.mk hY
  clear hI hC hJ hJx hbW hbW' hY h3
  refine callsIn_of_wp Try.func59 rfl trivial ?_ rfl
  simp only [Try.ntmps59, List.size_toArray, List.length_cons, List.length_nil, Nat.reduceAdd, Nat.reduceSub, Array.replicate_succ, Array.replicate_zero, List.push_toArray, List.append_toArray, List.nil_append, List.cons_append]
  gi_wp2_with (refine ⟨trivial, ?_⟩; gi_at_call 58; refine (callsIn_wide.2 (none_idx _ a L (IsIdx.below HI.out HB.out) hpos)).mono ?_; rintro e w' ⟨rfl, rfl⟩)
  gi_loopw [12] (fun i wr => ∃ k : Nat, k ≤ L.length ∧ i = .int .i64 k ∧ Aside0 (J (List.range k) wr) ∧ Aside0 (Below w0.heap.size W wr) ∧ Aside0 (W.heap.size ≤ wr.heap.size))
    (fun i _ => L.length - (intOf i).toNat)
  case atStart => exact ⟨0, Nat.zero_le _, rfl, ⟨h0⟩, ⟨Below.refl _ _⟩, ⟨Nat.le_refl _⟩⟩
  case round =>
    obtain ⟨k, hk, rfl, HJs, HBr, HSz⟩ := hrel
    by_cases hlt : k < L.length
    · obtain ⟨ad, e, h4, h5, h6⟩ := atLn HC.out (k : Int) (by omega) (by omega)
      cases e
      rw [Int.toNat_natCast] at h4 h5 h6
      have hB2 := HB.out.trans HBr.out
      have g4 := (hB2.cell (World.block_lt_of_cell? w0 _ h4)).trans h4
      have g5 := (hB2.cell (World.block_lt_of_cell? w0 _ h5)).trans h5
      have g6 := (hB2.cell (World.block_lt_of_cell? w0 _ h6)).trans h6
      clear h4 h5 h6 hB2
      have hJa : J (List.range k) (wr.alloc (.cells #[.int .i64 (rdLn L k).f0, .int .i64 (rdLn L k).f1, .int .i64 (rdLn L k).f2] 90)) :=
        HJ.out _ _ _ none HJs.out (World.grownBy_alloc _ _ none) (fun r e => by cases e)
      obtain ⟨fn, tmps, assign, body, hy, hR⟩ := HY.out _ k _ hJa (by rw [List.length_range]; exact hlt)
      dsimp only [encLn, nthLn] at hy
      gi_wp2
      refine hR.mono ?_
      rintro e W3 (⟨rfl, hJ3, hk3⟩ | ⟨rfl, hJx3⟩)
      · gi_wp2
        go_roundw
        case rel => exact ⟨k + 1, by omega, by simp, ⟨by rw [List.range_succ]; exact hJ3⟩, ⟨(HBr.out.alloc (by have := HB.out.size; have := HSz.out; omega) _).trans hk3⟩, ⟨by have := hk3.size; have := HSz.out; simp at *; omega⟩⟩
        case measure => simp [intOf]; omega
      · gi_wp2
        refine bodyPost_ret (results_none rfl _ _ _) rfl ?_
        exact ⟨⟨_, rfl⟩, .inr ⟨_, ⟨k + 1, by omega, List.range_succ.symm⟩, hJx3⟩⟩
    · obtain rfl : k = L.length := by omega
      gi_wp2
      go_end0
      exact ⟨⟨_, rfl⟩, .inl ⟨_, rfl, HJs.out⟩⟩

theorem All_stops2 (n : Nat) (hn : 1 ≤ n) (Bs n₀ a : Nat) (L : List Ln) (hpos : 0 < L.length) (hs : L.length ≤ 2097152) (w0 w : World) (hw0 : w0.heap.size = n₀) (hbW : Below n₀ w0 w) (hI : IsIdx w0 a L) (hBs : Bs < w.heap.size) (hc : w.cell? ⟨Bs, 0, none⟩ = some (.pointer (some ⟨a, 0, none⟩))) :
    SeqStopsK Fence.wide n Try.prog 59 #[.pointer (some ⟨Bs, 0, none⟩)] (fun j => encLn (nthLn L j)) (Below n₀) (fun ys => ys = List.range L.length)
      (fun pre => ∃ k, k ≤ L.length ∧ pre = List.range k) L.length w := fun l J Jx W hW hJ hJx hY h0 => by
  have hc' := (hW.cell (p := ⟨Bs, 0, none⟩) hBs).trans hc
  exact All2 n hn l Bs n₀ a L hpos hs J Jx W hJ hJx hY w0 hw0 (hbW.trans (hW.mono (by have := hbW.size; omega))) hI hc' h0

/-- A box: a block of one cell, which may be written. -/
def Box1 (W : World) (g : Nat) (v : Value) : Prop := W.cell? ⟨g, 0, none⟩ = some v ∧ W.frozen? ⟨g, 0, none⟩ = false
theorem box1_own {β : Type} (B g : Nat) (v : β → Value) : OwnFrom B (fun (s : β) W => Box1 W g (v s)) :=
  Own.from (fun s A B row hs hg hr => ⟨cell_kept hs.1 hg hr, (frozen_kept hs.1 hg hr).trans hs.2⟩) B
theorem Box1.below {W W1 : World} {g : Nat} {v : Value} (h : Box1 W g v) (hb : Below W.heap.size W W1) : Box1 W1 g v := by
  have hlt := World.block_lt_of_cell? W _ h.1
  exact ⟨(hb.cell hlt).trans h.1, (hb.frozen hlt).trans h.2⟩
theorem Box1.new (W : World) (t : TypeId) (v : Value) : Box1 (W.alloc (.cells #[v] t)) W.heap.size v := ⟨(blk_cell (blk_new W _) 0).trans rfl, blk_frozen (blk_new W _) 0⟩
theorem Box1.set {W : World} {g : Nat} {v : Value} (h : Box1 W g v) (u : Value) : Box1 (W.setCell ⟨g, 0, none⟩ u) g u :=
  ⟨World.cell?_setCell_same' _ _ _ (by rw [h.1]; rfl), by rw [World.frozen?_setCell]; exact h.2⟩
theorem keepsFrom_below {B : Nat} {W W1 : World} (hb : Below W.heap.size W W1) : KeepsFrom B W W1 := ⟨hb.size, fun k o _ hk _ => (hb.block k (blk_lt hk)).trans hk⟩
theorem keepsFrom_set {B : Nat} {W W1 : World} (h : KeepsFrom B W W1) (p : Addr) (u : Value) : KeepsFrom B W (W1.setCell p u) := h.trans ((KeepsOthers.setCell _ _ _).from _)

/-- A range over what All hands back of an index: the body keeps I; it may be left by way of c, then Ix c holds. n₀: the blocks below it are those of w0, and the body keeps them. -/
theorem wp_range_all (a : Nat) (L : List Ln) (Bs n₀ : Nat) (g : Operand) (ps : Array Tmp) (assign body : Code) (Q : Exit → Act → World → Prop) (ac : Act) (w0 W : World) (I : List Nat → World → Prop) (Ix : Code → List Nat → World → Prop) (a1 : Nat → Act)
    (hg : ac.eval g = .func (.func 59) #[] #[.pointer (some ⟨Bs, 0, none⟩)]) (hw0 : w0.heap.size = n₀) (hb0 : Below n₀ w0 W) (hI : IsIdx w0 a L) (hpos : 0 < L.length) (hs : L.length ≤ 2097152)
    (hBs : Bs < W.heap.size) (hc : W.cell? ⟨Bs, 0, none⟩ = some (.pointer (some ⟨a, 0, none⟩))) (hps : ps.size = 2)
    (hIo : OwnFrom W.heap.size I) (hIxo : ∀ c, OwnFrom W.heap.size (Ix c)) (h0 : I [] W)
    (hassign : ∀ (l : Nat) (x : Nat) (W1 : World) (K : Act → World → Prop), K (a1 x) W1 → assign.wpIn (Fence.wide.inRound l) 4 Try.prog (Exit.then K (fun _ _ _ => False)) { tmps := (ps.zip (encLn (nthLn L x))).foldl (fun t (p, v) => t.setIfInBounds p v) ac.tmps, defers := [] } W1)
    (hbody : ∀ (l : Nat) (pre : List Nat) (x : Nat) (W1 : World), I pre W1 → pre.length < L.length → body.wpIn (Fence.wide.inRound l) 4 Try.prog (ownPostG W.heap.size (Below n₀) I Ix (pre ++ [x]) W1) (a1 x) W1)
    (hdone : ∀ D W1, W.heap.size ≤ D → I (List.range L.length) W1 → W1.heap[D]? = some (.deferred (some [])) → Q .normal { ac with defers := { target := .collected D, args := #[] } :: ac.defers } W1)
    (hstop : ∀ D c k W1, W.heap.size ≤ D → k ≤ L.length → Ix c (List.range k) W1 → W1.heap[D]? = some (.deferred (some [])) → c.wpIn Fence.wide 6 Try.prog Q { ac with defers := { target := .collected D, args := #[] } :: ac.defers } W1) :
    (Code.rangeFunc g ps assign body).wp Try.prog Q ac W := by
  refine (wpIn_wide (n := 6)).1 ?_
  refine wpIn_rangeFunc_ownG rfl (by omega) (gf := 59) (lb := #[.pointer (some ⟨Bs, 0, none⟩)]) hg trivial (enters_of Try.func59 (by kernel_rfl) rfl)
    (All_stops2 _ (by omega) Bs n₀ a L hpos hs w0 W hw0 hb0 hI hBs hc) belowK_t (belowK_b (by have := hb0.size; omega)) (Below.refl _ _) (fun _ => hps.symm)
    I Ix hIo hIxo h0 a1 hassign hbody ?_ ?_
  · rintro D ys W1 hD rfl hB hK
    exact hdone D W1 hD hB hK
  · rintro D c pre W1 hD ⟨k, hk, rfl⟩ h hK
    exact hstop D c k W1 hD hk h hK
end Go.Proofs.Ytogfaahdbecdnaa.B

/-
  lines: a range over All whose body has the line's span in a box of its own in each round.
-/
namespace Go.Proofs.Ytogfaahdbecdnaa.B
open Go.RowKit Go.Shelf Go.Proofs Go.Proofs.YtogfaahdbecdnaaW.PrintWords Go.Proofs.YtogfaahdbecdnaaW.PrintLast Go.Proofs.YtogfaahdbecdnaaW.PrintMore Go.Proofs.Ytogfaahdbecdnaa.FBase
set_option linter.unusedVariables false
attribute [local go_sem] Oper.semAt_some

/-- Block b has a span. -/
def SpBox (W : World) (b : Nat) (x : Ln) : Prop := W.cell? ⟨b, 0, none⟩ = some (.int .i64 x.f0) ∧ W.cell? ⟨b, 1, none⟩ = some (.int .i64 x.f1)
theorem SpBox.below {W W1 : World} {b : Nat} {x : Ln} (h : SpBox W b x) (hb : Below W.heap.size W W1) : SpBox W1 b x := by
  exact ⟨(hb.cell (World.block_lt_of_cell? W _ h.1)).trans h.1, (hb.cell (World.block_lt_of_cell? W _ h.2)).trans h.2⟩

/-- As wp_range_all, but the line's span lies in a box in each round: up x b: the frame's slots as round x finds them, the box being b. -/
theorem wp_range_box (a : Nat) (L : List Ln) (Bs n₀ : Nat) (g : Operand) (ps : Array Tmp) (assign body : Code) (Q : Exit → Act → World → Prop) (ac : Act) (w0 W : World) (I : List Nat → World → Prop) (Ix : Code → List Nat → World → Prop) (up : Nat → Nat → Array Value → Array Value)
    (hg : ac.eval g = .func (.func 59) #[] #[.pointer (some ⟨Bs, 0, none⟩)]) (hw0 : w0.heap.size = n₀) (hb0 : Below n₀ w0 W) (hI : IsIdx w0 a L) (hpos : 0 < L.length) (hs : L.length ≤ 2097152)
    (hBs : Bs < W.heap.size) (hc : W.cell? ⟨Bs, 0, none⟩ = some (.pointer (some ⟨a, 0, none⟩))) (hps : ps.size = 2)
    (hIo : OwnFrom W.heap.size I) (hIxo : ∀ c, OwnFrom W.heap.size (Ix c)) (h0 : I [] W) (hIb : ∀ pre W1 W2, I pre W1 → n₀ ≤ W1.heap.size → Below W1.heap.size W1 W2 → I pre W2)
    (hIz : ∀ pre W1, I pre W1 → n₀ ≤ W1.heap.size)
    (hassign : ∀ (l : Nat) (x : Nat) (W1 : World) (K : Act → World → Prop), K { tmps := up x W1.heap.size ac.tmps, defers := [] } (W1.alloc (.cells #[.int .i64 (rdLn L x).f0, .int .i64 (rdLn L x).f1] 35)) →
      assign.wpIn (Fence.wide.inRound l) 4 Try.prog (Exit.then K (fun _ _ _ => False)) { tmps := (ps.zip (encLn (nthLn L x))).foldl (fun t (p, v) => t.setIfInBounds p v) ac.tmps, defers := [] } W1)
    (hbody : ∀ (l : Nat) (pre : List Nat) (x b : Nat) (W1 : World), I pre W1 → SpBox W1 b (rdLn L x) → pre.length < L.length → body.wpIn (Fence.wide.inRound l) 4 Try.prog (ownPostG W.heap.size (Below n₀) I Ix (pre ++ [x]) W1) { tmps := up x b ac.tmps, defers := [] } W1)
    (hdone : ∀ D W1, W.heap.size ≤ D → I (List.range L.length) W1 → W1.heap[D]? = some (.deferred (some [])) → Q .normal { ac with defers := { target := .collected D, args := #[] } :: ac.defers } W1)
    (hstop : ∀ D c k W1, W.heap.size ≤ D → k ≤ L.length → Ix c (List.range k) W1 → W1.heap[D]? = some (.deferred (some [])) → c.wpIn Fence.wide 6 Try.prog Q { ac with defers := { target := .collected D, args := #[] } :: ac.defers } W1) :
    (Code.rangeFunc g ps assign body).wp Try.prog Q ac W := by
  refine (wpIn_wide (n := 6)).1 ?_
  refine wpIn_rangeFunc_ownH rfl (by omega) (gf := 59) (lb := #[.pointer (some ⟨Bs, 0, none⟩)]) hg trivial (enters_of Try.func59 (by kernel_rfl) rfl)
    (All_stops2 _ (by omega) Bs n₀ a L hpos hs w0 W hw0 hb0 hI hBs hc) belowK_t (belowK_b (by have := hb0.size; omega)) (Below.refl _ _) (fun _ => hps.symm)
    I Ix hIo hIxo h0 (fun x a' W1 => ∃ b, a' = { tmps := up x b ac.tmps, defers := [] } ∧ SpBox W1 b (rdLn L x)) ?_ ?_ ?_ ?_ ?_
  · intro x a' s W1 W2 row hs hg' hr
    obtain ⟨b, e, h⟩ := hs
    exact ⟨b, e, cell_kept h.1 hg' (fun r e => (hr r e).2), cell_kept h.2 hg' (fun r e => (hr r e).2)⟩
  · intro l pre x W1 K hi hK
    have hbel := below_alloc (Below.refl _ W1) (.cells #[.int .i64 (rdLn L x).f0, .int .i64 (rdLn L x).f1] 35)
    refine hassign l x W1 K (hK _ _ (keepsFrom_below hbel) (hbel.mono (hIz _ _ hi)) (hIb _ _ _ hi (hIz _ _ hi) hbel) ⟨W1.heap.size, rfl, ?_, ?_⟩)
    · rw [blk_cell (blk_new W1 _)]; rfl
    · rw [blk_cell (blk_new W1 _)]; rfl
  · rintro l pre x a' W1 - - hi ⟨b, rfl, hb⟩ hlt
    exact hbody l pre x b W1 hi hb hlt
  · rintro D ys W1 hD rfl hB hK
    exact hdone D W1 hD hB hK
  · rintro D c pre W1 hD ⟨k, hk, rfl⟩ h hK
    exact hstop D c k W1 hD hk h hK
end Go.Proofs.Ytogfaahdbecdnaa.B

/-
  A quiet region (loads and calls that leave the memory as it is) in the body of a range over a function: one walk in the order of the text serves every order.
-/
namespace Go.Proofs.Ytogfaahdbecdnaa.B
open Go Go.RowKit Go.Proofs.YtogfaahdbecdnaaW.PrintWords Go.Proofs.YtogfaahdbecdnaaW.PrintLast Go.Proofs.YtogfaahdbecdnaaW.PrintMore Go.Proofs.Ytogfaahdbecdnaa.FBase
theorem quiet_drawn {P : Program} {f : FuncId} {args : Array Value} {v : Value} {n : Nat} {w : World} (h : Calls P f args (w.drewN n) fun e w' => e = .returned v ∧ Drawn0 (w.drewN n) w') : Calls P f args (w.drewN n) fun e w' => e = .returned v ∧ ∃ m, w' = w.drewN m :=
  h.mono fun e w' ⟨he, m, hm⟩ => ⟨he, n + m, by rw [← World.drewN_drewN]; first | exact hm | exact hm.symm⟩
def notDefer (o : Oper) : Bool := match o.op with | .defer _ => false | _ => true
theorem notDefer_ne {o : Oper} (h : notDefer o = true) : ∀ c, o.op ≠ .defer c := fun c e => by simp [notDefer, e] at h
section
variable {F : Fence} {n : Nat} {P : Program} {ops : Array Oper} {C : World → Prop} {md : Region.Mode}
theorem opQuiet {o : Oper} {a : Act} {K : Act → Prop} {K' : Act → World → Prop} {Q' : Exit → Act → World → Prop} {w : World} (hd : ∀ c, o.op ≠ .defer c) (hw : C w) (h : ∀ a w', C w' → K a → K' a w')
    (ha : o.askedIn F P a C) (hh : o.quietIn F n P a C K) : o.wpIn F n P a w K' Q' := by
  obtain ⟨v, h1, h2⟩ := hh
  have h3 := h1 w hw
  unfold Oper.quietAtIn at h3
  unfold Oper.wpIn
  refine ⟨ha w hw, ?_⟩
  rw [Oper.semAt_eq _ _ _ hd]
  generalize (execOp a.eval o).run P w = r at *
  match r, h3 with
  | .ok x w', h3 =>
    match x, h3 with
    | .value u, ⟨e1, e2⟩ => rw [Oper.uponIn, e1, e2]; exact h _ _ hw h2
    | .skip, ⟨e1, e2⟩ => rw [Oper.uponIn, e1, ← e2]; exact h _ _ hw h2
    | .enter f args, ⟨e1, hdp, hc⟩ => rw [e1]; exact ⟨hdp, hc.mono fun e w'' ⟨he, hw''⟩ => by subst he; exact h _ _ hw'' h2⟩
theorem opsQuiet {i : Nat} {a : Act} {K : Act → Prop} {K' : Act → World → Prop} {Q' : Exit → Act → World → Prop} {w : World} (hd : ops.all notDefer = true) (hC : C w) (h : ∀ a w', C w' → K a → K' a w')
    (hh : qOpIn F n P ops C i K a) : wpOpIn F n P ops Q' i K' a w := by
  unfold qOpIn at hh
  unfold wpOpIn
  split
  · rename_i ho; simp only [ho] at hh; exact h _ _ hC hh
  · rename_i o ho
    simp only [ho] at hh
    obtain ⟨ha, hh⟩ := hh
    have hdo : notDefer o = true := by
      rw [Array.all_eq_true] at hd
      obtain ⟨hi, e⟩ := Array.getElem?_eq_some_iff.1 ho
      rw [← e]
      exact hd i hi
    split
    · rename_i hw; simp only [hw, if_true] at hh; exact opQuiet (notDefer_ne hdo) hC h ha hh
    · rename_i hw; simp only [hw] at hh; exact ⟨ha w hC, h _ _ hC hh⟩
theorem anyQuiet {Q : Act → Prop} {Q' : Exit → Act → World → Prop} (hd : ops.all notDefer = true) (hQ : ∀ a w, C w → Q a → Q' .normal a w) : ∀ (fuel : Nat) (listed : Array Bool) (a : Act) (w : World), C w →
    wpAnyQIn F n P md ops C Q fuel listed a → wpAnyIn F n P md ops Q' fuel listed a w
  | 0, _, _, _, hw, h => ⟨h.1, hQ _ _ hw h.2⟩
  | fuel + 1, _, _, _, hw, h => ⟨fun h0 => hQ _ _ hw (h.1 h0), fun i hi => opsQuiet hd hw (fun a' w' hw' => anyQuiet hd hQ fuel _ a' w' hw') (h.2 i hi)⟩
theorem wpIn_region_round {id : Nat} {Q : Exit → Act → World → Prop} {a : Act} {w : World} {l : List Oper} (hd : l.toArray.all notDefer = true) (hm : P.follows .mixedOrders = true) (hB : Region.lexB .any l.toArray = true)
    (h : wpQuietIn F n P l.toArray (fun w' => ∃ n, w' = w.drewN n) (fun a' => ∀ w', (∃ n, w' = w.drewN n) → Q .normal a' w') l a) : (Code.region id l.toArray true).wpIn F n P Q a w := by
  have hB2 := hB
  simp only [Region.lexB, Bool.and_eq_true] at hB2
  refine wpIn_region_any hm (anyQuiet (C := fun w' => ∃ n, w' = w.drewN n) (Q := fun a' => ∀ w', (∃ n, w' = w.drewN n) → Q .normal a' w') hd (fun _ w' hw' h => h w' hw') _ _ _ _ ⟨1, rfl⟩ ?_)
  have := wpAnyQIn_lex (F := F) (n := n) (P := P) (C := fun w' => ∃ n, w' = w.drewN n) (md := .any) (Q := fun a' => ∀ w', (∃ n, w' = w.drewN n) → Q .normal a' w') hB2.1 l.toArray.toList 0 (Array.replicate l.toArray.size false) a (by simp) (by simpa using hB2.2) (by simpa using h)
  simpa using this
end
end Go.Proofs.Ytogfaahdbecdnaa.B

/-
  LinesAll, walked.
-/
namespace Go.Proofs.Ytogfaahdbecdnaa.B
open Go.RowKit Go.Shelf Go.Proofs Go.Proofs.YtogfaahdbecdnaaW.PrintWords Go.Proofs.YtogfaahdbecdnaaW.PrintLast Go.Proofs.YtogfaahdbecdnaaW.PrintMore Go.Proofs.Ytogfaahdbecdnaa.FBase
set_option linter.unusedVariables false
attribute [local go_sem] Oper.semAt_some

set_option maxRecDepth 100000 in
set_option maxHeartbeats 1000000 in
theorem LinesAll_err (k k2 : Nat) (A : Option Addr) (c : Nat) (l : List Int) (r1 r2 : Int) (stop : Int) (w : World) (hr : Kd.C (Kd.int .u8) w A l.length l) (hc : l.length ≤ c) (h : runes_Check.f k l = some (r1, r2)) (h2 : colophonref01_Check.f k2 l = some (r1, r2)) (hs : l.length ≤ 1048576) (hne : r2 ≠ 0) :
    Calls Try.prog 3 #[.slice A l.length c, .int .i64 stop] w fun e w' => e = .returned (.bool true) ∧ Below w.heap.size w w' := by
  have HC := Aside0.mk hc
  have H := Aside0.mk h
  have H2 := Aside0.mk h2
  have HE := Aside0.mk (show colophonref00_EqBytes.f (l.length + 1) l l = some true by rw [EqBytes_f l l hs (Nat.lt_succ_self _)]; simp)
  have hz := hne
  have hz2 : (r2 != 0) = true := bne_iff_ne.mpr hne
  have hb1 : Below w.heap.size w (w.alloc (.cells #[.int .i64 stop] 3)) := below_alloc (Below.refl _ _) _
  have hb2 : Below (w.alloc (.cells #[.int .i64 stop] 3)).heap.size (w.alloc (.cells #[.int .i64 stop] 3)) ((w.alloc (.cells #[.int .i64 stop] 3)).alloc (.cells #[.bool false] 4)) := below_alloc (Below.refl _ _) _
  have hg0 : IsBlk (w.alloc (.cells #[.int .i64 stop] 3)) w.heap.size (.cells #[.int .i64 stop] 3) := blk_new w _
  have hg1 : IsBlk ((w.alloc (.cells #[.int .i64 stop] 3)).alloc (.cells #[.bool false] 4)) (w.alloc (.cells #[.int .i64 stop] 3)).heap.size (.cells #[.bool false] 4) := blk_new _ _
  rw [World.size_alloc] at hg1
  have HS := Aside0.mk (((((Sta.start w).only hr (keeps_C _ _ _ _)).step hb1).step hb2).add hg1 (keeps_blk _ _))
  have m_ := Aside0.mk (HS.out.only (G := fun W => IsBlk W w.heap.size (.cells #[.int .i64 stop] 3) ∧ IsBlk W (w.heap.size + 1) (.cells #[.bool false] 4) ∧ Kd.C (Kd.int .u8) W A l.length l) ⟨hg0.below hb2, HS.out.now⟩ (keeps_and (keeps_blk _ _) HS.out.keeps))
  clear HS hb1 hb2 hg0 hg1 hr hc h h2 hne
  have HS := m_
  clear m_
  refine (callsIn_wide (n := 6)).1 ?_
  refine callsIn_of_wp_marks Try.func3 rfl trivial ?_ rfl
  simp only [Try.ntmps3, List.size_toArray, List.length_cons, List.length_nil, Nat.reduceAdd, Nat.reduceSub, Array.replicate_succ, Array.replicate_zero, List.push_toArray, List.append_toArray, List.nil_append, List.cons_append]
  refine wpIn_wide.2 ?_
  go_wp2_with (first | (go_at_call 20; refine (Copy_ok A c l _ (HS.out.step (by repeat (first | exact Below.refl _ _ | apply below_alloc | apply pw_below_drewN | apply below_drew1))).now.2.2 HC.out hs).mono ?_; rintro e w' ⟨v, rfl, hR, hb⟩; obtain ⟨Ai, ci, rfl⟩ := Kd.R_slice hR; obtain ⟨-, hci, hC⟩ := Kd.R_reads' hR; have HCI := Aside0.mk hci; have HO := Aside0.mk hR; clear hci hR; have m_ := Aside0.mk ((HS.out.call (by repeat (first | exact Below.refl _ _ | apply below_alloc | apply pw_below_drewN | apply below_drew1)) hb).add hC (keeps_C _ _ _ _)); clear HS hb hC; have HS := m_; clear m_) | (go_at_call 21; refine (New_err k Ai ci l r1 r2 _ (HS.out.step (by repeat (first | exact Below.refl _ _ | apply below_alloc | apply pw_below_drewN | apply below_drew1))).now.1 HCI.out H.out hz).mono ?_; rintro e w1 ⟨rfl, hb⟩; have m_ := Aside0.mk (HS.out.call (by repeat (first | exact Below.refl _ _ | apply below_alloc | apply pw_below_drewN | apply below_drew1)) hb); clear HS hb ; have HS := m_; clear m_) | (go_at_call 22; refine (RNew_err k2 A c l r1 r2 _ (HS.out.step (by repeat (first | exact Below.refl _ _ | apply below_alloc | apply pw_below_drewN | apply below_drew1))).now.2.2.2 HC.out H2.out hz).mono ?_; rintro e w2 ⟨rfl, hb⟩; have m_ := Aside0.mk (HS.out.call (by repeat (first | exact Below.refl _ _ | apply below_alloc | apply pw_below_drewN | apply below_drew1)) hb); clear HS hb ; have HS := m_; clear m_) | (go_at_call 23; refine (colophonref00_EqBytes.calls _ Ai ci l A c l true _ (HS.out.step (by repeat (first | exact Below.refl _ _ | apply below_alloc | apply pw_below_drewN | apply below_drew1))).now.1 HCI.out (HS.out.step (by repeat (first | exact Below.refl _ _ | apply below_alloc | apply pw_below_drewN | apply below_drew1))).now.2.2.2 HC.out HE.out).mono ?_; rintro e w3 ⟨rfl, nq, rfl⟩) | (go_at_call 24; refine (works_ok _).mono ?_; rintro e w4 ⟨rfl, hb⟩; have m_ := Aside0.mk (HS.out.call (by repeat (first | exact Below.refl _ _ | apply below_alloc | apply pw_below_drewN | apply below_drew1)) hb); clear HS hb ; have HS := m_; clear m_; have cG := HS.out.now.2.2.1.cell 0; have fG := HS.out.now.2.2.1.frozen 0))
  have hB9 : Below w.heap.size w (w4.setCell ⟨w.heap.size + 1, 0, none⟩ (.bool true)) := HS.out.bel.setCell (p := ⟨w.heap.size + 1, 0, none⟩) (by simp) _
  have c9 := (HS.out.now.2.2.1.setTo (.bool true)).cell 0
  generalize (w4.setCell ⟨w.heap.size + 1, 0, none⟩ (.bool true)) = W9 at *
  refine ⟨.bool true, ?_, rfl, hB9⟩
  simp [results, Try.results3, go_sem, c9]
end Go.Proofs.Ytogfaahdbecdnaa.B

/-
  LinesAll, walked: of a text.
-/
namespace Go.Proofs.Ytogfaahdbecdnaa.B
open Go.RowKit Go.Shelf Go.Proofs Go.Proofs.YtogfaahdbecdnaaW.PrintWords Go.Proofs.YtogfaahdbecdnaaW.PrintLast Go.Proofs.YtogfaahdbecdnaaW.PrintMore Go.Proofs.Ytogfaahdbecdnaa.FBase
set_option linter.unusedVariables false
attribute [local go_sem] Oper.semAt_some

set_option maxRecDepth 100000 in
set_option maxHeartbeats 1000000 in
theorem LinesAll_text (k k2 : Nat) (A : Option Addr) (c : Nat) (l : List Int) (r1 : Int) (stop : Int) (w : World) (hr : Kd.C (Kd.int .u8) w A l.length l) (hc : l.length ≤ c) (h : runes_Check.f k l = some (r1, 0)) (h2 : colophonref01_Check.f k2 l = some (r1, 0)) (hs : l.length ≤ 1048576) :
    Calls Try.prog 3 #[.slice A l.length c, .int .i64 stop] w fun e w' => e = .returned (.bool true) ∧ Below w.heap.size w w' := by
  have HC := Aside0.mk hc
  have H := Aside0.mk h
  have H2 := Aside0.mk h2
  have HE := Aside0.mk (show colophonref00_EqBytes.f (l.length + 1) l l = some true by rw [EqBytes_f l l hs (Nat.lt_succ_self _)]; simp)
  have hch := lns_chain0 l
  have hln : (lns l 0 0).length ≤ 2097152 := by have := hch.length_le; omega
  have hpos := hch.pos
  obtain ⟨L, hL⟩ : ∃ L, lns l 0 0 = L := ⟨_, rfl⟩
  have HLE := Aside0.mk hL
  rw [hL] at hch hln hpos
  have HCH := Aside0.mk hch
  clear hL hch
  have hne := trivial
  have hb1 : Below w.heap.size w (w.alloc (.cells #[.int .i64 stop] 3)) := below_alloc (Below.refl _ _) _
  have hb2 : Below (w.alloc (.cells #[.int .i64 stop] 3)).heap.size (w.alloc (.cells #[.int .i64 stop] 3)) ((w.alloc (.cells #[.int .i64 stop] 3)).alloc (.cells #[.bool false] 4)) := below_alloc (Below.refl _ _) _
  have hg0 : IsBlk (w.alloc (.cells #[.int .i64 stop] 3)) w.heap.size (.cells #[.int .i64 stop] 3) := blk_new w _
  have hg1 : IsBlk ((w.alloc (.cells #[.int .i64 stop] 3)).alloc (.cells #[.bool false] 4)) (w.alloc (.cells #[.int .i64 stop] 3)).heap.size (.cells #[.bool false] 4) := blk_new _ _
  rw [World.size_alloc] at hg1
  have HS := Aside0.mk (((((Sta.start w).only hr (keeps_C _ _ _ _)).step hb1).step hb2).add hg1 (keeps_blk _ _))
  have m_ := Aside0.mk (HS.out.only (G := fun W => IsBlk W w.heap.size (.cells #[.int .i64 stop] 3) ∧ IsBlk W (w.heap.size + 1) (.cells #[.bool false] 4) ∧ Kd.C (Kd.int .u8) W A l.length l) ⟨hg0.below hb2, HS.out.now⟩ (keeps_and (keeps_blk _ _) HS.out.keeps))
  clear HS hb1 hb2 hg0 hg1 hr hc h h2 hne
  have HS := m_
  clear m_
  refine (callsIn_wide (n := 6)).1 ?_
  refine callsIn_of_wp_marks Try.func3 rfl trivial ?_ rfl
  simp only [Try.ntmps3, List.size_toArray, List.length_cons, List.length_nil, Nat.reduceAdd, Nat.reduceSub, Array.replicate_succ, Array.replicate_zero, List.push_toArray, List.append_toArray, List.nil_append, List.cons_append]
  refine wpIn_wide.2 ?_
  go_wp2_with (first | (go_at_call 20; refine (Copy_ok A c l _ (HS.out.step (by repeat (first | exact Below.refl _ _ | apply below_alloc | apply pw_below_drewN | apply below_drew1))).now.2.2 HC.out hs).mono ?_; rintro e w' ⟨v, rfl, hR, hb⟩; obtain ⟨Ai, ci, rfl⟩ := Kd.R_slice hR; obtain ⟨-, hci, -⟩ := Kd.R_reads' hR; have hR := Kd.R_lower hR (show w.heap.size + 2 ≤ _ by simp); have HZ0 := Aside0.mk hb.size; have HCI := Aside0.mk hci; have HO := Aside0.mk hR; clear hci; have m_ := Aside0.mk ((HS.out.call (by repeat (first | exact Below.refl _ _ | apply below_alloc | apply pw_below_drewN | apply below_drew1)) hb).add hR (keeps_R _ _ _ _ _ _)); clear HS hb  hR; have HS := m_; clear m_) | (go_at_call 21; refine (New_all k Ai ci l r1 _ (Kd.R_reads' (HS.out.step (by repeat (first | exact Below.refl _ _ | apply below_alloc | apply pw_below_drewN | apply below_drew1))).now.1).2.2 HCI.out H.out hs).mono ?_; rintro e w1 ⟨a, rfl, hle, hI, hb⟩; rw [HLE.out] at hI; have HZ := Aside0.mk hb.size; clear hle; have m_ := Aside0.mk ((HS.out.call (by repeat (first | exact Below.refl _ _ | apply below_alloc | apply pw_below_drewN | apply below_drew1)) hb).add hI (keeps_from _ _)); clear HS hb  hI; have HS := m_; clear m_) | (go_at_call 22; refine (RNew_all k2 A c l r1 _ (HS.out.step (by repeat (first | exact Below.refl _ _ | apply below_alloc | apply pw_below_drewN | apply below_drew1))).now.2.2.2.2 HC.out H2.out hs).mono ?_; rintro e w2 ⟨a2, rfl, hle, hJ, hb⟩; rw [HLE.out] at hJ; have HZ2 := Aside0.mk hb.size; have hJ := FromBase.lower hJ HZ.out; clear hle; have m_ := Aside0.mk ((HS.out.call (by repeat (first | exact Below.refl _ _ | apply below_alloc | apply pw_below_drewN | apply below_drew1)) hb).add hJ (keeps_from _ _)); clear HS hb  hJ; have HS := m_; clear m_) | (go_at_call 23; refine (colophonref00_EqBytes.calls _ Ai ci l A c l true _ (Kd.R_reads' (HS.out.step (by repeat (first | exact Below.refl _ _ | apply below_alloc | apply pw_below_drewN | apply below_drew1))).now.2.2.1).2.2 HCI.out (HS.out.step (by repeat (first | exact Below.refl _ _ | apply below_alloc | apply pw_below_drewN | apply below_drew1))).now.2.2.2.2.2 HC.out HE.out).mono ?_; rintro e w3 ⟨rfl, nq, rfl⟩))
  have hbel : Below w2.heap.size w2 ((w2.alloc (.cells #[.pointer (some ⟨a2, 0, none⟩)] 28)).drewN nq) := pw_below_drewN (below_alloc (Below.refl _ _) _) _
  have hby : IsBlk ((w2.alloc (.cells #[.pointer (some ⟨a2, 0, none⟩)] 28)).drewN nq) w2.heap.size (.cells #[.pointer (some ⟨a2, 0, none⟩)] 28) := IsBlk.drewN (blk_new w2 _) nq
  have hS1 := HS.out.step hbel
  have hge : w'.heap.size ≤ w2.heap.size := Nat.le_trans HZ.out HZ2.out
  clear HS hbel
  have HR0 := Aside0.mk hS1.now.2.2.1
  have HS : Aside0 (Sta w ((w2.alloc (.cells #[.pointer (some ⟨a2, 0, none⟩)] 28)).drewN nq) (fun W => FromBase w'.heap.size W (fun W => IsIdx W a L ∧ IsRef W a2 L ∧ IsBlk W w2.heap.size (.cells #[.pointer (some ⟨a2, 0, none⟩)] 28)) ∧ IsBlk W w.heap.size (.cells #[.int .i64 stop] 3) ∧ IsBlk W (w.heap.size + 1) (.cells #[.bool false] 4))) :=
    ⟨hS1.only ⟨hS1.now.2.1.and (hS1.now.1.and (FromBase.blk hge hby)), hS1.now.2.2.2.1, hS1.now.2.2.2.2.1⟩ (keeps_and (keeps_from _ _) (keeps_and (keeps_blk _ _) (keeps_blk _ _)))⟩
  clear hS1 hby
  generalize ((w2.alloc (.cells #[.pointer (some ⟨a2, 0, none⟩)] 28)).drewN nq) = W0 at *
  go_loopw [10] (fun s10 W => ∃ i : Nat, i ≤ l.length ∧ s10 = .int .i64 i ∧ Aside0 (∃ zs, Kd.R (Kd.int .u8) 5 W (w.heap.size + 2) (fun _ => True) (.slice Ai l.length ci) zs) ∧ Aside0 (Sta w W (fun W => FromBase w'.heap.size W (fun W => IsIdx W a L ∧ IsRef W a2 L ∧ IsBlk W w2.heap.size (.cells #[.pointer (some ⟨a2, 0, none⟩)] 28)) ∧ IsBlk W w.heap.size (.cells #[.int .i64 stop] 3) ∧ IsBlk W (w.heap.size + 1) (.cells #[.bool false] 4)))) (fun s10 _ => l.length - (intOf s10).toNat)
  case atStart => exact ⟨0, Nat.zero_le _, rfl, ⟨_, HR0.out⟩, HS⟩
  case round =>
    clear HS HR0
    obtain ⟨i, hi, rfl, HRz, HS⟩ := hrel
    by_cases hlt : i < l.length
    · obtain ⟨zs, hRz⟩ := HRz.out
      obtain ⟨gi, rfl, hg1, hg2⟩ := own_at hRz (by omega)
      obtain ⟨gj, e, -, hg3⟩ := own_at HO.out (by omega)
      cases e
      obtain ⟨hc1, hf1⟩ := cell_own hRz i hlt
      have HRz2 := Aside0.mk hRz
      have i1 : (i : Int) < l.length := by omega
      clear hRz HRz
      go_wp2
      go_roundw
      case measure => simp [intOf]; omega
      case rel => 
        exact ⟨i + 1, hlt, by simp, ⟨_, put_own HRz2.out i 10⟩, ⟨HS.out.bel.setCell (p := ⟨gi, i, none⟩) (by simp; omega) _, ⟨HS.out.now.1.set (p := ⟨gi, i, none⟩) hg3 _, HS.out.now.2.1.other (by simp; omega) _, HS.out.now.2.2.other (by simp; omega) _⟩, HS.out.keeps⟩⟩
    · obtain rfl : i = l.length := by omega
      clear HRz
      have cy : wr.cell? ⟨w2.heap.size, 0, none⟩ = some (.pointer (some ⟨a2, 0, none⟩)) := HS.out.now.1.now.2.2.cell 0
      go_upto_region 13 with (go_at_call 25; refine (RCount_ok a2 L _ (HS.out.step (by repeat (first | exact Below.refl _ _ | apply below_alloc | apply pw_below_drewN | apply below_drew1))).now.1.now.2.1).mono ?_; rintro e w3 ⟨rfl, rfl⟩)
      have c3 : (wr.alloc (.cells #[.int .i64 L.length] 3)).cell? ⟨wr.heap.size, 0, none⟩ = some (.int .i64 L.length) := (blk_cell (blk_new wr _) 0).trans rfl
      have hbl : Below wr.heap.size wr (wr.alloc (.cells #[.int .i64 L.length] 3)) := below_alloc (Below.refl _ _) _
      have hg3 : IsBlk (wr.alloc (.cells #[.int .i64 L.length] 3)) wr.heap.size (.cells #[.int .i64 L.length] 3) := blk_new wr _
      have m_ := Aside0.mk ((HS.out.step hbl).add hg3 (keeps_blk _ _))
      have L3 := Aside0.mk (blk_lt HS.out.now.2.2)
      clear HS hg3 hbl cy
      have HS := m_
      clear m_
      generalize wr.heap.size = g3 at *
      generalize (wr.alloc (.cells #[.int .i64 L.length] 3)) = W3 at *
      go_region_held3 (fun wx => wx.cell? ⟨g3, 0, none⟩ = some (.int .i64 L.length)) (go_keep) (first | (go_at_call 26; refine (Count_ok a L _ (HS.out.step (by repeat (first | exact Below.refl _ _ | apply below_alloc | apply pw_below_drewN | apply below_drew1))).now.2.1.now.1 hpos hln).mono ?_; rintro e w5 ⟨rfl, hb⟩; have m_ := Aside0.mk (HS.out.call (by repeat (first | exact Below.refl _ _ | apply below_alloc | apply pw_below_drewN | apply below_drew1)) hb); clear HS hb  ; have HS := m_; clear m_; have c3b : w5.cell? ⟨g3, 0, none⟩ = some (.int .i64 L.length) := HS.out.now.1.cell 0))
      go_wp2
      clear c3b
      go_loopw [12] (fun s12 W => ∃ i : Int, -1 ≤ i ∧ i ≤ L.length + 1 ∧ s12 = .int .i64 i ∧ Aside0 (Sta w W (fun W => IsBlk W g3 (.cells #[.int .i64 L.length] 3) ∧ FromBase w'.heap.size W (fun W => IsIdx W a L ∧ IsRef W a2 L ∧ IsBlk W w2.heap.size (.cells #[.pointer (some ⟨a2, 0, none⟩)] 28)) ∧ IsBlk W w.heap.size (.cells #[.int .i64 stop] 3) ∧ IsBlk W (w.heap.size + 1) (.cells #[.bool false] 4)))) (fun s12 _ => ((L.length : Int) + 1 - intOf s12).toNat)
      case atStart => exact ⟨-1, by omega, by omega, rfl, HS⟩
      case round =>
        clear HS
        obtain ⟨i, hi0, hi1, rfl, HS⟩ := hrel
        have c3 : wr.cell? ⟨g3, 0, none⟩ = some (.int .i64 L.length) := HS.out.now.1.cell 0
        by_cases hle : i ≤ L.length
        · by_cases hin : 0 ≤ i ∧ i < L.length
          · obtain ⟨h0, h1⟩ := hin
            go_wp2_with (first | (go_at_call 27; refine (Line_ok a L i _ (HS.out.step (by repeat (first | exact Below.refl _ _ | apply below_alloc | apply pw_below_drewN | apply below_drew1))).now.2.1.now.1 h0 h1 hln).mono ?_; rintro e w6 ⟨rfl, hb⟩; have m_ := Aside0.mk (HS.out.call (by repeat (first | exact Below.refl _ _ | apply below_alloc | apply pw_below_drewN | apply below_drew1)) hb); clear HS hb  ; have HS := m_; clear m_; have cy := cell_alloc2 (HS.out.now.2.1.now.2.2.cell 0)) | (go_at_call 28; refine (RLine_ok a2 L i _ (HS.out.step (by repeat (first | exact Below.refl _ _ | apply below_alloc | apply pw_below_drewN | apply below_drew1))).now.2.1.now.2.1 h0 h1 hln).mono ?_; rintro e w7 ⟨rfl, hb⟩; have tc := two_cells w6 (rdLn L i).f0 (rdLn L i).f1 (rdLn L i).f2 35; have p0 := cell_alloc2 (cell_below tc.1 hb); have p1 := cell_alloc2 (cell_below tc.2.1 hb); have q0 := cell_alloc2 (cell_below tc.2.2.1 hb); have q1 := cell_alloc2 (cell_below tc.2.2.2 hb); clear tc; have m_ := Aside0.mk (HS.out.call (by repeat (first | exact Below.refl _ _ | apply below_alloc | apply pw_below_drewN | apply below_drew1)) hb); clear HS hb  ; have HS := m_; clear m_))
            go_roundw
            case measure => simp [intOf]; omega
            case rel => exact ⟨i + 1, by omega, by omega, by simp, ⟨HS.out.step (by repeat (first | exact Below.refl _ _ | apply below_alloc | apply pw_below_drewN | apply below_drew1))⟩⟩
          · have hio : i < 0 ∨ L.length ≤ i := by omega
            go_wp2_with (first | (go_at_call 27; refine (Line_out a L i _ (HS.out.step (by repeat (first | exact Below.refl _ _ | apply below_alloc | apply pw_below_drewN | apply below_drew1))).now.2.1.now.1 hpos hio hln).mono ?_; rintro e w6 ⟨rfl, hb⟩; have m_ := Aside0.mk (HS.out.call (by repeat (first | exact Below.refl _ _ | apply below_alloc | apply pw_below_drewN | apply below_drew1)) hb); clear HS hb  ; have HS := m_; clear m_; have cy := cell_alloc2 (HS.out.now.2.1.now.2.2.cell 0)) | (go_at_call 28; refine (RLine_out a2 L i _ (HS.out.step (by repeat (first | exact Below.refl _ _ | apply below_alloc | apply pw_below_drewN | apply below_drew1))).now.2.1.now.2.1 hio).mono ?_; rintro e w7 ⟨rfl, hb⟩; have tc := two_cells w6 0 0 0 35; have p0 := cell_alloc2 (cell_below tc.1 hb); have p1 := cell_alloc2 (cell_below tc.2.1 hb); have q0 := cell_alloc2 (cell_below tc.2.2.1 hb); have q1 := cell_alloc2 (cell_below tc.2.2.2 hb); clear tc; have m_ := Aside0.mk (HS.out.call (by repeat (first | exact Below.refl _ _ | apply below_alloc | apply pw_below_drewN | apply below_drew1)) hb); clear HS hb  ; have HS := m_; clear m_))
            go_roundw
            case measure => simp [intOf]; omega
            case rel => exact ⟨i + 1, by omega, by omega, by simp, ⟨HS.out.step (by repeat (first | exact Below.refl _ _ | apply below_alloc | apply pw_below_drewN | apply below_drew1))⟩⟩
        · obtain rfl : i = L.length + 1 := by omega
          clear hle hi0 hi1
          have BM := Aside0.mk (bring_f stop ((L.length : Int) + 1) (by omega) (by omega))
          have b1 := Int.emod_nonneg stop (show ((L.length : Int) + 1) ≠ 0 by omega)
          have b2 := Int.emod_lt_of_pos stop (show 0 < ((L.length : Int) + 1) by omega)
          obtain ⟨st, hst⟩ : ∃ st : Nat, stop % ((L.length : Int) + 1) = st := ⟨(stop % ((L.length : Int) + 1)).toNat, by omega⟩
          rw [hst] at BM b2
          have hst2 : st ≤ L.length := by omega
          clear hst b1 b2
          have c0 : wr.cell? ⟨w.heap.size, 0, none⟩ = some (.int .i64 stop) := HS.out.now.2.2.1.cell 0
          have f0 := HS.out.now.2.2.1.frozen 0
          have eqs := eql_seq
          go_wp2_with (first | (go_at_call 29; refine (colophonref00_Bring.calls stop _ _ _ BM.out).mono ?_; rintro e w8 ⟨rfl, nq, rfl⟩) | (go_at_call 30; refine (All_calls _ _).mono ?_; rintro e_ w' ⟨rfl, rfl⟩))
          have hS1 := HS.out.step (pw_below_drewN (Below.refl _ _) nq)
          have l3 := L3.out
          have l2 := blk_lt hS1.now.2.2.2
          have lb : w.heap.size < w'.heap.size := by
            have := HZ0.out
            simp at this
            omega
          have HS : Aside0 (Sta w ((wr.drewN nq).setCell ⟨w.heap.size, 0, none⟩ (.int .i64 st)) (fun W => IsBlk W g3 (.cells #[.int .i64 L.length] 3) ∧ FromBase w'.heap.size W (fun W => IsIdx W a L ∧ IsRef W a2 L ∧ IsBlk W w2.heap.size (.cells #[.pointer (some ⟨a2, 0, none⟩)] 28)) ∧ IsBlk W w.heap.size (.cells #[.int .i64 st] 3) ∧ IsBlk W (w.heap.size + 1) (.cells #[.bool false] 4))) :=
            ⟨⟨hS1.bel.setCell (p := ⟨w.heap.size, 0, none⟩) (Nat.le_refl _) _, ⟨hS1.now.1.other (by simp; omega) _, hS1.now.2.1.set (p := ⟨w.heap.size, 0, none⟩) lb _, hS1.now.2.2.1.setTo _, hS1.now.2.2.2.other (by simp) _⟩, keeps_and (keeps_blk _ _) (keeps_and (keeps_from _ _) (keeps_and (keeps_blk _ _) (keeps_blk _ _)))⟩⟩
          clear hS1 c3 c0 f0
          have hsz : wr.heap.size = ((wr.drewN nq).setCell ⟨w.heap.size, 0, none⟩ (.int .i64 st)).heap.size := by simp
          rw [hsz]
          clear hsz
          generalize ((wr.drewN nq).setCell ⟨w.heap.size, 0, none⟩ (.int .i64 st)) = wc at *
          have hB0 : Below wc.heap.size wc (((wc.alloc (.cells #[.int .i64 0] 3)).alloc (.cells #[.pointer (some ⟨a, 0, none⟩)] 24)).alloc (.cells #[.pointer (some ⟨a, 0, none⟩)] 24)) := below_alloc (below_alloc (below_alloc (Below.refl _ _) _) _) _
          have hbx : Box1 (((wc.alloc (.cells #[.int .i64 0] 3)).alloc (.cells #[.pointer (some ⟨a, 0, none⟩)] 24)).alloc (.cells #[.pointer (some ⟨a, 0, none⟩)] 24)) wc.heap.size (.int .i64 0) := Box1.below (Box1.below (Box1.new wc 3 _) (below_alloc (Below.refl _ _) _)) (below_alloc (Below.refl _ _) _)
          have hbs := (Box1.new ((wc.alloc (.cells #[.int .i64 0] 3)).alloc (.cells #[.pointer (some ⟨a, 0, none⟩)] 24)) 24 (.pointer (some ⟨a, 0, none⟩))).1
          rw [World.size_alloc, World.size_alloc] at hbs
          have l1 := blk_lt HS.out.now.2.2.2
          refine wp_range_box a L (wc.heap.size + 1 + 1) wc.heap.size _ _ _ _ _ _ wc _ (fun pre W => Box1 W wc.heap.size (.int .i64 (pre.length : Nat)) ∧ Below wc.heap.size wc W) (fun c pre W => (∃ (p : List Nat) (x : Nat), pre = p ++ [x] ∧ x ≠ p.length) ∨ (c = .exit 4 ∧ pre.length = st ∧ Box1 W wc.heap.size (.int .i64 (pre.length : Nat)) ∧ Below wc.heap.size wc W))
            (fun x b t => (((t.setIfInBounds 109 (.int .i64 x)).setIfInBounds 110 (.agg #[.int .i64 (rdLn L x).f0, .int .i64 (rdLn L x).f1])).setIfInBounds 20 (.int .i64 x)).setIfInBounds 21 (.pointer (some ⟨b, 0, none⟩)))
            rfl rfl hB0 HS.out.now.2.1.now.1 hpos hln (by simp) hbs rfl ?io ?ixo ?h0 ?ib ?iz ?asg ?body ?done ?stop
          case io => exact OwnFrom.and (box1_own _ _ (fun pre : List Nat => .int .i64 (pre.length : Nat))) (ownFrom_below (Nat.le_refl _) (by simp; omega))
          case ixo => exact fun c s W1 W2 row h hg hr => h.elim .inl (fun h => .inr ⟨h.1, h.2.1, box1_own _ _ (fun pre : List Nat => .int .i64 (pre.length : Nat)) s W1 W2 row h.2.2.1 hg hr, ownFrom_below (β := List Nat) (Nat.le_refl _) (by simp; omega) s W1 W2 row h.2.2.2 hg hr⟩)
          case h0 => exact ⟨hbx, hB0⟩
          case ib => exact fun pre W1 W2 h hz hb => ⟨h.1.below hb, h.2.trans (hb.mono hz)⟩
          case iz => exact fun pre W1 h => h.2.size
          case asg =>
            clear hB0 hbx hbs eqs
            intro l_ x W1 K hK
            gi_wp2
            exact hK
          case body =>
            clear hB0 hbx hbs eqs
            rintro l_ pre x b W1 ⟨hbx1, hB1⟩ hsp hlt
            have hS1 := HS.out.step hB1
            have c3 : W1.cell? ⟨g3, 0, none⟩ = some (.int .i64 L.length) := hS1.now.1.cell 0
            have c0 : W1.cell? ⟨w.heap.size, 0, none⟩ = some (.int .i64 st) := hS1.now.2.2.1.cell 0
            have c1 : W1.cell? ⟨w.heap.size + 1, 0, none⟩ = some (.bool false) := hS1.now.2.2.2.cell 0
            have f1 := hS1.now.2.2.2.frozen 0
            have cy : W1.cell? ⟨w2.heap.size, 0, none⟩ = some (.pointer (some ⟨a2, 0, none⟩)) := hS1.now.2.1.now.2.2.cell 0
            have hRf := hS1.now.2.1.now.2.1
            have cx := hbx1.1
            have fx := hbx1.2
            obtain ⟨s1, s2⟩ := hsp
            have HB1 := Aside0.mk hB1
            have HBX1 := Aside0.mk hbx1
            clear hS1 hB1 hbx1
            simp only [List.setIfInBounds_toArray, List.set_cons_succ, List.set_cons_zero]
            by_cases hx : x = pre.length
            · subst hx
              obtain ⟨ad, cc, ad', cc', -, h3, -, -, h6, h7⟩ := hRf.at (pre.length : Int) (by omega) (by omega)
              rw [Int.toNat_natCast] at h6 h7
              clear hRf
              have hge : decide ((L.length : Int) ≤ (pre.length : Int)) = false := decide_eq_false (by omega)
              have hge2 : decide (L.length ≤ pre.length) = false := decide_eq_false (by omega)
              gi_wp2_with fail
              refine wpIn_region_round (by kernel_rfl) (by kernel_rfl) (by kernel_rfl) ?_
              repeat (first | gi_big_quiet_step (fail) | (refine wpQuietIn_step (fun _ _ _ _ => trivial) (fun K hK => ?_); go_simp; refine hK _ ?_; clear hK K))
              refine wpQuietIn_nil ?_
              intro _ hw'
              obtain ⟨nq, hw''⟩ := hw'
              subst hw''
              by_cases hq : pre.length + 1 = st
              · have he : ((pre.length : Int) + 1 == (st : Int)) = true := beq_iff_eq.mpr (by omega)
                gi_wp2
                exact ⟨keepsFrom_set (keepsFrom_below (pw_below_drewN (Below.refl _ _) nq)) _ _, .inr ⟨rfl, by simpa using hq, by rw [List.length_append, List.length_singleton]; exact (HBX1.out.below (pw_below_drewN (Below.refl _ _) nq)).set _, (pw_below_drewN HB1.out nq).setCell (p := ⟨wc.heap.size, 0, none⟩) (Nat.le_refl _) _⟩⟩
              · have he : ((pre.length : Int) + 1 == (st : Int)) = false := beq_eq_false_iff_ne.mpr (by omega)
                gi_wp2
                exact ⟨keepsFrom_set (keepsFrom_below (pw_below_drewN (Below.refl _ _) nq)) _ _, (pw_below_drewN (Below.refl _ _) nq).setCell (p := ⟨wc.heap.size, 0, none⟩) (Nat.le_refl _) _, by rw [List.length_append, List.length_singleton]; exact (HBX1.out.below (pw_below_drewN (Below.refl _ _) nq)).set _, (pw_below_drewN HB1.out nq).setCell (p := ⟨wc.heap.size, 0, none⟩) (Nat.le_refl _) _⟩
            · have hne : ((x : Int) != (pre.length : Int)) = true := bne_iff_ne.mpr (by omega)
              clear hRf
              gi_wp2_with fail
              refine wpIn_region_round (by kernel_rfl) (by kernel_rfl) (by kernel_rfl) ?_
              repeat (first | gi_big_quiet_step (fail) | (refine wpQuietIn_step (fun _ _ _ _ => trivial) (fun K hK => ?_); go_simp; refine hK _ ?_; clear hK K))
              refine wpQuietIn_nil ?_
              intro _ hw'
              obtain ⟨nq, hw''⟩ := hw'
              subst hw''
              gi_wp2
              exact ⟨keepsFrom_set (keepsFrom_below (pw_below_drewN (Below.refl _ _) nq)) _ _, .inl ⟨pre, x, rfl, hx⟩⟩
          case done =>
            clear hB0 hbx hbs eqs
            rintro D W1 hD ⟨hbx1, hB1⟩ hK
            rw [List.length_range] at hbx1
            have lD : w.heap.size + 1 < D := by simp at hD; omega
            have m_ := Aside0.mk ((HS.out.step hB1).add hK (keeps_blk _ _))
            clear HS hB1 hK
            have HS := m_
            clear m_
            have c3 : W1.cell? ⟨g3, 0, none⟩ = some (.int .i64 L.length) := HS.out.now.2.1.cell 0
            have c0 : W1.cell? ⟨w.heap.size, 0, none⟩ = some (.int .i64 st) := HS.out.now.2.2.2.1.cell 0
            have cx := hbx1.1
            go_wp2_with (go_at_call 24; refine (works_ok _).mono ?_; rintro e w9 ⟨rfl, hb⟩; have m_ := Aside0.mk (HS.out.call (by repeat (first | exact Below.refl _ _ | apply below_alloc | apply pw_below_drewN | apply below_drew1)) hb); clear HS hb  ; have HS := m_; clear m_; have cG := HS.out.now.2.2.2.2.cell 0; have fG := HS.out.now.2.2.2.2.frozen 0)
            have hG := HS.out.now.2.2.2.2
            have h1 := HS.out.now.1
            have hB := HS.out.bel
            clear HS
            have e1 : D ≠ w.heap.size + 1 := by omega
            have g4 : IsBlk (w9.setCell ⟨w.heap.size + 1, 0, none⟩ (.bool true)) (w.heap.size + 1) (.cells #[.bool true] 4 (0, 0)) := hG.setTo _
            have a1 : IsBlk (w9.setCell ⟨w.heap.size + 1, 0, none⟩ (.bool true)) D (.deferred (some [])) := h1.other e1 _
            have hB4 : Below w.heap.size w (w9.setCell ⟨w.heap.size + 1, 0, none⟩ (.bool true)) := hB.setCell (p := ⟨w.heap.size + 1, 0, none⟩) (by simp) _
            generalize (w9.setCell ⟨w.heap.size + 1, 0, none⟩ (.bool true)) = W4 at *
            have g5 : IsBlk (W4.putObj D (.deferred none)) (w.heap.size + 1) (.cells #[.bool true] 4 (0, 0)) := (World.putObj_heap_other (Ne.symm e1)).trans g4
            have hB5 := hB4.trans (belowK_b (w := w) (Nat.le_refl _) W4 D _ (.deferred none) (by omega) a1 rfl rfl)
            have c6 : (W4.putObj D (.deferred none)).cell? ⟨w.heap.size + 1, 0, none⟩ = some (.bool true) := g5.cell 0
            refine ⟨by simp, .inl ⟨_, _, rfl, run_takeDeferred a1, ?_⟩⟩
            refine ⟨.bool true, ?_, rfl, hB5⟩
            simp [results, Try.results3, go_sem, c6]
          case stop =>
            clear hB0 hbx hbs eqs
            rintro D c_ k W1 hD hk hix hK
            rcases hix with ⟨p, x, hp, hx⟩ | ⟨rfl, hk2, hbx1, hB1⟩
            · exfalso
              have h1 := congrArg List.length hp
              rw [List.length_range, List.length_append, List.length_singleton] at h1
              subst h1
              rw [List.range_succ] at hp
              exact hx (List.append_inj_right' hp rfl |> List.singleton_inj.1).symm
            · rw [List.length_range] at hbx1 hk2
              subst hk2
              refine wpIn_wide.2 ?_
              have lD : w.heap.size + 1 < D := by simp at hD; omega
              have m_ := Aside0.mk ((HS.out.step hB1).add hK (keeps_blk _ _))
              clear HS hB1 hK
              have HS := m_
              clear m_
              have c3 : W1.cell? ⟨g3, 0, none⟩ = some (.int .i64 L.length) := HS.out.now.2.1.cell 0
              have c0 : W1.cell? ⟨w.heap.size, 0, none⟩ = some (.int .i64 k) := HS.out.now.2.2.2.1.cell 0
              have cx := hbx1.1
              by_cases hkn : k = L.length
              · subst hkn
                go_wp2_with (go_at_call 24; refine (works_ok _).mono ?_; rintro e w9 ⟨rfl, hb⟩; have m_ := Aside0.mk (HS.out.call (by repeat (first | exact Below.refl _ _ | apply below_alloc | apply pw_below_drewN | apply below_drew1)) hb); clear HS hb  ; have HS := m_; clear m_; have cG := HS.out.now.2.2.2.2.cell 0; have fG := HS.out.now.2.2.2.2.frozen 0)
                have hG := HS.out.now.2.2.2.2
                have h1 := HS.out.now.1
                have hB := HS.out.bel
                clear HS
                have e1 : D ≠ w.heap.size + 1 := by omega
                have g4 : IsBlk (w9.setCell ⟨w.heap.size + 1, 0, none⟩ (.bool true)) (w.heap.size + 1) (.cells #[.bool true] 4 (0, 0)) := hG.setTo _
                have a1 : IsBlk (w9.setCell ⟨w.heap.size + 1, 0, none⟩ (.bool true)) D (.deferred (some [])) := h1.other e1 _
                have hB4 : Below w.heap.size w (w9.setCell ⟨w.heap.size + 1, 0, none⟩ (.bool true)) := hB.setCell (p := ⟨w.heap.size + 1, 0, none⟩) (by simp) _
                generalize (w9.setCell ⟨w.heap.size + 1, 0, none⟩ (.bool true)) = W4 at *
                have g5 : IsBlk (W4.putObj D (.deferred none)) (w.heap.size + 1) (.cells #[.bool true] 4 (0, 0)) := (World.putObj_heap_other (Ne.symm e1)).trans g4
                have hB5 := hB4.trans (belowK_b (w := w) (Nat.le_refl _) W4 D _ (.deferred none) (by omega) a1 rfl rfl)
                have c6 : (W4.putObj D (.deferred none)).cell? ⟨w.heap.size + 1, 0, none⟩ = some (.bool true) := g5.cell 0
                refine ⟨by simp, .inl ⟨_, _, rfl, run_takeDeferred a1, ?_⟩⟩
                refine ⟨.bool true, ?_, rfl, hB5⟩
                simp [results, Try.results3, go_sem, c6]
              · have he : ((k : Int) == (L.length : Int)) = false := beq_eq_false_iff_ne.mpr (by omega)
                go_wp2_with (go_at_call 24; refine (works_ok _).mono ?_; rintro e w9 ⟨rfl, hb⟩; have m_ := Aside0.mk (HS.out.call (by repeat (first | exact Below.refl _ _ | apply below_alloc | apply pw_below_drewN | apply below_drew1)) hb); clear HS hb  ; have HS := m_; clear m_; have cG := HS.out.now.2.2.2.2.cell 0; have fG := HS.out.now.2.2.2.2.frozen 0)
                have hG := HS.out.now.2.2.2.2
                have h1 := HS.out.now.1
                have hB := HS.out.bel
                clear HS
                have e1 : D ≠ w.heap.size + 1 := by omega
                have g4 : IsBlk (w9.setCell ⟨w.heap.size + 1, 0, none⟩ (.bool true)) (w.heap.size + 1) (.cells #[.bool true] 4 (0, 0)) := hG.setTo _
                have a1 : IsBlk (w9.setCell ⟨w.heap.size + 1, 0, none⟩ (.bool true)) D (.deferred (some [])) := h1.other e1 _
                have hB4 : Below w.heap.size w (w9.setCell ⟨w.heap.size + 1, 0, none⟩ (.bool true)) := hB.setCell (p := ⟨w.heap.size + 1, 0, none⟩) (by simp) _
                generalize (w9.setCell ⟨w.heap.size + 1, 0, none⟩ (.bool true)) = W4 at *
                have g5 : IsBlk (W4.putObj D (.deferred none)) (w.heap.size + 1) (.cells #[.bool true] 4 (0, 0)) := (World.putObj_heap_other (Ne.symm e1)).trans g4
                have hB5 := hB4.trans (belowK_b (w := w) (Nat.le_refl _) W4 D _ (.deferred none) (by omega) a1 rfl rfl)
                have c6 : (W4.putObj D (.deferred none)).cell? ⟨w.heap.size + 1, 0, none⟩ = some (.bool true) := g5.cell 0
                refine ⟨by simp, .inl ⟨_, _, rfl, run_takeDeferred a1, ?_⟩⟩
                refine ⟨.bool true, ?_, rfl, hB5⟩
                simp [results, Try.results3, go_sem, c6]

theorem LinesAll_row (A : Option Addr) (n c : Nat) (zs : List Int) (p : Int) (W : World) (h : IsRow .u8 W A n c zs) (hb : c ≤ 1048576) (_hp : (Lit.int .i64 p).wf = true) :
    Calls Try.prog 3 #[.slice A n c, .int .i64 p] W fun e w' => e = .returned (.bool true) ∧ Below W.heap.size W w' := by
  obtain ⟨l, rfl, hc, hC, hw⟩ := h.reads
  have hB : Bytes l := fun x hx => byte_wf (hw x hx)
  have h1 := Check_f l hB (by omega) (Nat.lt_succ_self _)
  have h2 := RCheck_f l hB (by omega) (Nat.lt_succ_self _)
  generalize chk l = ck at h1 h2
  obtain ⟨r1, r2⟩ := ck
  by_cases hz : r2 = 0
  · subst hz
    exact LinesAll_text _ _ A c l r1 p W hC hc h1 h2 (by omega)
  · exact LinesAll_err _ _ A c l r1 r2 p W hC hc h1 h2 (by omega) hz
end Go.Proofs.Ytogfaahdbecdnaa.B

namespace Go.Proofs.Ytogfaahdbecdnaa.linesAll
open Go.ChangeShapes Go.WideShapes Go.ChangeAt Go.RowKit Go.Proofs.Ytogfaahdbecdnaa.B
set_option linter.unusedVariables false
theorem own : ownKnob Try.prog.godebug = none := by kernel_rfl
theorem laidOut : laidOutB Try.prog = true := by kernel_rfl
set_option maxRecDepth 100000 in
theorem contract (H : Type) (enc : TypeId × Value → H) (W : World) (base : Nat) (args : Array Value) (ds gs : List (DataW H)) (before : List MemPlace)
    (hval0 : ∀ (j : Nat) t v, Try.f3.params[j]? = some t → args[j]? = some v → Value.okWide Try.prog W .any base t v)
    (hW : DataW.Whole enc Try.prog Try.f3.params.toList Rows.linesAllSpec.vars false W args.toList ds gs before) (hk : Rows.uptoSmall H (ds ++ gs) = true) :
    Calls Try.prog 3 args W fun e W' => ∃ v, e = .returned v ∧ Rows.linesAllSpec.post enc Try.prog Try.f3 false true false false W args v W' := by
  have hW' := hW
  obtain ⟨p, q, hA0, hV, rfl, hfz, hnd⟩ := hW
  have hA : DataW.TrodAll enc Try.prog W 0 (fun _ => true) true Try.f3.params.toList args.toList ds p := hA0
  have hval : ∀ (j : Nat) t v, Try.f3.params[j]? = some t → args[j]? = some v → Value.okWide Try.prog W .any base t v := hval0
  rw [Try.params3] at hA hval
  obtain ⟨v0, vs0, d0, ds0, p0, q0, hargs, rfl, rfl, h0, r0⟩ := trodAll_cons hA
  obtain ⟨v1, vs1, d1, ds1, p1, q1, rfl, rfl, rfl, h1, r1⟩ := trodAll_cons r0
  obtain ⟨rfl, rfl, rfl⟩ := trodAll_nil r1
  obtain rfl : args = #[v0, v1] := by cases args; simp_all
  obtain ⟨rfl, rfl⟩ := trodVars_none hV
  have hbulk := bulks.bound hk
  obtain ⟨a0, len0, cap0, rfl⟩ := okWide_slice Try.underlying22 (hval 0 22 v0 rfl rfl)
  have k0 := h0
  have lt0 : ∀ x ∈ p0, x.block < W.heap.size := by obtain ⟨m, hm⟩ := k0; exact DataW.trod_lt m _ _ _ hm
  obtain ⟨z0, w0, b0⟩ : ∃ zs, IsRow .u8 W a0 len0 cap0 zs ∧ cap0 ≤ 1048576 := by
    obtain ⟨fuel, hf⟩ := h0
    rcases open_ints Try.underlying22 Try.underlying5 (by kernel_rfl) hf with ⟨hcs, _⟩ | ⟨x, l, c, zs, hcs, _, hl, hm, hz, hd, hcell, hwz⟩
    · simp [Value.cells] at hcs
      obtain ⟨rfl, rfl, rfl⟩ := hcs
      exact ⟨[], .inl ⟨rfl, rfl, rfl, rfl⟩, by decide⟩
    · simp [Value.cells] at hcs
      obtain ⟨rfl, rfl, rfl⟩ := hcs
      refine ⟨zs, .inr ⟨_, rfl, hl, hm, by simpa using hz, hcell, hwz⟩, ?_⟩
      injection hd with hd _
      have hp : d0 ∈ _ := (show d0 ∈ ([d0, d1] : List (DataW H)) ++ [] from by simp)
      have h1 := bulks.part_le hp
      rw [hd] at h1
      have h2 := bulks.slice_le (H := H) (lits .u8 (zs.take len0)) (lits .u8 (zs.drop len0))
      rw [hd] at hbulk
      have hz' : zs.length = cap0 := by simpa using hz
      simp [lits] at h1 h2 hbulk
      omega
  obtain ⟨a1, rfl, rfl, rfl, w1⟩ := open_int Try.underlying3 (hval 1 3 v1 rfl rfl) h1
  clear hA0 hval0
  refine (LinesAll_row a0 len0 cap0 z0 a1 W w0 b0 w1).mono fun e W' ⟨he, bel⟩ => ?_
  subst he
  exact ⟨_, rfl, _, _, _, [], _, [], hW', trodAll_mk1 (shut_bool Try.underlying4 _), (trodAll_cons_mk (Below.trod laidOut (by kernel_rfl) (of_decide_eq_true (by kernel_rfl)) k0 bel lt0) (trodAll_cons_mk (shut_int Try.underlying3 w1) trodAll_mk0)), rfl, bel.frame _, fun h => by cases h⟩
set_option maxRecDepth 100000 in
theorem lifted (os : Os) (started : os.Started) (H : Type) (enc : TypeId × Value → H) (F : Stop.Interp) :
    ReturnsInHanded {} Try.checked os 3 .any ((Rows.OpenSpec.upto Rows.linesAllSpec).pre6 enc Try.prog Try.f3 Rows.linesAllUptoRow.domain false) (((Rows.OpenSpec.upto Rows.linesAllSpec).at F).post enc Try.prog Try.f3 false true false false) := by
  refine returnsInHanded_of_cond (C := Try.checked) (s := Rows.OpenSpec.upto Rows.linesAllSpec) (k := Rows.uptoSmall) rfl own started (by kernel_rfl) Try.func3
    (OpenSpec.witness (enc := enc) (C := Try.checked) (s := Rows.OpenSpec.upto Rows.linesAllSpec) (k := Rows.uptoSmall) rfl false ⟨#[], #[.slice none 0 0, .int .i64 0], []⟩ 8 (by kernel_rfl) (by kernel_rfl) (by kernel_rfl)
      (x := ([.nil, .lit (.int .i64 0)], [], [])) (by kernel_rfl) rfl (by kernel_rfl)) ?_
  intro W base args ds gs before hval hW _ hk _
  exact contract H enc W base args ds gs before hval hW hk
theorem proved : Rows.LinesAllUptoSaid :=
  OpenClaim.holds_of_cond 3 Try.f3 rfl rfl rfl rfl rfl rfl rfl ⟨rfl, rfl, rfl, rfl, rfl⟩ rfl rfl rfl rfl rfl (by kernel_rfl) Try.func3 (by kernel_rfl)
    (of_decide_eq_true (by kernel_rfl)) (by unfold Func.isWrapper; first | (rw [if_pos (by decide +kernel)]; kernel_rfl) | (rw [if_neg (by decide +kernel)]; exact ⟨rfl, rfl⟩))
    (fun os started H enc _ F => lifted os started H enc F)
#print axioms proved
end Go.Proofs.Ytogfaahdbecdnaa.linesAll
namespace Go.Proofs.Ytogfaahdbecdnaa
/-- The row, under a short name, for the claim. -/
theorem linesAllUpto_holds : Rows.LinesAllUptoSaid := linesAll.proved
end Go.Proofs.Ytogfaahdbecdnaa
