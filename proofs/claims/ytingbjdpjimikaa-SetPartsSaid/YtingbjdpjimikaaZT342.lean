/-
  Texts of this session, one behind the other: FBasex1, FBasex5, T0, T1, FBasex3, T2, T3, V0, T4.
-/
import Derived.Test.YtingbjdpjimikaaZT341
set_option linter.unusedSimpArgs false
set_option linter.unusedVariables false
namespace Go.Proofs.Ytingbjdpjimikaa.FBase
open Go.RowKit Go.Proofs.YtingbjdpjimikaaW.PrintWords Go.Proofs.YtingbjdpjimikaaW.PrintLast Go.Proofs.YtingbjdpjimikaaW.PrintMore
attribute [local go_sem] max2_int min2_int max_two min_two max_three min_three max_four min_four   -- for this text's walks alone
theorem eqA39 (d : Nat) (w : World) (x0 y0 : Int) (x1 y1 : Int) :
    (Op.equalIn (d + 2) 39 (.agg #[.int .i64 x0, .int .i64 x1]) (.agg #[.int .i64 y0, .int .i64 y1])).run Try.prog w = .ok (x0 == y0 && (x1 == y1)) w := by
  refine eqA_of Try.underlying39 (by kernel_rfl) ?_
  refine eqf_cons (by rfl) (by go_simp; rfl) (by go_simp; rfl) (by go_simp) ?_
  exact eqf_last (by rfl) (by go_simp; rfl) (by go_simp; rfl) (by go_simp)
end Go.Proofs.Ytingbjdpjimikaa.FBase
namespace Go.Proofs.Ytingbjdpjimikaa.FBase
open Go.RowKit Go.Proofs.YtingbjdpjimikaaW.PrintWords Go.Proofs.YtingbjdpjimikaaW.PrintLast Go.Proofs.YtingbjdpjimikaaW.PrintMore
attribute [local go_sem] max2_int min2_int max_two min_two max_three min_three max_four min_four   -- for this text's walks alone
attribute [local go_sem high] eqA39
def colophonref17_Copy.f (l0 : List (S39)) : Option ((List (S39))) := if ([] : List (S39)).length + l0.length < 8796093022208 then (some (([] : List (S39)) ++ l0)) else (none)
set_option maxHeartbeats 8000000 in
set_option maxRecDepth 100000 in
theorem colophonref17_Copy.calls (A0 : Option Addr) (c0 : Nat) (l0 : List (S39)) (r : List (S39)) (w : World) (hr0 : Kd.C k39 w A0 l0.length l0) (hc0 : l0.length ≤ c0) (h : colophonref17_Copy.f l0 = some r) :
    Calls Try.prog 10 #[.slice A0 l0.length c0] w fun e w' => ∃ v0_ : Value, e = .returned (v0_) ∧ Kd.R k39 39 w' w.heap.size (fun _ => True) v0_ r ∧ Below w.heap.size w w' := by
  have HR0 := Aside0.mk hr0
  have HC0 := Aside0.mk hc0
  clear hr0 hc0
  have HB := Aside0.mk (Below.refl w.heap.size w)
  have H : (if ([] : List (S39)).length + l0.length < 8796093022208 then (some (([] : List (S39)) ++ l0)) else (none)) = some r := h
  clear h
  by_cases c2 : ([] : List (S39)).length + l0.length < 8796093022208
  · rw [if_pos c2] at H
    have LMc2 := Aside0.mk c2
    clear c2
    obtain ⟨y168, hy168⟩ : ∃ y_ : List (S39), y_ = (([] : List (S39)) ++ l0) := ⟨_, rfl⟩
    replace H : (some y168) = some r := by first | (rw [hy168]; with_reducible exact H) | (have H2_ := (Option.bind_some _ _).symm.trans H; rw [hy168]; with_reducible exact H2_) | (have H2_ := (Option.bind_some _ _).symm.trans H; with_reducible exact H2_) | with_reducible exact H | (rw [hy168]; exact H) | exact H
    have Ny168 := Aside0.mk hy168
    clear hy168
    obtain rfl := Option.some.inj H
    go_enter Try.func10, Try.ntmps10
    go_wp2_with (first | ((with_reducible refine gate_builtin (b := .append) (xs := #[.tmp 4, .tmp 5]) rfl ?_); at_builtin; refine Kd.R_append_rows k39 (w0 := w) w.heap.size rfl (.tmp 4) (.tmp 5) 22 39 (.agg #[(.int .i64 0), (.int .i64 0)]) 16 rfl Try.underlying22 info39 rfl (by decide) (by omega) (.slice none 0 0) ([] : List (S39)) l0 _ _ _ (fun _ => True) (fun _ => False) rfl rfl ?aO ?aR (fun _ _ h => h) (fun _ h => h.elim) ?aF ?aB ?aS ?aL ?_; (case aR => repeat (first | exact HR0.out | (with_reducible refine Kd.C_alloc ?_ _) | (with_reducible refine Kd.C_drewN ?_ _) | (with_reducible refine Kd.C_drew ?_))); (case aB => exact (by repeat (first | (with_reducible first | exact HB.out | apply below_alloc | apply pw_below_drewN | apply below_drew1) | exact HB.out))); (case aF => exact (fun _ _ => trivial)); (case aO => exact ((Kd.R_nil _ _ _ _ (fun _ => True)))); (case aS => exact (below_size (by repeat (first | (with_reducible first | exact HB.out | apply below_alloc | apply pw_below_drewN | apply below_drew1) | exact HB.out)))); (case aL => have := LMc2.out; omega); intro v169 w3 ho hb hg hat; rw [← Ny168.out] at ho; have n0_ := Aside0.mk (hb); have n1_ := Aside0.mk (ho); clear HB; have HB := n0_; have HO170 := n1_; clear n0_ n1_; clear ho hb hg hat))
    go_ret
    exact ⟨_, by first | rfl | (simp [errW_none, errW_some] <;> rfl) | (simp [*, errW_none, errW_some] <;> rfl), by (with_reducible repeat (first | apply Kd.R_alloc | apply Kd.R_drewN | apply Kd.R_drew)); exact HO170.out, by repeat (first | (with_reducible first | exact HB.out | apply below_alloc | apply pw_below_drewN | apply below_drew1) | exact HB.out)⟩
  · rw [if_neg c2] at H
    exact absurd H (by simp)
def colophonref17_Same.l0 : Nat → List (S39) → List (S39) → Int → Option (Bool)
  | 0, _, _, _ => none
  | k + 1, x0, x1, x5 => if x5 < (x0.length : Int) then (if 0 ≤ x5 then (if x5 < (x1.length : Int) then (if (!(((rd_T39 x0 x5).f0) == ((rd_T39 x1 x5).f0)) || (!(((rd_T39 x0 x5).f1) == ((rd_T39 x1 x5).f1)))) = true then (some false) else (colophonref17_Same.l0 k x0 x1 (wrap64 (x5 + 1)))) else (none)) else (none)) else (some true)
def colophonref17_Same.f (k : Nat) (l0 : List (S39)) (l1 : List (S39)) : Option (Bool) := if (l0.length : Int) = (l1.length : Int) then (colophonref17_Same.l0 k l0 l1 0) else (some false)
theorem colophonref17_Same.mono_l : ∀ k, (∀ y0 y1 y2, LeO (colophonref17_Same.l0 k y0 y1 y2) (colophonref17_Same.l0 (k + 1) y0 y1 y2))
  | 0 => fun _ _ _ r h => by simp [colophonref17_Same.l0] at h
  | k + 1 => by
    have ih0 := colophonref17_Same.mono_l k
    · intro y0 y1 y2
      unfold colophonref17_Same.l0
      repeat' first
      | (with_reducible exact ih0 _ _ _)
      | (with_reducible exact LeO.refl _)
      | (with_reducible exact LeO.none _)
      | (with_reducible refine LeO.ite ?_ ?_)
      | (with_reducible refine LeO.bind ?_ (fun _ => ?_))
      | exact ih0 _ _ _
      | exact LeO.none _
      | refine LeO.ite ?_ ?_
      | refine LeO.bind ?_ (fun _ => ?_)
theorem colophonref17_Same.mono : ∀ a0 a1 k, LeO (colophonref17_Same.f k a0 a1) (colophonref17_Same.f (k + 1) a0 a1) := by
  intro a0 a1 k
  have ih0 := colophonref17_Same.mono_l k
  unfold colophonref17_Same.f
  repeat' first
      | (with_reducible exact ih0 _ _ _)
      | (with_reducible exact LeO.refl _)
      | (with_reducible exact LeO.none _)
      | (with_reducible refine LeO.ite ?_ ?_)
      | (with_reducible refine LeO.bind ?_ (fun _ => ?_))
      | exact ih0 _ _ _
      | exact LeO.none _
      | refine LeO.ite ?_ ?_
      | refine LeO.bind ?_ (fun _ => ?_)
set_option maxHeartbeats 8000000 in
set_option maxRecDepth 100000 in
theorem colophonref17_Same.calls (k : Nat) (A0 : Option Addr) (c0 : Nat) (l0 : List (S39)) (A1 : Option Addr) (c1 : Nat) (l1 : List (S39)) (r : Bool) (w : World) (hr0 : Kd.C k39 w A0 l0.length l0) (hc0 : l0.length ≤ c0) (hr1 : Kd.C k39 w A1 l1.length l1) (hc1 : l1.length ≤ c1) (h : colophonref17_Same.f k l0 l1 = some r) :
    Calls Try.prog 13 #[.slice A0 l0.length c0, .slice A1 l1.length c1] w fun e w' => e = .returned (.bool r) ∧ Drawn0 w w' := by
  have hu39 := Try.underlying39
  have HR0 := Aside0.mk hr0
  have HC0 := Aside0.mk hc0
  clear hr0 hc0
  have HR1 := Aside0.mk hr1
  have HC1 := Aside0.mk hc1
  clear hr1 hc1
  have H : (if (l0.length : Int) = (l1.length : Int) then (colophonref17_Same.l0 k l0 l1 0) else (some false)) = some r := h
  clear h
  by_cases c3 : (l0.length : Int) = (l1.length : Int)
  · rw [if_pos c3] at H
    have c3b0 : ((l0.length : Int) == (l1.length : Int)) = true := beq_iff_eq.mpr c3
    have c3b1 : ((l0.length : Int) != (l1.length : Int)) = false := bne_eq_false_iff_eq.mpr c3
    have c3b2 : (l0.length == l1.length) = true := by first | simpa using c3 | (simp at c3 ⊢; omega)
    clear c3
    have H' := Aside0.mk H
    clear H
    go_enter Try.func13, Try.ntmps13
    go_wp2
    repeat (go_quiet (fail); try go_wp2)
    go_loopg [5] k (fun kq v5 w' => ∃ (x5_1 : Int), v5 = .int .i64 x5_1 ∧ Aside0 (colophonref17_Same.l0 kq l0 l1 x5_1 = some r) ∧ Aside0 (kq ≤ k) ∧ Drawn0 w w')
    case atStart => exact ⟨(0), (by first | rfl | (simp; done) | (simp [*]; done)), H', ⟨Nat.le_refl _⟩, by repeat (first | exact Drawn0.refl _ | apply Drawn0.step)⟩
    case round =>
      clear H'
      try clear c1
      try clear p2
      try clear c3
      try clear c3b0
      try clear c3b1
      try clear c3b2
      obtain ⟨x5_1, rfl, HA, HK1, ⟨m1, rfl⟩⟩ := hrel
      cases gk with
      | zero => exact absurd HA.out (by simp [colophonref17_Same.l0])
      | succ k1 =>
        have H := HA.out
        clear HA
        simp only [colophonref17_Same.l0] at H
        by_cases c4 : x5_1 < (l0.length : Int)
        · rw [if_pos c4] at H
          have c4b0 : decide (x5_1 < (l0.length : Int)) = true := decide_eq_true c4
          clear c4
          by_cases c5 : 0 ≤ x5_1
          · rw [if_pos c5] at H
            have c5b0 : decide (0 ≤ x5_1) = true := decide_eq_true c5
            clear c5
            by_cases c6 : x5_1 < (l1.length : Int)
            · rw [if_pos c6] at H
              have c6b0 : decide (x5_1 < (l1.length : Int)) = true := decide_eq_true c6
              clear c6
              by_cases c7 : (!(((rd_T39 l0 x5_1).f0) == ((rd_T39 l1 x5_1).f0)) || (!(((rd_T39 l0 x5_1).f1) == ((rd_T39 l1 x5_1).f1)))) = true
              · rw [if_pos c7] at H
                have c7b0 : (!(((rd_T39 l0 x5_1).f0) == ((rd_T39 l1 x5_1).f0)) || (!(((rd_T39 l0 x5_1).f1) == ((rd_T39 l1 x5_1).f1)))) = true := c7
                clear c7
                obtain rfl := Option.some.inj H
                have p171 : 0 ≤ (x5_1 : Int) := of_decide_eq_true (by first | (with_reducible assumption) | assumption)
                have q171 : x5_1 < (l0.length : Int) := of_decide_eq_true (by first | (with_reducible assumption) | assumption)
                obtain ⟨ad171, e171, hx171_0, hx171_1⟩ := at_T39 HR0.out x5_1 p171 q171
                cases e171
                replace p171 := eq_true p171
                replace q171 := eq_true q171
                have p172 : 0 ≤ (x5_1 : Int) := of_decide_eq_true (by first | (with_reducible assumption) | assumption)
                have q172 : x5_1 < (l1.length : Int) := of_decide_eq_true (by first | (with_reducible assumption) | assumption)
                obtain ⟨ad172, e172, hx172_0, hx172_1⟩ := at_T39 HR1.out x5_1 p172 q172
                cases e172
                replace p172 := eq_true p172
                replace q172 := eq_true q172
                go_wp2
                repeat (go_quiet (fail); try go_wp2)
                go_ret
                exact ⟨by first | rfl | (simp; done) | (simp [*]; done), by repeat (first | exact Drawn0.refl _ | apply Drawn0.step)⟩
              · rw [if_neg c7] at H
                have c7b0 : (!(((rd_T39 l0 x5_1).f0) == ((rd_T39 l1 x5_1).f0)) || (!(((rd_T39 l0 x5_1).f1) == ((rd_T39 l1 x5_1).f1)))) = false := by simpa using c7
                clear c7
                have H' := Aside0.mk H
                clear H
                have p171 : 0 ≤ (x5_1 : Int) := of_decide_eq_true (by first | (with_reducible assumption) | assumption)
                have q171 : x5_1 < (l0.length : Int) := of_decide_eq_true (by first | (with_reducible assumption) | assumption)
                obtain ⟨ad171, e171, hx171_0, hx171_1⟩ := at_T39 HR0.out x5_1 p171 q171
                cases e171
                replace p171 := eq_true p171
                replace q171 := eq_true q171
                have p172 : 0 ≤ (x5_1 : Int) := of_decide_eq_true (by first | (with_reducible assumption) | assumption)
                have q172 : x5_1 < (l1.length : Int) := of_decide_eq_true (by first | (with_reducible assumption) | assumption)
                obtain ⟨ad172, e172, hx172_0, hx172_1⟩ := at_T39 HR1.out x5_1 p172 q172
                cases e172
                replace p172 := eq_true p172
                replace q172 := eq_true q172
                go_wp2
                repeat (go_quiet (fail); try go_wp2)
                go_roundg k1
                case measure => have := HK1.out; omega
                case rel => exact ⟨(wrap64 (x5_1 + 1)), (by first | rfl | (simp; done) | (simp [*]; done)), H', ⟨by have := HK1.out; omega⟩, by repeat (first | exact Drawn0.refl _ | apply Drawn0.step)⟩
            · rw [if_neg c6] at H
              exact absurd H (by simp)
          · rw [if_neg c5] at H
            exact absurd H (by simp)
        · rw [if_neg c4] at H
          have c4b0 : decide (x5_1 < (l0.length : Int)) = false := decide_eq_false c4
          clear c4
          obtain rfl := Option.some.inj H
          go_wp2
          repeat (go_quiet (fail); try go_wp2)
          go_ret
          exact ⟨by first | rfl | (simp; done) | (simp [*]; done), by repeat (first | exact Drawn0.refl _ | apply Drawn0.step)⟩
  · rw [if_neg c3] at H
    have c3b0 : ((l0.length : Int) == (l1.length : Int)) = false := beq_eq_false_iff_ne.mpr c3
    have c3b1 : ((l0.length : Int) != (l1.length : Int)) = true := bne_iff_ne.mpr c3
    have c3b2 : (l0.length == l1.length) = false := by first | simpa using c3 | (simp at c3 ⊢; omega)
    obtain rfl := Option.some.inj H
    go_enter Try.func13, Try.ntmps13
    go_wp2
    repeat (go_quiet (fail); try go_wp2)
    go_ret
    exact ⟨by first | rfl | (simp; done) | (simp [*]; done), by repeat (first | exact Drawn0.refl _ | apply Drawn0.step)⟩
mutual
def colophonlaw17_is.j0 : Nat → List (S39) → List Int → Bool → Option (Bool)
  | 0, _, _, _ => none
  | k + 1, x0, x2, x17 => if x17 = true then (some false) else (colophonlaw17_is.l0 k x0 x2 0)
def colophonlaw17_is.l0 : Nat → List (S39) → List Int → Int → Option (Bool)
  | 0, _, _, _ => none
  | k + 1, x0, x2, x7 => if x7 < (x0.length : Int) then (if 0 ≤ x7 then (if 0 ≤ (wrap64 (2 * x7)) then (if (wrap64 (2 * x7)) < (x2.length : Int) then (if 0 ≤ (wrap64 ((wrap64 (2 * x7)) + 1)) then (if (wrap64 ((wrap64 (2 * x7)) + 1)) < (x2.length : Int) then (if (!(((rd_T39 x0 x7).f0) == (rd x2 (wrap64 (2 * x7)))) || (!(((rd_T39 x0 x7).f1) == (rd x2 (wrap64 ((wrap64 (2 * x7)) + 1)))))) = true then (some false) else (colophonlaw17_is.l0 k x0 x2 (wrap64 (x7 + 1)))) else (none)) else (none)) else (none)) else (none)) else (none)) else (some true)
end
def colophonlaw17_is.f (k : Nat) (l0 : List (S39)) (a1 : Int) (l2 : List Int) : Option (Bool) := if a1 = 0 then (colophonlaw17_is.j0 k l0 l2 ((wrap64 (2 * (l0.length : Int))) != (l2.length : Int))) else (colophonlaw17_is.j0 k l0 l2 true)
theorem colophonlaw17_is.mono_l : ∀ k, (∀ y0 y1 y2, LeO (colophonlaw17_is.j0 k y0 y1 y2) (colophonlaw17_is.j0 (k + 1) y0 y1 y2)) ∧ (∀ y0 y1 y2, LeO (colophonlaw17_is.l0 k y0 y1 y2) (colophonlaw17_is.l0 (k + 1) y0 y1 y2))
  | 0 => ⟨fun _ _ _ r h => by simp [colophonlaw17_is.j0] at h, fun _ _ _ r h => by simp [colophonlaw17_is.l0] at h⟩
  | k + 1 => by
    obtain ⟨ih0, ih1⟩ := colophonlaw17_is.mono_l k
    refine ⟨?_, ?_⟩
    · intro y0 y1 y2
      unfold colophonlaw17_is.j0
      repeat' first
      | (with_reducible exact ih0 _ _ _)
      | (with_reducible exact ih1 _ _ _)
      | (with_reducible exact LeO.refl _)
      | (with_reducible exact LeO.none _)
      | (with_reducible refine LeO.ite ?_ ?_)
      | (with_reducible refine LeO.bind ?_ (fun _ => ?_))
      | exact ih0 _ _ _
      | exact ih1 _ _ _
      | exact LeO.none _
      | refine LeO.ite ?_ ?_
      | refine LeO.bind ?_ (fun _ => ?_)
    · intro y0 y1 y2
      unfold colophonlaw17_is.l0
      repeat' first
      | (with_reducible exact ih0 _ _ _)
      | (with_reducible exact ih1 _ _ _)
      | (with_reducible exact LeO.refl _)
      | (with_reducible exact LeO.none _)
      | (with_reducible refine LeO.ite ?_ ?_)
      | (with_reducible refine LeO.bind ?_ (fun _ => ?_))
      | exact ih0 _ _ _
      | exact ih1 _ _ _
      | exact LeO.none _
      | refine LeO.ite ?_ ?_
      | refine LeO.bind ?_ (fun _ => ?_)
theorem colophonlaw17_is.mono : ∀ a0 a1 a2 k, LeO (colophonlaw17_is.f k a0 a1 a2) (colophonlaw17_is.f (k + 1) a0 a1 a2) := by
  intro a0 a1 a2 k
  obtain ⟨ih0, ih1⟩ := colophonlaw17_is.mono_l k
  unfold colophonlaw17_is.f
  repeat' first
      | (with_reducible exact ih0 _ _ _)
      | (with_reducible exact ih1 _ _ _)
      | (with_reducible exact LeO.refl _)
      | (with_reducible exact LeO.none _)
      | (with_reducible refine LeO.ite ?_ ?_)
      | (with_reducible refine LeO.bind ?_ (fun _ => ?_))
      | exact ih0 _ _ _
      | exact ih1 _ _ _
      | exact LeO.none _
      | refine LeO.ite ?_ ?_
      | refine LeO.bind ?_ (fun _ => ?_)
set_option maxHeartbeats 8000000 in
set_option maxRecDepth 100000 in
theorem colophonlaw17_is.calls (k : Nat) (A0 : Option Addr) (c0 : Nat) (l0 : List (S39)) (a1 : Int) (A2 : Option Addr) (c2 : Nat) (l2 : List Int) (r : Bool) (w : World) (hr0 : Kd.C k39 w A0 l0.length l0) (hc0 : l0.length ≤ c0) (hr2 : Kd.C (Kd.int .i64) w A2 l2.length l2) (hc2 : l2.length ≤ c2) (h : colophonlaw17_is.f k l0 a1 l2 = some r) :
    Calls Try.prog 34 #[.slice A0 l0.length c0, .int .i64 a1, .slice A2 l2.length c2] w fun e w' => e = .returned (.bool r) ∧ Drawn0 w w' := by
  have hu39 := Try.underlying39
  have HR0 := Aside0.mk hr0
  have HC0 := Aside0.mk hc0
  clear hr0 hc0
  have HR2 := Aside0.mk hr2
  have HC2 := Aside0.mk hc2
  clear hr2 hc2
  have H : (if a1 = 0 then (colophonlaw17_is.j0 k l0 l2 ((wrap64 (2 * (l0.length : Int))) != (l2.length : Int))) else (colophonlaw17_is.j0 k l0 l2 true)) = some r := h
  clear h
  have HC4 := Aside0.mk H
  clear H
  go_enter Try.func34, Try.ntmps34
  go_upto_region 1 with (fail)
  repeat (go_quiet (fail); go_upto_region 1 with (fail))
  go_cut [17] (fun v17 wc => ∃ (kq : Nat) (x17_3 : Bool), v17 = .bool x17_3 ∧ Aside0 (colophonlaw17_is.j0 kq l0 l2 x17_3 = some r) ∧ Aside0 (kq ≤ k) ∧ Drawn0 w wc)
  case first =>
    have H := HC4.out
    clear HC4
    by_cases c5 : a1 = 0
    · rw [if_pos c5] at H
      have c5b0 : (a1 == 0) = true := beq_iff_eq.mpr c5
      have c5b1 : (a1 != 0) = false := bne_eq_false_iff_eq.mpr c5
      clear c5
      (first | rw [c5b0] | (simp only [i64_w, i32_w]; rw [c5b0]) | skip)
      have H' := Aside0.mk H
      clear H
      go_wp2
      repeat (go_quiet (fail); try go_wp2)
      go_meet
      case rel => exact ⟨_, (((wrap64 (2 * (l0.length : Int))) != (l2.length : Int))), (by first | rfl | (simp; done) | (simp [*]; done)), H', ⟨by first | omega | exact Nat.le_refl _⟩, by repeat (first | exact Drawn0.refl _ | apply Drawn0.step)⟩
    · rw [if_neg c5] at H
      have c5b0 : (a1 == 0) = false := beq_eq_false_iff_ne.mpr c5
      have c5b1 : (a1 != 0) = true := bne_iff_ne.mpr c5
      (first | rw [c5b0] | (simp only [i64_w, i32_w]; rw [c5b0]) | skip)
      have H' := Aside0.mk H
      clear H
      go_wp2
      repeat (go_quiet (fail); try go_wp2)
      go_meet
      case rel => exact ⟨_, (true), (by first | rfl | (simp; done) | (simp [*]; done)), H', ⟨by first | omega | exact Nat.le_refl _⟩, by repeat (first | exact Drawn0.refl _ | apply Drawn0.step)⟩
  case rest =>
    clear HC4
    try clear c2
    try clear p2
    try clear c3
    try clear c5
    try clear c5b0
    try clear c5b1
    obtain ⟨kq, x17_3, rfl, HA, HJ3, ⟨mc3, rfl⟩⟩ := hcut
    cases kq with
    | zero => exact absurd HA.out (by simp [colophonlaw17_is.j0])
    | succ kj3 =>
      have H := HA.out
      clear HA
      simp only [colophonlaw17_is.j0] at H
      by_cases c6 : x17_3 = true
      · subst c6
        have H1 : (some false) = some r := by rw [if_pos rfl] at H; exact H
        clear H
        have H := H1
        clear H1
        obtain rfl := Option.some.inj H
        go_wp2
        repeat (go_quiet (fail); try go_wp2)
        go_ret
        exact ⟨by first | rfl | (simp; done) | (simp [*]; done), by repeat (first | exact Drawn0.refl _ | apply Drawn0.step)⟩
      · replace c6 := Bool.eq_false_iff.mpr c6
        subst c6
        have H1 : (colophonlaw17_is.l0 kj3 l0 l2 0) = some r := by rw [if_neg (show ¬ (false = true) by decide)] at H; exact H
        clear H
        have H := H1
        clear H1
        have H' := Aside0.mk H
        clear H
        go_wp2
        repeat (go_quiet (fail); try go_wp2)
        go_loopg [7] kj3 (fun kq v7 w' => ∃ (x7_2 : Int), v7 = .int .i64 x7_2 ∧ Aside0 (colophonlaw17_is.l0 kq l0 l2 x7_2 = some r) ∧ Aside0 (kq ≤ kj3) ∧ Drawn0 w w')
        case atStart => exact ⟨(0), (by first | rfl | (simp; done) | (simp [*]; done)), H', ⟨Nat.le_refl _⟩, by repeat (first | exact Drawn0.refl _ | apply Drawn0.step)⟩
        case round =>
          clear H'
          try clear c2
          try clear p2
          try clear c3
          try clear c5
          try clear c5b0
          try clear c5b1
          try clear c6
          try clear p6
          try clear p2
          obtain ⟨x7_2, rfl, HA, HK2, ⟨m2, rfl⟩⟩ := hrel
          cases gk with
          | zero => exact absurd HA.out (by simp [colophonlaw17_is.l0])
          | succ k2 =>
            have H := HA.out
            clear HA
            simp only [colophonlaw17_is.l0] at H
            by_cases c7 : x7_2 < (l0.length : Int)
            · rw [if_pos c7] at H
              have c7b0 : decide (x7_2 < (l0.length : Int)) = true := decide_eq_true c7
              clear c7
              by_cases c8 : 0 ≤ x7_2
              · rw [if_pos c8] at H
                have c8b0 : decide (0 ≤ x7_2) = true := decide_eq_true c8
                clear c8
                obtain ⟨ji9, hji9⟩ : ∃ j_ : Int, (wrap64 (2 * x7_2)) = j_ := ⟨_, rfl⟩
                replace H : (if 0 ≤ (ji9) then (if (ji9) < (l2.length : Int) then (if 0 ≤ (wrap64 ((ji9) + 1)) then (if (wrap64 ((ji9) + 1)) < (l2.length : Int) then (if (!(((rd_T39 l0 x7_2).f0) == (rd l2 (ji9))) || (!(((rd_T39 l0 x7_2).f1) == (rd l2 (wrap64 ((ji9) + 1)))))) = true then (some false) else (colophonlaw17_is.l0 k2 l0 l2 (wrap64 (x7_2 + 1)))) else (none)) else (none)) else (none)) else (none)) = some r := by first | (rw [hji9] at H; exact H) | (simp only [hji9] at H ⊢; exact H)
                have hji9w : (IntKind.i64.wrap (2 * x7_2)) = ji9 := (i64_w _).trans hji9
                by_cases c10 : 0 ≤ (ji9)
                · rw [if_pos c10] at H
                  have c10b0 : decide (0 ≤ (ji9)) = true := decide_eq_true c10
                  clear c10
                  by_cases c11 : (ji9) < (l2.length : Int)
                  · rw [if_pos c11] at H
                    have c11b0 : decide ((ji9) < (l2.length : Int)) = true := decide_eq_true c11
                    clear c11
                    obtain ⟨ji12, hji12⟩ : ∃ j_ : Int, (wrap64 ((ji9) + 1)) = j_ := ⟨_, rfl⟩
                    replace H : (if 0 ≤ (ji12) then (if (ji12) < (l2.length : Int) then (if (!(((rd_T39 l0 x7_2).f0) == (rd l2 (ji9))) || (!(((rd_T39 l0 x7_2).f1) == (rd l2 (ji12))))) = true then (some false) else (colophonlaw17_is.l0 k2 l0 l2 (wrap64 (x7_2 + 1)))) else (none)) else (none)) = some r := by first | (rw [hji12] at H; exact H) | (simp only [hji12] at H ⊢; exact H)
                    have hji12w : (IntKind.i64.wrap ((ji9) + 1)) = ji12 := (i64_w _).trans hji12
                    by_cases c13 : 0 ≤ (ji12)
                    · rw [if_pos c13] at H
                      have c13b0 : decide (0 ≤ (ji12)) = true := decide_eq_true c13
                      clear c13
                      by_cases c14 : (ji12) < (l2.length : Int)
                      · rw [if_pos c14] at H
                        have c14b0 : decide ((ji12) < (l2.length : Int)) = true := decide_eq_true c14
                        clear c14
                        by_cases c15 : (!(((rd_T39 l0 x7_2).f0) == (rd l2 (ji9))) || (!(((rd_T39 l0 x7_2).f1) == (rd l2 (ji12))))) = true
                        · rw [if_pos c15] at H
                          have c15b0 : (!(((rd_T39 l0 x7_2).f0) == (rd l2 (ji9))) || (!(((rd_T39 l0 x7_2).f1) == (rd l2 (ji12))))) = true := c15
                          clear c15
                          obtain rfl := Option.some.inj H
                          have p173 : 0 ≤ (x7_2 : Int) := of_decide_eq_true (by first | (with_reducible assumption) | assumption)
                          have q173 : x7_2 < (l0.length : Int) := of_decide_eq_true (by first | (with_reducible assumption) | assumption)
                          obtain ⟨ad173, e173, hx173_0, hx173_1⟩ := at_T39 HR0.out x7_2 p173 q173
                          cases e173
                          replace p173 := eq_true p173
                          replace q173 := eq_true q173
                          have p174 : 0 ≤ ((ji9) : Int) := of_decide_eq_true (by first | (with_reducible assumption) | assumption)
                          have q174 : (ji9) < (l2.length : Int) := of_decide_eq_true (by first | (with_reducible assumption) | assumption)
                          obtain ⟨ad174, e174, hx174_0⟩ := Kd.at_int HR2.out (ji9) p174 q174
                          cases e174
                          replace p174 := eq_true p174
                          replace q174 := eq_true q174
                          have p175 : 0 ≤ ((ji12) : Int) := of_decide_eq_true (by first | (with_reducible assumption) | assumption)
                          have q175 : (ji12) < (l2.length : Int) := of_decide_eq_true (by first | (with_reducible assumption) | assumption)
                          obtain ⟨ad175, e175, hx175_0⟩ := Kd.at_int HR2.out (ji12) p175 q175
                          obtain rfl : ad174 = ad175 := (by injection e175)
                          replace p175 := eq_true p175
                          replace q175 := eq_true q175
                          go_wp2
                          repeat (go_quiet (fail); try go_wp2)
                          go_ret
                          exact ⟨by first | rfl | (simp; done) | (simp only [← hji9, ← hji12] <;> (first | rfl | simp)) | (simp [*]; done), by repeat (first | exact Drawn0.refl _ | apply Drawn0.step)⟩
                        · rw [if_neg c15] at H
                          have c15b0 : (!(((rd_T39 l0 x7_2).f0) == (rd l2 (ji9))) || (!(((rd_T39 l0 x7_2).f1) == (rd l2 (ji12))))) = false := by simpa using c15
                          clear c15
                          have H' := Aside0.mk H
                          clear H
                          have p173 : 0 ≤ (x7_2 : Int) := of_decide_eq_true (by first | (with_reducible assumption) | assumption)
                          have q173 : x7_2 < (l0.length : Int) := of_decide_eq_true (by first | (with_reducible assumption) | assumption)
                          obtain ⟨ad173, e173, hx173_0, hx173_1⟩ := at_T39 HR0.out x7_2 p173 q173
                          cases e173
                          replace p173 := eq_true p173
                          replace q173 := eq_true q173
                          have p174 : 0 ≤ ((ji9) : Int) := of_decide_eq_true (by first | (with_reducible assumption) | assumption)
                          have q174 : (ji9) < (l2.length : Int) := of_decide_eq_true (by first | (with_reducible assumption) | assumption)
                          obtain ⟨ad174, e174, hx174_0⟩ := Kd.at_int HR2.out (ji9) p174 q174
                          cases e174
                          replace p174 := eq_true p174
                          replace q174 := eq_true q174
                          have p175 : 0 ≤ ((ji12) : Int) := of_decide_eq_true (by first | (with_reducible assumption) | assumption)
                          have q175 : (ji12) < (l2.length : Int) := of_decide_eq_true (by first | (with_reducible assumption) | assumption)
                          obtain ⟨ad175, e175, hx175_0⟩ := Kd.at_int HR2.out (ji12) p175 q175
                          obtain rfl : ad174 = ad175 := (by injection e175)
                          replace p175 := eq_true p175
                          replace q175 := eq_true q175
                          go_wp2
                          repeat (go_quiet (fail); try go_wp2)
                          go_roundg k2
                          case measure => have := HJ3.out; have := HK2.out; omega
                          case rel => exact ⟨(wrap64 (x7_2 + 1)), (by first | rfl | (simp; done) | (simp [*]; done)), H', ⟨by have := HJ3.out; have := HK2.out; omega⟩, by repeat (first | exact Drawn0.refl _ | apply Drawn0.step)⟩
                      · rw [if_neg c14] at H
                        exact absurd H (by simp)
                    · rw [if_neg c13] at H
                      exact absurd H (by simp)
                  · rw [if_neg c11] at H
                    exact absurd H (by simp)
                · rw [if_neg c10] at H
                  exact absurd H (by simp)
              · rw [if_neg c8] at H
                exact absurd H (by simp)
            · rw [if_neg c7] at H
              have c7b0 : decide (x7_2 < (l0.length : Int)) = false := decide_eq_false c7
              clear c7
              obtain rfl := Option.some.inj H
              go_wp2
              repeat (go_quiet (fail); try go_wp2)
              go_ret
              exact ⟨by first | rfl | (simp; done) | (simp [*]; done), by repeat (first | exact Drawn0.refl _ | apply Drawn0.step)⟩
def colophonlaw17_set.f (a0 : Int) (a1 : Int) : Option ((List (S39))) := some (([(⟨a0, a1⟩ : S39)] : List (S39)))
set_option maxHeartbeats 8000000 in
set_option maxRecDepth 100000 in
theorem colophonlaw17_set.calls (a0 : Int) (a1 : Int) (r : List (S39)) (w : World) (h : colophonlaw17_set.f a0 a1 = some r) :
    Calls Try.prog 33 #[.int .i64 a0, .int .i64 a1] w fun e w' => ∃ v0_ : Value, e = .returned (v0_) ∧ Kd.R k39 39 w' w.heap.size (fun _ => True) v0_ r ∧ Below w.heap.size w w' := by
  have hu39 := Try.underlying39
  have HB := Aside0.mk (Below.refl w.heap.size w)
  have H : (some (([(⟨a0, a1⟩ : S39)] : List (S39)))) = some r := h
  clear h
  obtain ⟨y176, hy176⟩ : ∃ y_ : List (S39), y_ = (([(⟨a0, a1⟩ : S39)] : List (S39))) := ⟨_, rfl⟩
  replace H : (some y176) = some r := by first | (rw [hy176]; with_reducible exact H) | (have H2_ := (Option.bind_some _ _).symm.trans H; rw [hy176]; with_reducible exact H2_) | (have H2_ := (Option.bind_some _ _).symm.trans H; with_reducible exact H2_) | with_reducible exact H | (rw [hy176]; exact H) | exact H
  have Ny176 := Aside0.mk hy176
  clear hy176
  obtain rfl := Option.some.inj H
  go_enter Try.func33, Try.ntmps33
  go_wp2_with (first | ((with_reducible refine gate_dst (N := 8) rfl ?_); refine Kd.R_lit k39 _ 39 ?hg (N := 8) ?hd (xs := ([(⟨a0, a1⟩ : S39)] : List (S39))) (inner := [.int .i64 a0, .int .i64 a1]) (ok := fun _ => True) (okp := fun _ => True) ?hr ?hp (fun _ hk => hk) trivial (Below.refl _ _) (Nat.le_refl _) (by simp) ?_; (case hd => rfl); (case hg => rfl); (case hr => first | (go_simp; done) | (go_simp; rfl)); (case hp => exact (Reps.c2 (show Kd.M k39 _ _ _ (⟨a0, a1⟩ : S39) [.int .i64 a0, .int .i64 a1] from (k39_mkM _ _ _ (⟨a0, a1⟩ : S39) )) (Reps.none _ _))); intro v177 w3 ho4 hb hg_ hnew_; clear hg_ hnew_; (first | rw [← Ny176.out] at ho4 | (simp only [Int.reduceToNat] at ho4; rw [← Ny176.out] at ho4)); have n0_ := Aside0.mk (Kd.R_lower ho4 (below_size (by repeat (first | (with_reducible first | exact HB.out | apply below_alloc | apply pw_below_drewN | apply below_drew1) | exact HB.out)))); have n1_ := Aside0.mk (below_step (by repeat (first | (with_reducible first | exact HB.out | apply below_alloc | apply pw_below_drewN | apply below_drew1) | exact HB.out)) hb); clear HB; have HO178 := n0_; have HB := n1_; clear n0_ n1_; clear hb ho4))
  go_ret
  exact ⟨_, by first | rfl | (simp [errW_none, errW_some] <;> rfl) | (simp [*, errW_none, errW_some] <;> rfl), by (with_reducible repeat (first | apply Kd.R_alloc | apply Kd.R_drewN | apply Kd.R_drew)); exact HO178.out, by repeat (first | (with_reducible first | exact HB.out | apply below_alloc | apply pw_below_drewN | apply below_drew1) | exact HB.out)⟩
def colophonlaw17_span.f (a0 : Int) (a1 : Int) : Option (Int × Int) := some (a0, a1)
set_option maxHeartbeats 8000000 in
set_option maxRecDepth 100000 in
theorem colophonlaw17_span.calls (a0 : Int) (a1 : Int) (r1 : Int) (r2 : Int) (w : World) (h : colophonlaw17_span.f a0 a1 = some (r1, r2)) :
    Calls Try.prog 28 #[.int .i64 a0, .int .i64 a1] w fun e w' => e = .returned (.agg #[.int .i64 r1, .int .i64 r2]) ∧ Below w.heap.size w w' := by
  have hu39 := Try.underlying39
  have HB := Aside0.mk (Below.refl w.heap.size w)
  have H : (some (a0, a1)) = some (r1, r2) := h
  clear h
  simp only [Option.some.injEq, Prod.mk.injEq] at H
  obtain ⟨rfl, rfl⟩ := H
  go_enter Try.func28, Try.ntmps28
  go_wp2_with (first | ((with_reducible refine gate_dst (N := 4) rfl ?_); refine box_event ?hg (N := 4) ?hd (cs := #[.int .i64 0, .int .i64 0]) (t := 39) ?hr ?_; (case hd => rfl); (case hg => rfl); (case hr => first | (go_simp; done) | (go_simp; rfl)); intro gb179 hg w3 hbox hb; have n0_ := Aside0.mk (below_step (by repeat (first | (with_reducible first | exact HB.out | apply below_alloc | apply pw_below_drewN | apply below_drew1) | exact HB.out)) hb); have n1_ := Aside0.mk (hbox); have n2_ := Aside0.mk ((by rw [hg]; exact (below_size (by repeat (first | (with_reducible first | exact HB.out | apply below_alloc | apply pw_below_drewN | apply below_drew1) | exact HB.out))) : w.heap.size ≤ gb179)); have n3_ := Aside0.mk ((by rw [hg]; exact (below_size (by repeat (first | (with_reducible first | exact HB.out | apply below_alloc | apply pw_below_drewN | apply below_drew1) | exact HB.out))) : w.heap.size ≤ gb179)); clear HB; have HB := n0_; have BK179 := n1_; have GW179 := n2_; have GE179 := n3_; clear n0_ n1_ n2_ n3_; clear hb hbox hg; have hcz4_0 : w3.cell? ⟨gb179, 0, none⟩ = some (.int .i64 0) := (blk_cell BK179.out 0).trans rfl; have hcz4_1 : w3.cell? ⟨gb179, 1, none⟩ = some (.int .i64 0) := (blk_cell BK179.out 1).trans rfl; have hfz4_0 := blk_frozen BK179.out 0; have hfz4_1 := blk_frozen BK179.out 1))
  refine bodyPost_ret (results_cell_row rfl _ _ gb179 39 #[.int .i64 a0, .int .i64 a1] (0, 0) _ rfl (by (with_reducible repeat (first | refine blk_drewN ?_ _ | refine blk_drew ?_ | refine blk_alloc ?_ _)); refine blk_put (cs := #[.int .i64 a0, .int .i64 0]) ?_ 1 _ rfl; (with_reducible repeat (first | refine blk_drewN ?_ _ | refine blk_drew ?_ | refine blk_alloc ?_ _)); refine blk_put (cs := #[.int .i64 0, .int .i64 0]) ?_ 0 _ rfl; (with_reducible repeat (first | refine blk_drewN ?_ _ | refine blk_drew ?_ | refine blk_alloc ?_ _)); exact BK179.out) Try.underlying39 rfl (by kernel_rfl)) rfl ?_
  exact ⟨by first | rfl | (simp [errW_none, errW_some] <;> rfl) | (simp [*, errW_none, errW_some] <;> rfl), by repeat (first | (with_reducible first | exact HB.out | apply below_alloc | apply pw_below_drewN | apply below_drew1 | refine below_set ?_ GE179.out) | exact HB.out)⟩
def colophonlaw17_spoil.l0 : Nat → List (S39) → Int → Option ((List (S39)))
  | 0, _, _ => none
  | k + 1, x0, x2 => if x2 < (x0.length : Int) then (if 0 ≤ x2 then (colophonlaw17_spoil.l0 k (x0.set (x2 : Int).toNat (⟨0, 0⟩ : S39)) (wrap64 (x2 + 1))) else (none)) else (some x0)
def colophonlaw17_spoil.f (k : Nat) (l0 : List (S39)) : Option ((List (S39))) := colophonlaw17_spoil.l0 k l0 0
theorem colophonlaw17_spoil.mono_l : ∀ k, (∀ y0 y1, LeO (colophonlaw17_spoil.l0 k y0 y1) (colophonlaw17_spoil.l0 (k + 1) y0 y1))
  | 0 => fun _ _ r h => by simp [colophonlaw17_spoil.l0] at h
  | k + 1 => by
    have ih0 := colophonlaw17_spoil.mono_l k
    · intro y0 y1
      unfold colophonlaw17_spoil.l0
      repeat' first
      | (with_reducible exact ih0 _ _)
      | (with_reducible exact LeO.refl _)
      | (with_reducible exact LeO.none _)
      | (with_reducible refine LeO.ite ?_ ?_)
      | (with_reducible refine LeO.bind ?_ (fun _ => ?_))
      | exact ih0 _ _
      | exact LeO.none _
      | refine LeO.ite ?_ ?_
      | refine LeO.bind ?_ (fun _ => ?_)
theorem colophonlaw17_spoil.mono : ∀ a0 k, LeO (colophonlaw17_spoil.f k a0) (colophonlaw17_spoil.f (k + 1) a0) := by
  intro a0 k
  have ih0 := colophonlaw17_spoil.mono_l k
  unfold colophonlaw17_spoil.f
  repeat' first
      | (with_reducible exact ih0 _ _)
      | (with_reducible exact LeO.refl _)
      | (with_reducible exact LeO.none _)
      | (with_reducible refine LeO.ite ?_ ?_)
      | (with_reducible refine LeO.bind ?_ (fun _ => ?_))
      | exact ih0 _ _
      | exact LeO.none _
      | refine LeO.ite ?_ ?_
      | refine LeO.bind ?_ (fun _ => ?_)
set_option maxHeartbeats 8000000 in
set_option maxRecDepth 100000 in
theorem colophonlaw17_spoil.calls (k : Nat) (P0_ : Nat → Prop) (u9000_ : Value) (l0 : List (S39)) (r : List (S39)) (w0 w : World) (hB : Below w0.heap.size w0 w) (ho0 : Kd.R k39 39 w w0.heap.size P0_ u9000_ l0) (h : colophonlaw17_spoil.f k l0 = some r) :
    Calls Try.prog 18 #[u9000_] w fun e w' => e = .returned (.tuple #[]) ∧ Kd.R k39 39 w' w0.heap.size (fun k_ => (P0_ k_ ∨ w.heap.size ≤ k_)) u9000_ r ∧ Below w0.heap.size w0 w' ∧ Kept w w' (fun k_ => P0_ k_) := by
  have hu39 := Try.underlying39
  have HO0 := Aside0.mk (show Kd.R k39 39 w w0.heap.size (fun k_ => (P0_ k_ ∨ w.heap.size ≤ k_)) u9000_ l0 from Kd.R_mono ho0 (fun k_ hk => (.inl hk)))
  have HK := Aside0.mk (Kept.refl w (fun k_ => P0_ k_))
  have HW0 := Aside0.mk hB.size
  have HB := Aside0.mk hB
  clear hB
  have H : (colophonlaw17_spoil.l0 k l0 0) = some r := h
  clear h
  have H' := Aside0.mk H
  clear H
  go_enter Try.func18, Try.ntmps18
  go_wp2
  go_loopg [2] k (fun kq v2 w' => ∃ (x0_1 : List (S39)) (x2_1 : Int), v2 = .int .i64 x2_1 ∧ Aside0 (colophonlaw17_spoil.l0 kq x0_1 x2_1 = some r) ∧ Aside0 (kq ≤ k) ∧ Aside0 (Kd.R k39 39 w' w0.heap.size (fun k_ => (P0_ k_ ∨ w.heap.size ≤ k_)) u9000_ x0_1) ∧ Aside0 (Kept w w' (fun k_ => P0_ k_)) ∧ Aside0 (Below w0.heap.size w0 w'))
  case atStart => exact ⟨(l0), (0), (by first | rfl | (simp; done) | (simp [*]; done)), H', ⟨Nat.le_refl _⟩, ⟨by (with_reducible repeat (first | apply Kd.R_alloc | apply Kd.R_drewN | apply Kd.R_drew)); exact HO0.out⟩, ⟨by repeat (first | (with_reducible first | exact HK.out | apply Kept.alloc | apply Kept.drewN | apply Kept.drew) | exact HK.out)⟩, ⟨by repeat (first | (with_reducible first | exact HB.out | apply below_alloc | apply pw_below_drewN | apply below_drew1) | exact HB.out)⟩⟩
  case round =>
    clear H'
    try clear c1
    obtain ⟨x0_1, x2_1, rfl, HA, HK1, HO_0, HK, HB⟩ := hrel
    cases gk with
    | zero => exact absurd HA.out (by simp [colophonlaw17_spoil.l0])
    | succ k1 =>
      have H := HA.out
      clear HA
      simp only [colophonlaw17_spoil.l0] at H
      by_cases c2 : x2_1 < (x0_1.length : Int)
      · rw [if_pos c2] at H
        have c2b0 : decide (x2_1 < (x0_1.length : Int)) = true := decide_eq_true c2
        clear c2
        by_cases c3 : 0 ≤ x2_1
        · rw [if_pos c3] at H
          have c3b0 : decide (0 ≤ x2_1) = true := decide_eq_true c3
          clear c3
          obtain ⟨y180, hy180⟩ : ∃ y_ : List (S39), y_ = (x0_1.set (x2_1 : Int).toNat (⟨0, 0⟩ : S39)) := ⟨_, rfl⟩
          replace H : (colophonlaw17_spoil.l0 k1 y180 (wrap64 (x2_1 + 1))) = some r := by first | (rw [hy180]; with_reducible exact H) | (have H2_ := (Option.bind_some _ _).symm.trans H; rw [hy180]; with_reducible exact H2_) | (have H2_ := (Option.bind_some _ _).symm.trans H; with_reducible exact H2_) | with_reducible exact H | (rw [hy180]; exact H) | exact H
          have Ny180 := Aside0.mk hy180
          clear hy180
          have H' := Aside0.mk H
          clear H
          obtain ⟨Ao5, co5, eo5⟩ := Kd.R_slice HO_0.out
          subst eo5
          have p4 : 0 ≤ (x2_1 : Int) := of_decide_eq_true (by first | (with_reducible assumption) | assumption)
          have q4 : (x2_1 : Int) < ((x0_1.length : Int) : Int) := of_decide_eq_true (by first | (with_reducible assumption) | assumption)
          obtain ⟨go4, co4, eo4, gb4, gl4, cl4, HG4⟩ := Kd.R_form HO_0.out (by omega)
          (first | cases eo4 | (injection eo4 with ea_ en_ ec_; (first | subst ea_ | (injection ea_ with ea_; subst ea_)); subst ec_; clear en_))
          have GB4 := Aside0.mk gb4
          have GG4 := Aside0.mk HG4
          clear gb4 gl4 HG4
          have HMgo4 := Aside0.mk (show (P0_ go4 ∨ w.heap.size ≤ go4) from (HO_0.out.1 _ rfl))
          obtain ⟨ce4, hcl4, hM4, hcc4, hfr4⟩ := Kd.R_elem HO_0.out z39 (x2_1 : Int) p4 q4
          obtain rfl := k39_openM hM4
          have hx4_0 : wr.cell? ⟨go4, (x2_1 : Int).toNat * 2, none⟩ = some (.int .i64 ((rd_T39 x0_1 x2_1).f0)) := hcc4 0 _ rfl
          have hx4_1 : wr.cell? ⟨go4, (x2_1 : Int).toNat * 2 + 1, none⟩ = some (.int .i64 ((rd_T39 x0_1 x2_1).f1)) := hcc4 1 _ rfl
          have hf4_0 : wr.frozen? ⟨go4, (x2_1 : Int).toNat * 2, none⟩ = false := hfr4 0
          have hf4_1 : wr.frozen? ⟨go4, (x2_1 : Int).toNat * 2 + 1, none⟩ = false := hfr4 1
          clear hcl4 hcc4 hfr4 hM4
          replace p4 := eq_true p4
          replace q4 := eq_true q4
          have HX6 := Aside0.mk (show Kd.R k39 39 wr w0.heap.size (fun k_ => (P0_ k_ ∨ w.heap.size ≤ k_)) (.slice (some ⟨go4, 0, none⟩) x0_1.length co5) x0_1 from (by (with_reducible repeat (first | apply Kd.R_alloc | apply Kd.R_drewN | apply Kd.R_drew)); exact HO_0.out))
          obtain ⟨ce6, hcl6, hM6, hcc6, hfr6⟩ := Kd.R_elem HX6.out z39 (x2_1 : Int) (of_decide_eq_true (by first | (with_reducible assumption) | assumption)) (by have h_ : (x2_1 : Int) < ((x0_1.length : Int) : Int) := of_decide_eq_true (by first | (with_reducible assumption) | assumption); first | exact h_ | (have e_ := (Kd.R_reads' HO_0.out).1; omega) | simpa using h_)
          obtain rfl := k39_openM hM6
          have HP6 := Kd.R_seg HX6.out (x2_1 : Int) (of_decide_eq_true (by first | (with_reducible assumption) | assumption)) (by have h_ : (x2_1 : Int) < ((x0_1.length : Int) : Int) := of_decide_eq_true (by first | (with_reducible assumption) | assumption); first | exact h_ | (have e_ := (Kd.R_reads' HO_0.out).1; omega) | simpa using h_) (seg := [.int .i64 0, .int .i64 0]) (j := 0) hcl6 hcc6 (show 2 ≤ 2 from by decide) (x' := (⟨0, 0⟩ : S39)) (k39_mkM _ _ _ (⟨0, 0⟩ : S39) ) (fun _ hk => hk)
          have hx6_0 := hcc6 0 _ rfl
          (try simp only [show (k39).sz = 2 from rfl, Nat.mul_one, Nat.add_zero] at hx6_0)
          have hf6_0 := hfr6 0
          (try simp only [show (k39).sz = 2 from rfl, Nat.mul_one, Nat.add_zero] at hf6_0)
          have hx6_1 := hcc6 1 _ rfl
          (try simp only [show (k39).sz = 2 from rfl, Nat.mul_one, Nat.add_zero] at hx6_1)
          have hf6_1 := hfr6 1
          (try simp only [show (k39).sz = 2 from rfl, Nat.mul_one, Nat.add_zero] at hf6_1)
          clear hcl6 hcc6 hfr6 hM6
          go_wp2_with (first | ((with_reducible refine gate_store (t := 39) (p := 12) rfl ?_); refine store_event (t := 39) (p := 12) (v := ?vo_w7) (w1 := ((wr.setCell ⟨go4, (x2_1 : Int).toNat * 2, none⟩ (.int .i64 0)).setCell ⟨go4, (x2_1 : Int).toNat * 2 + 1, none⟩ (.int .i64 0))) ?hg ?ho ?hn ?hr ?_; (case ho => rfl); (case hg => rfl); (case hn => rfl); (case hr => first | (go_simp; done) | (go_simp; rfl)); intro w7 hw; have hg : wr.grownBy w7 (some go4) := (by rw [hw]; exact HP6.2); have hp_ : Kd.R k39 39 w7 w0.heap.size (fun k_ => (P0_ k_ ∨ w.heap.size ≤ k_)) (.slice (some ⟨go4, 0, none⟩) x0_1.length co5) y180 := (by rw [hw, Ny180.out]; exact HP6.1); clear HP6; have n0_ := Aside0.mk (hp_); have n1_ := Aside0.mk ((by rw [hw]; exact below_set (below_set (HB.out) GB4.out) GB4.out : Below w0.heap.size w0 w7)); have n2_ := Aside0.mk (Kept.of_grown (S := (fun k_ => P0_ k_)) hg (by repeat (first | (with_reducible first | exact HK.out | apply Kept.alloc | apply Kept.drewN | apply Kept.drew) | exact HK.out)) (fun k_ e_ => (HO_0.out.1 k_ e_))); clear HO_0; clear HB; clear HK; have HO_0 := n0_; have HB := n1_; have HK := n2_; clear n0_ n1_ n2_; clear hg hw hp_))
          go_roundg k1
          case measure => have := HK1.out; omega
          case rel => exact ⟨(y180), (wrap64 (x2_1 + 1)), (by first | rfl | (simp; done) | (simp [*]; done)), H', ⟨by have := HK1.out; omega⟩, ⟨by (with_reducible repeat (first | apply Kd.R_alloc | apply Kd.R_drewN | apply Kd.R_drew)); exact HO_0.out⟩, ⟨by repeat (first | (with_reducible first | exact HK.out | apply Kept.alloc | apply Kept.drewN | apply Kept.drew) | exact HK.out)⟩, ⟨by repeat (first | (with_reducible first | exact HB.out | apply below_alloc | apply pw_below_drewN | apply below_drew1) | exact HB.out)⟩⟩
        · rw [if_neg c3] at H
          exact absurd H (by simp)
      · rw [if_neg c2] at H
        have c2b0 : decide (x2_1 < (x0_1.length : Int)) = false := decide_eq_false c2
        clear c2
        obtain rfl := Option.some.inj H
        obtain ⟨Ao8, co8, eo8⟩ := Kd.R_slice HO_0.out
        subst eo8
        go_wp2
        first | go_end0 | ((try simp only [Exit.inBlock, Exit.then]); refine bodyPost_ret (results_none rfl _ _ _) rfl ?_)
        exact ⟨by first | rfl | (simp [errW_none, errW_some] <;> rfl) | (simp [*, errW_none, errW_some] <;> rfl), by (with_reducible repeat (first | apply Kd.R_alloc | apply Kd.R_drewN | apply Kd.R_drew)); exact HO_0.out, by repeat (first | (with_reducible first | exact HB.out | apply below_alloc | apply pw_below_drewN | apply below_drew1) | exact HB.out), by repeat (first | (with_reducible first | exact HK.out | apply Kept.alloc | apply Kept.drewN | apply Kept.drew) | exact HK.out)⟩
end Go.Proofs.Ytingbjdpjimikaa.FBase
namespace Go.Proofs.Ytingbjdpjimikaa.B
open Go.RowKit Go.Proofs Go.Proofs.YtingbjdpjimikaaW.PrintWords Go.Proofs.YtingbjdpjimikaaW.PrintLast Go.Proofs.YtingbjdpjimikaaW.PrintMore Go.Proofs.Ytingbjdpjimikaa.FBase
abbrev Sp := S39
def inS (x : Sp) (c : Int) : Bool := decide (x.f0 ≤ c) && decide (c < x.f1)
def sHas (l : List Sp) (c : Int) : Bool := l.any fun x => inS x c
theorem sHas_nil (c : Int) : sHas [] c = false := rfl
theorem sHas_cons (x : Sp) (l : List Sp) (c : Int) : sHas (x :: l) c = (inS x c || sHas l c) := rfl
theorem sHas_app (l m : List Sp) (c : Int) : sHas (l ++ m) c = (sHas l c || sHas m c) := List.any_append
theorem inS_iff (x : Sp) (c : Int) : inS x c = true ↔ x.f0 ≤ c ∧ c < x.f1 := by
  unfold inS
  rw [Bool.and_eq_true, decide_eq_true_eq, decide_eq_true_eq]
theorem inS_no {x : Sp} {c : Int} (h : ¬ (x.f0 ≤ c ∧ c < x.f1)) : inS x c = false := by
  cases hh : inS x c with
  | false => rfl
  | true => exact absurd ((inS_iff x c).1 hh) h
theorem sHas_perm {l m : List Sp} (h : l.Perm m) (c : Int) : sHas l c = sHas m c := by
  unfold sHas
  exact h.any_eq
def Sep : Int → List Sp → Prop
  | _, [] => True
  | lo, x :: r => lo ≤ x.f0 ∧ x.f0 < x.f1 ∧ Sep (x.f1 + 1) r
theorem Sep.below : ∀ {s : List Sp} {lo : Int}, Sep lo s → ∀ c, c < lo → sHas s c = false
  | [], _, _, _, _ => rfl
  | x :: r, lo, h, c, hc => by
    rw [sHas_cons, inS_no (by have := h.1; omega), h.2.2.below c (by have := h.1; have := h.2.1; omega)]
    rfl
theorem Sep.uniq : ∀ {s t : List Sp} {lo lo' : Int}, Sep lo s → Sep lo' t → (∀ c, sHas s c = sHas t c) → s = t
  | [], [], _, _, _, _, _ => rfl
  | [], y :: t, _, _, _, ht, h => by
    have := h y.f0
    rw [sHas_nil, sHas_cons, (inS_iff y y.f0).2 ⟨Int.le_refl _, ht.2.1⟩] at this
    cases this
  | x :: s, [], _, _, hs, _, h => by
    have := h x.f0
    rw [sHas_nil, sHas_cons, (inS_iff x x.f0).2 ⟨Int.le_refl _, hs.2.1⟩] at this
    cases this
  | x :: s, y :: t, lo, lo', hs, ht, h => by
    have e0 : x.f0 = y.f0 := by
      rcases Int.lt_trichotomy x.f0 y.f0 with hlt | heq | hgt
      · have h1 := h x.f0
        rw [sHas_cons, (inS_iff x x.f0).2 ⟨Int.le_refl _, hs.2.1⟩, Bool.true_or, Sep.below (show Sep y.f0 (y :: t) from ⟨Int.le_refl _, ht.2.1, ht.2.2⟩) x.f0 hlt] at h1
        cases h1
      · exact heq
      · have h1 := h y.f0
        rw [sHas_cons y, (inS_iff y y.f0).2 ⟨Int.le_refl _, ht.2.1⟩, Bool.true_or, Sep.below (show Sep x.f0 (x :: s) from ⟨Int.le_refl _, hs.2.1, hs.2.2⟩) y.f0 hgt] at h1
        cases h1
    have e1 : x.f1 = y.f1 := by
      have hx := hs.2.1
      have hy := ht.2.1
      rcases Int.lt_trichotomy x.f1 y.f1 with hlt | heq | hgt
      · have h1 := h x.f1
        rw [sHas_cons, sHas_cons, inS_no (x := x) (by omega), Sep.below hs.2.2 x.f1 (by omega), (inS_iff y x.f1).2 ⟨by omega, hlt⟩] at h1
        cases h1
      · exact heq
      · have h1 := h y.f1
        rw [sHas_cons, sHas_cons, inS_no (x := y) (by omega), Sep.below ht.2.2 y.f1 (by omega), (inS_iff x y.f1).2 ⟨by omega, hgt⟩] at h1
        cases h1
    have exy : x = y := by
      cases x; cases y
      simp only at e0 e1
      rw [e0, e1]
    subst exy
    have : s = t := Sep.uniq hs.2.2 ht.2.2 fun c => by
      by_cases hc : c < x.f1 + 1
      · rw [Sep.below hs.2.2 c hc, Sep.below ht.2.2 c hc]
      · have := h c
        rwa [sHas_cons, sHas_cons, inS_no (x := x) (by omega), Bool.false_or, Bool.false_or] at this
    rw [this]
def sAdd : List Sp → Int → Int → List Sp
  | [], a, b => [⟨a, b⟩]
  | [x], a, b => if x.f1 = a then [⟨x.f0, b⟩] else [x, ⟨a, b⟩]
  | x :: y :: r, a, b => x :: sAdd (y :: r) a b
theorem sAdd_ok : ∀ (s : List Sp) (lo a b : Int), Sep lo s → (∀ x ∈ s, x.f1 ≤ a) → lo ≤ a → a < b →
    Sep lo (sAdd s a b) ∧ (∀ x ∈ sAdd s a b, x.f1 ≤ b) ∧ ∀ c, sHas (sAdd s a b) c = (sHas s c || (decide (a ≤ c) && decide (c < b)))
  | [], lo, a, b, _, _, hlo, hab => by
    refine ⟨⟨hlo, hab, trivial⟩, fun x hx => ?_, fun c => ?_⟩
    · obtain rfl := List.mem_singleton.1 hx
      exact Int.le_refl _
    · rw [show sAdd [] a b = [⟨a, b⟩] from rfl, sHas_cons, sHas_nil, Bool.or_false, Bool.false_or]
      rfl
  | [x], lo, a, b, hs, hf, hlo, hab => by
    have hxa := hf x (by simp)
    by_cases h : x.f1 = a
    · rw [show sAdd [x] a b = [⟨x.f0, b⟩] from if_pos h]
      refine ⟨⟨hs.1, by have := hs.2.1; show x.f0 < b; omega, trivial⟩, fun y hy => ?_, fun c => ?_⟩
      · obtain rfl := List.mem_singleton.1 hy
        exact Int.le_refl _
      · rw [sHas_cons, sHas_nil, Bool.or_false, sHas_cons, sHas_nil, Bool.or_false]
        have := hs.2.1
        unfold inS
        simp only
        rw [← h]
        by_cases h1 : x.f0 ≤ c <;> by_cases h2 : c < b <;> by_cases h3 : c < x.f1 <;> simp [h1, h2, h3] <;> omega
    · rw [show sAdd [x] a b = [x, ⟨a, b⟩] from if_neg h]
      refine ⟨⟨hs.1, hs.2.1, by show x.f1 + 1 ≤ a; omega, hab, trivial⟩, fun y hy => ?_, fun c => ?_⟩
      · rcases List.mem_cons.1 hy with rfl | hy
        · omega
        · obtain rfl := List.mem_singleton.1 hy
          exact Int.le_refl _
      · rw [sHas_cons, sHas_cons, sHas_nil, Bool.or_false, sHas_cons, sHas_nil, Bool.or_false]
        rfl
  | x :: y :: r, lo, a, b, hs, hf, hlo, hab => by
    have h1 := sAdd_ok (y :: r) (x.f1 + 1) a b hs.2.2 (fun z hz => hf z (List.mem_cons_of_mem _ hz)) (by have := hf y (by simp); have := hs.2.2.1; have := hs.2.2.2.1; omega) hab
    refine ⟨⟨hs.1, hs.2.1, h1.1⟩, fun z hz => ?_, fun c => ?_⟩
    · rcases List.mem_cons.1 hz with rfl | hz
      · have := hf z (by simp); omega
      · exact h1.2.1 z hz
    · rw [show sAdd (x :: y :: r) a b = x :: sAdd (y :: r) a b from rfl, sHas_cons, h1.2.2 c, sHas_cons x, Bool.or_assoc]
theorem sAdd_len : ∀ (s : List Sp) (a b : Int), (sAdd s a b).length ≤ s.length + 1
  | [], _, _ => by simp [sAdd]
  | [x], a, b => by unfold sAdd; split <;> simp
  | x :: y :: r, a, b => by
    have := sAdd_len (y :: r) a b
    rw [show sAdd (x :: y :: r) a b = x :: sAdd (y :: r) a b from rfl, List.length_cons, List.length_cons]
    omega
def mkS (p : Int → Bool) : List Int → List Sp → List Sp
  | a :: b :: r, s => mkS p (b :: r) (if p a then sAdd s a b else s)
  | _, s => s
def Ris (l : List Int) : Prop := l.Pairwise (· < ·)
def hit (p : Int → Bool) : List Int → Int → Bool
  | a :: b :: r, x => (p a && (decide (a ≤ x) && decide (x < b))) || hit p (b :: r) x
  | _, _ => false
theorem mkS_ok (p : Int → Bool) : ∀ (c : List Int) (s : List Sp) (lo : Int), Ris c → Sep lo s → (∀ a, c.head? = some a → lo ≤ a ∧ ∀ x ∈ s, x.f1 ≤ a) →
    Sep lo (mkS p c s) ∧ ∀ x, sHas (mkS p c s) x = (sHas s x || hit p c x)
  | [], s, lo, _, hs, _ => ⟨hs, fun x => by rw [show mkS p [] s = s from rfl, show hit p [] x = false from rfl, Bool.or_false]⟩
  | [a], s, lo, _, hs, _ => ⟨hs, fun x => by rw [show mkS p [a] s = s from rfl, show hit p [a] x = false from rfl, Bool.or_false]⟩
  | a :: b :: r, s, lo, hc, hs, hh => by
    have hab : a < b := (List.pairwise_cons.1 hc).1 b (by simp)
    have hh1 := hh a rfl
    rw [show mkS p (a :: b :: r) s = mkS p (b :: r) (if p a then sAdd s a b else s) from rfl]
    cases hp : p a with
    | true =>
      have h1 := sAdd_ok s lo a b hs hh1.2 hh1.1 hab
      have h2 := mkS_ok p (b :: r) (sAdd s a b) lo (List.pairwise_cons.1 hc).2 h1.1 (fun z hz => by
        obtain rfl : b = z := by simpa using hz
        exact ⟨by omega, h1.2.1⟩)
      refine ⟨h2.1, fun x => ?_⟩
      rw [if_pos rfl, h2.2 x, h1.2.2 x, show hit p (a :: b :: r) x = ((p a && (decide (a ≤ x) && decide (x < b))) || hit p (b :: r) x) from rfl, hp, Bool.true_and, Bool.or_assoc]
    | false =>
      have h2 := mkS_ok p (b :: r) s lo (List.pairwise_cons.1 hc).2 hs (fun z hz => by
        obtain rfl : b = z := by simpa using hz
        exact ⟨by omega, fun x hx => by have := hh1.2 x hx; omega⟩)
      refine ⟨h2.1, fun x => ?_⟩
      rw [if_neg (by simp), h2.2 x, show hit p (a :: b :: r) x = ((p a && (decide (a ≤ x) && decide (x < b))) || hit p (b :: r) x) from rfl, hp, Bool.false_and, Bool.false_or]
theorem hit_is (p : Int → Bool) : ∀ (c : List Int) (x : Int), Ris c → (∀ a ∈ c, a ≤ x → (∀ b ∈ c, b ≤ x → b ≤ a) → p a = p x) →
    hit p c x = (p x && (decide (c.headD (x + 1) ≤ x) && decide (x < c.getLastD x)))
  | [], x, _, _ => by simp [hit]
  | [a], x, _, _ => by simp [hit]
  | a :: b :: r, x, hc, h => by
    have hc2 := List.pairwise_cons.1 hc
    have hab : a < b := hc2.1 b (by simp)
    have hl : ∀ d, (a :: b :: r).getLastD d = (b :: r).getLastD a := fun d => rfl
    have hbl : ∀ (l : List Int) (b : Int), Ris (b :: l) → b ≤ (b :: l).getLastD a := by
      intro l
      induction l with
      | nil => intro b _; exact Int.le_refl _
      | cons y l ih =>
        intro b hb
        have h1 := List.pairwise_cons.1 hb
        have h2 := ih y h1.2
        have h3 := h1.1 y (by simp)
        exact Int.le_trans (Int.le_of_lt h3) h2
    have hlast := hbl r b hc2.2
    rw [show hit p (a :: b :: r) x = ((p a && (decide (a ≤ x) && decide (x < b))) || hit p (b :: r) x) from rfl]
    by_cases hx : b ≤ x
    · have ih := hit_is p (b :: r) x hc2.2 (fun z hz hzx hm => h z (List.mem_cons_of_mem _ hz) hzx (fun y hy hyx => by
        rcases List.mem_cons.1 hy with rfl | hy
        · have := hm b (by simp) hx; omega
        · exact hm y hy hyx))
      rw [ih]
      have e1 : decide (x < b) = false := decide_eq_false (by omega)
      have e2 : decide (a ≤ x) = true := decide_eq_true (by omega)
      have e3 : decide (b ≤ x) = true := decide_eq_true hx
      rw [e1, Bool.and_false, Bool.and_false, Bool.false_or]
      show (p x && (decide (b ≤ x) && decide (x < (b :: r).getLastD x))) = (p x && (decide (a ≤ x) && decide (x < (b :: r).getLastD a)))
      rw [e2, e3]
      rfl
    · have hz : ∀ (l : List Int), Ris l → (∀ y ∈ l, x < y) → hit p l x = false := by
        intro l
        induction l with
        | nil => intros; rfl
        | cons y l ih =>
          intro hl hy
          cases l with
          | nil => rfl
          | cons z l =>
            rw [show hit p (y :: z :: l) x = ((p y && (decide (y ≤ x) && decide (x < z))) || hit p (z :: l) x) from rfl, decide_eq_false (by have := hy y (by simp); omega), ih (List.pairwise_cons.1 hl).2 (fun w hw => hy w (List.mem_cons_of_mem _ hw))]
            simp
      have h0 : hit p (b :: r) x = false := hz _ hc2.2 (fun y hy => by
        rcases List.mem_cons.1 hy with rfl | hy
        · omega
        · have := (List.pairwise_cons.1 hc2.2).1 y hy; omega)
      rw [h0, Bool.or_false]
      have e1 : decide (x < b) = true := decide_eq_true (by omega)
      show (p a && (decide (a ≤ x) && decide (x < b))) = (p x && (decide (a ≤ x) && decide (x < (b :: r).getLastD a)))
      rw [e1, show decide (x < (b :: r).getLastD a) = true from decide_eq_true (by omega)]
      by_cases ha : a ≤ x
      · rw [h a (by simp) ha (fun y hy hyx => by
          rcases List.mem_cons.1 hy with rfl | hy
          · exact Int.le_refl _
          · rcases List.mem_cons.1 hy with rfl | hy
            · omega
            · have := (List.pairwise_cons.1 hc2.2).1 y hy; omega)]
      · rw [decide_eq_false ha]
        simp
def ins : List Int → Int → List Int
  | [], _ => []
  | a :: r, n => if n ≤ a then (if n < a then n :: a :: r else a :: r) else a :: ins r n
theorem ins_mem : ∀ (l : List Int) (n : Int), (∃ a ∈ l, n ≤ a) → ∀ x, x ∈ ins l n ↔ x = n ∨ x ∈ l
  | [], n, h, x => by obtain ⟨a, ha, _⟩ := h; cases ha
  | a :: r, n, h, x => by
    unfold ins
    by_cases h1 : n ≤ a
    · rw [if_pos h1]
      by_cases h2 : n < a
      · rw [if_pos h2]; simp
      · rw [if_neg h2]
        have : n = a := by omega
        subst this
        simp
    · rw [if_neg h1]
      have h3 : ∃ b ∈ r, n ≤ b := by
        obtain ⟨b, hb, hn⟩ := h
        rcases List.mem_cons.1 hb with rfl | hb
        · exact absurd hn h1
        · exact ⟨b, hb, hn⟩
      rw [List.mem_cons, ins_mem r n h3 x, List.mem_cons]
      constructor
      · rintro (h | h | h)
        · exact .inr (.inl h)
        · exact .inl h
        · exact .inr (.inr h)
      · rintro (h | h | h)
        · exact .inr (.inl h)
        · exact .inl h
        · exact .inr (.inr h)
theorem ins_ris : ∀ (l : List Int) (n : Int), Ris l → Ris (ins l n)
  | [], n, h => h
  | a :: r, n, h => by
    unfold ins
    have h1 := List.pairwise_cons.1 h
    by_cases h2 : n ≤ a
    · rw [if_pos h2]
      by_cases h3 : n < a
      · rw [if_pos h3]
        refine List.pairwise_cons.2 ⟨fun x hx => ?_, h⟩
        rcases List.mem_cons.1 hx with rfl | hx
        · exact h3
        · have := h1.1 x hx; omega
      · rw [if_neg h3]; exact h
    · rw [if_neg h2]
      refine List.pairwise_cons.2 ⟨fun x hx => ?_, ins_ris r n h1.2⟩
      by_cases h3 : ∃ b ∈ r, n ≤ b
      · rcases (ins_mem r n h3 x).1 hx with rfl | hx
        · omega
        · exact h1.1 x hx
      · have hno : ∀ (l : List Int), (¬ ∃ b ∈ l, n ≤ b) → ins l n = l := by
          intro l
          induction l with
          | nil => intro _; rfl
          | cons y l ih =>
            intro h
            unfold ins
            rw [if_neg (fun hy => h ⟨y, by simp, hy⟩), ih (fun ⟨b, hb, hn⟩ => h ⟨b, List.mem_cons_of_mem _ hb, hn⟩)]
        rw [hno r h3] at hx
        exact h1.1 x hx
theorem ins_len : ∀ (l : List Int) (n : Int), (ins l n).length ≤ l.length + 1
  | [], n => by simp [ins]
  | a :: r, n => by
    unfold ins
    have := ins_len r n
    split
    · split <;> simp
    · simp only [List.length_cons]; omega
def cutsOf (l : List Sp) : List Int := l.foldl (fun c x => ins (ins c x.f0) x.f1) [0, 1114112]
def may (x : Sp) : Prop := 0 ≤ x.f0 ∧ x.f0 ≤ x.f1 ∧ x.f1 ≤ 1114112
theorem cuts_step (l : List Sp) : ∀ (c : List Int), Ris c → (1114112 : Int) ∈ c → (∀ x ∈ c, x ≤ 1114112) → (∀ x ∈ l, may x) →
    Ris (l.foldl (fun c x => ins (ins c x.f0) x.f1) c) ∧ (∀ y, y ∈ l.foldl (fun c x => ins (ins c x.f0) x.f1) c ↔ y ∈ c ∨ ∃ x ∈ l, y = x.f0 ∨ y = x.f1) := by
  induction l with
  | nil => intro c h _ _ _; exact ⟨h, fun y => by simp⟩
  | cons x l ih =>
    intro c h he hle hm
    have hx := hm x (by simp)
    have m1 := ins_mem c x.f0 ⟨1114112, he, by have := hx.2.1; have := hx.2.2; omega⟩
    have he1 : (1114112 : Int) ∈ ins c x.f0 := (m1 _).2 (.inr he)
    have m2 := ins_mem (ins c x.f0) x.f1 ⟨1114112, he1, hx.2.2⟩
    have hle2 : ∀ y ∈ ins (ins c x.f0) x.f1, y ≤ 1114112 := fun y hy => by
      rcases (m2 y).1 hy with rfl | hy
      · exact hx.2.2
      · rcases (m1 y).1 hy with rfl | hy
        · have := hx.2.1; have := hx.2.2; omega
        · exact hle y hy
    have := ih (ins (ins c x.f0) x.f1) (ins_ris _ _ (ins_ris _ _ h)) ((m2 _).2 (.inr he1)) hle2 (fun y hy => hm y (List.mem_cons_of_mem _ hy))
    refine ⟨this.1, fun y => (this.2 y).trans ?_⟩
    rw [m2 y, m1 y]
    constructor
    · rintro ((h | h | h) | ⟨z, hz, h⟩)
      · exact .inr ⟨x, by simp, .inr h⟩
      · exact .inr ⟨x, by simp, .inl h⟩
      · exact .inl h
      · exact .inr ⟨z, List.mem_cons_of_mem _ hz, h⟩
    · rintro (h | ⟨z, hz, h⟩)
      · exact .inl (.inr (.inr h))
      · rcases List.mem_cons.1 hz with rfl | hz
        · rcases h with h | h
          · exact .inl (.inr (.inl h))
          · exact .inl (.inl h)
        · exact .inr ⟨z, hz, h⟩
theorem cutsOf_ok (l : List Sp) (hm : ∀ x ∈ l, may x) : Ris (cutsOf l) ∧ ∀ y, y ∈ cutsOf l ↔ (y = 0 ∨ y = 1114112) ∨ ∃ x ∈ l, y = x.f0 ∨ y = x.f1 := by
  have h := cuts_step l [0, 1114112] (by unfold Ris; simp) (by simp) (by intro x hx; simp at hx; omega) hm
  refine ⟨h.1, fun y => (h.2 y).trans ?_⟩
  simp
theorem cuts_len (l : List Sp) : (cutsOf l).length ≤ 2 + 2 * l.length := by
  have : ∀ (l : List Sp) (c : List Int), (l.foldl (fun c x => ins (ins c x.f0) x.f1) c).length ≤ c.length + 2 * l.length := by
    intro l
    induction l with
    | nil => intro c; simp
    | cons x l ih =>
      intro c
      have h1 := ih (ins (ins c x.f0) x.f1)
      have h2 := ins_len (ins c x.f0) x.f1
      have h3 := ins_len c x.f0
      rw [List.foldl_cons, List.length_cons]
      omega
  exact this l [0, 1114112]
theorem Ris.uniq : ∀ {l m : List Int}, Ris l → Ris m → (∀ x, x ∈ l ↔ x ∈ m) → l = m
  | [], [], _, _, _ => rfl
  | [], y :: m, _, _, h => by have := (h y).2 (by simp); cases this
  | x :: l, [], _, _, h => by have := (h x).1 (by simp); cases this
  | x :: l, y :: m, hl, hm, h => by
    have h1 := List.pairwise_cons.1 hl
    have h2 := List.pairwise_cons.1 hm
    have e : x = y := by
      rcases List.mem_cons.1 ((h x).1 (by simp)) with e | hx
      · exact e
      · rcases List.mem_cons.1 ((h y).2 (by simp)) with e | hy
        · exact e.symm
        · have := h2.1 x hx; have := h1.1 y hy; omega
    subst e
    rw [Ris.uniq h1.2 h2.2 fun z => ?_]
    constructor
    · intro hz
      rcases List.mem_cons.1 ((h z).1 (List.mem_cons_of_mem _ hz)) with e | hz2
      · have := h1.1 z hz; omega
      · exact hz2
    · intro hz
      rcases List.mem_cons.1 ((h z).2 (List.mem_cons_of_mem _ hz)) with e | hz2
      · have := h2.1 z hz; omega
      · exact hz2
theorem same_between {l : List Sp} {c : List Int} (h : ∀ x ∈ l, x.f0 ∈ c ∧ x.f1 ∈ c) {a x : Int} (hax : a ≤ x) (hn : ∀ b ∈ c, b ≤ x → b ≤ a) : sHas l a = sHas l x := by
  induction l with
  | nil => rfl
  | cons y l ih =>
    rw [sHas_cons, sHas_cons, ih (fun z hz => h z (List.mem_cons_of_mem _ hz))]
    have hy := h y (by simp)
    have h0 := hn y.f0 hy.1
    have h1 := hn y.f1 hy.2
    have : inS y a = inS y x := by
      unfold inS
      by_cases e0 : y.f0 ≤ x
      · have := h0 e0
        by_cases e1 : y.f1 ≤ x
        · have := h1 e1
          rw [decide_eq_false (show ¬ a < y.f1 by omega), decide_eq_false (show ¬ x < y.f1 by omega)]
          simp
        · rw [decide_eq_true (show y.f0 ≤ a by omega), decide_eq_true e0, decide_eq_true (show a < y.f1 by omega), decide_eq_true (show x < y.f1 by omega)]
      · rw [decide_eq_false (show ¬ y.f0 ≤ a by omega), decide_eq_false e0]
        rfl
    rw [this]
theorem mk_is (p : Int → Bool) (c : List Int) (hc : Ris c) (hm : ∀ y ∈ c, 0 ≤ y ∧ y ≤ 1114112) (h0 : (0 : Int) ∈ c) (h1 : (1114112 : Int) ∈ c) (hp : ∀ a ∈ c, ∀ x, a ≤ x → (∀ b ∈ c, b ≤ x → b ≤ a) → p a = p x) :
    Sep 0 (mkS p c []) ∧ ∀ x, sHas (mkS p c []) x = (p x && (decide (0 ≤ x) && decide (x < 1114112))) := by
  have h := mkS_ok p c [] 0 hc trivial (fun a ha => ⟨(hm a (by cases c with | nil => cases ha | cons y l => simp at ha; rw [ha]; simp)).1, fun x hx => nomatch hx⟩)
  refine ⟨h.1, fun x => ?_⟩
  rw [h.2 x, sHas_nil, Bool.false_or, hit_is p c x hc (fun a ha hax hn => hp a ha x hax hn)]
  cases c with
  | nil => cases h0
  | cons y l =>
    have hy : y = 0 := by
      rcases List.mem_cons.1 h0 with e | h0
      · exact e.symm
      · have := (List.pairwise_cons.1 hc).1 0 h0; have := (hm y (by simp)).1; omega
    have hz : (y :: l).getLastD x = 1114112 := by
      have hin : (y :: l).getLastD x ∈ y :: l := by rw [List.getLastD_cons]; exact List.getLastD_mem_cons
      have hub := (hm _ hin).2
      have hall : ∀ (l : List Int) (y : Int), Ris (y :: l) → ∀ b ∈ y :: l, b ≤ (y :: l).getLastD x := by
        intro l
        induction l with
        | nil => intro y _ b hb; obtain rfl := List.mem_singleton.1 hb; exact Int.le_refl _
        | cons z l ih =>
          intro y hl b hb
          have h2 := List.pairwise_cons.1 hl
          have h3 := ih z h2.2
          rcases List.mem_cons.1 hb with rfl | hb
          · have := h3 z (by simp); have := h2.1 z (by simp); show b ≤ (z :: l).getLastD x; omega
          · exact h3 b hb
      have := hall l y hc _ h1
      omega
    rw [show (y :: l).headD (x + 1) = y from rfl, hz, hy]
def sMrg : List Sp → Sp → List Sp
  | [], x => [x]
  | [y], x => if x.f0 ≤ y.f1 then [⟨y.f0, if y.f1 < x.f1 then x.f1 else y.f1⟩] else [y, x]
  | y :: z :: r, x => y :: sMrg (z :: r) x
theorem sMrg_ok : ∀ (s : List Sp) (lo : Int) (x : Sp), Sep lo s → (∀ y ∈ s, y.f0 ≤ x.f0) → lo ≤ x.f0 → x.f0 < x.f1 →
    Sep lo (sMrg s x) ∧ (∀ y ∈ sMrg s x, y.f0 ≤ x.f0) ∧ ∀ c, sHas (sMrg s x) c = (sHas s c || inS x c)
  | [], lo, x, _, _, hlo, hx => by
    refine ⟨⟨hlo, hx, trivial⟩, fun y hy => ?_, fun c => ?_⟩
    · obtain rfl := List.mem_singleton.1 hy
      exact Int.le_refl _
    · rw [show sMrg [] x = [x] from rfl, sHas_cons, sHas_nil, Bool.or_false, Bool.false_or]
  | [y], lo, x, hs, hf, hlo, hx => by
    have hyx := hf y (by simp)
    have hy := hs.2.1
    by_cases h : x.f0 ≤ y.f1
    · rw [show sMrg [y] x = [⟨y.f0, if y.f1 < x.f1 then x.f1 else y.f1⟩] from if_pos h]
      refine ⟨⟨hs.1, by show y.f0 < (if _ then _ else _); split <;> omega, trivial⟩, fun z hz => ?_, fun c => ?_⟩
      · obtain rfl := List.mem_singleton.1 hz
        exact hyx
      · rw [sHas_cons, sHas_nil, Bool.or_false, sHas_cons, sHas_nil, Bool.or_false]
        unfold inS
        simp only
        by_cases e : y.f1 < x.f1
        · rw [if_pos e]
          by_cases h1 : y.f0 ≤ c <;> by_cases h2 : c < x.f1 <;> by_cases h3 : c < y.f1 <;> by_cases h4 : x.f0 ≤ c <;> simp [h1, h2, h3, h4] <;> omega
        · rw [if_neg e]
          by_cases h1 : y.f0 ≤ c <;> by_cases h2 : c < x.f1 <;> by_cases h3 : c < y.f1 <;> by_cases h4 : x.f0 ≤ c <;> simp [h1, h2, h3, h4] <;> omega
    · rw [show sMrg [y] x = [y, x] from if_neg h]
      refine ⟨⟨hs.1, hs.2.1, by show y.f1 + 1 ≤ x.f0; omega, hx, trivial⟩, fun z hz => ?_, fun c => ?_⟩
      · rcases List.mem_cons.1 hz with rfl | hz
        · exact hyx
        · obtain rfl := List.mem_singleton.1 hz
          exact Int.le_refl _
      · rw [sHas_cons, sHas_cons, sHas_nil, Bool.or_false, sHas_cons, sHas_nil, Bool.or_false]
  | y :: z :: r, lo, x, hs, hf, hlo, hx => by
    have h2 := hs.2.2
    have hz := hf z (by simp)
    have h1 := sMrg_ok (z :: r) (y.f1 + 1) x h2 (fun w hw => hf w (List.mem_cons_of_mem _ hw)) (by have := h2.1; omega) hx
    refine ⟨⟨hs.1, hs.2.1, h1.1⟩, fun w hw => ?_, fun c => ?_⟩
    · rcases List.mem_cons.1 hw with rfl | hw
      · exact hf w (by simp)
      · exact h1.2.1 w hw
    · rw [show sMrg (y :: z :: r) x = y :: sMrg (z :: r) x from rfl, sHas_cons, h1.2.2 c, sHas_cons y, Bool.or_assoc]
theorem fold_mrg : ∀ (l s : List Sp), Sep 0 s → (∀ x ∈ l, 0 ≤ x.f0 ∧ x.f0 < x.f1) → l.Pairwise (fun a b => a.f0 ≤ b.f0) → (∀ y ∈ s, ∀ x ∈ l, y.f0 ≤ x.f0) →
    Sep 0 (l.foldl sMrg s) ∧ ∀ c, sHas (l.foldl sMrg s) c = (sHas s c || sHas l c)
  | [], s, hs, _, _, _ => ⟨hs, fun c => by rw [List.foldl_nil, sHas_nil, Bool.or_false]⟩
  | x :: l, s, hs, hl, hp, hf => by
    have hx := hl x (by simp)
    have h1 := sMrg_ok s 0 x hs (fun y hy => hf y hy x (by simp)) hx.1 hx.2
    have hp2 := List.pairwise_cons.1 hp
    have h2 := fold_mrg l (sMrg s x) h1.1 (fun y hy => hl y (List.mem_cons_of_mem _ hy)) hp2.2 (fun y hy z hz => Int.le_trans (h1.2.1 y hy) (hp2.1 z hz))
    refine ⟨h2.1, fun c => ?_⟩
    rw [List.foldl_cons, h2.2 c, h1.2.2 c, sHas_cons, Bool.or_assoc]
def chkS : Int → List Sp → Bool
  | _, [] => true
  | last, x :: r => decide (last < x.f0) && (decide (x.f0 < x.f1) && (decide (x.f1 ≤ 1114112) && chkS x.f1 r))
def sCheck (l : List Sp) : Int := if 256 < l.length then 5 else if chkS (-1) l then 0 else 2
theorem chkS_sep : ∀ (l : List Sp) (last : Int), chkS last l = true ↔ Sep (last + 1) l ∧ ∀ x ∈ l, x.f1 ≤ 1114112
  | [], last => by simp [chkS, Sep]
  | x :: l, last => by
    rw [show chkS last (x :: l) = (decide (last < x.f0) && (decide (x.f0 < x.f1) && (decide (x.f1 ≤ 1114112) && chkS x.f1 l))) from rfl]
    rw [Bool.and_eq_true, Bool.and_eq_true, Bool.and_eq_true, decide_eq_true_eq, decide_eq_true_eq, decide_eq_true_eq, chkS_sep l x.f1]
    constructor
    · rintro ⟨h1, h2, h3, h4, h5⟩
      refine ⟨⟨by omega, h2, h4⟩, fun y hy => ?_⟩
      rcases List.mem_cons.1 hy with rfl | hy
      · exact h3
      · exact h5 y hy
    · rintro ⟨⟨h1, h2, h3⟩, h4⟩
      exact ⟨by omega, h2, h4 x (by simp), h3, fun y hy => h4 y (List.mem_cons_of_mem _ hy)⟩
theorem sCheck_ok (l : List Sp) : sCheck l = 0 ↔ l.length ≤ 256 ∧ Sep 0 l ∧ ∀ x ∈ l, x.f1 ≤ 1114112 := by
  unfold sCheck
  have h := chkS_sep l (-1)
  by_cases h1 : 256 < l.length
  · rw [if_pos h1]
    constructor
    · intro h; cases h
    · intro h; omega
  · rw [if_neg h1]
    cases hc : chkS (-1) l with
    | true =>
      rw [if_pos rfl]
      exact ⟨fun _ => ⟨by omega, h.1 hc⟩, fun _ => rfl⟩
    | false =>
      rw [if_neg (by simp)]
      constructor
      · intro h; cases h
      · rintro ⟨_, h2, h3⟩
        rw [h.2 ⟨h2, h3⟩] at hc
        cases hc
theorem Sep.may : ∀ {l : List Sp} {lo : Int}, 0 ≤ lo → Sep lo l → (∀ x ∈ l, x.f1 ≤ 1114112) → ∀ x ∈ l, B.may x
  | [], _, _, _, _ => fun x hx => nomatch hx
  | y :: l, lo, h0, hs, he => fun x hx => by
    rcases List.mem_cons.1 hx with rfl | hx
    · exact ⟨by have := hs.1; omega, by have := hs.2.1; omega, he x (by simp)⟩
    · exact Sep.may (by have := hs.1; have := hs.2.1; omega) hs.2.2 (fun z hz => he z (List.mem_cons_of_mem _ hz)) x hx
end Go.Proofs.Ytingbjdpjimikaa.B
namespace Go.Proofs.Ytingbjdpjimikaa.FBase
open Go.RowKit Go.Proofs.YtingbjdpjimikaaW.PrintWords Go.Proofs.YtingbjdpjimikaaW.PrintLast Go.Proofs.YtingbjdpjimikaaW.PrintMore
attribute [local go_sem] max2_int min2_int max_two min_two max_three min_three max_four min_four   -- for this text's walks alone
def colophonref17_Cuts.l0 : Nat → List (S39) → List Int → Int → Option (List Int)
  | 0, _, _, _ => none
  | k + 1, x0, x3, x4 => if x4 < (x0.length : Int) then (if 0 ≤ x4 then ((colophonref17_with.f k x3 ((rd_T39 x0 x4).f0)).bind fun t135 => ((colophonref17_with.f k t135 ((rd_T39 x0 x4).f1)).bind fun t139 => (colophonref17_Cuts.l0 k x0 t139 (wrap64 (x4 + 1))))) else (none)) else (some x3)
def colophonref17_Cuts.f (k : Nat) (l0 : List (S39)) : Option (List Int) := colophonref17_Cuts.l0 k l0 (([0, 1114112] : List Int)) 0
theorem colophonref17_Cuts.mono_l : ∀ k, (∀ y0 y1 y2, LeO (colophonref17_Cuts.l0 k y0 y1 y2) (colophonref17_Cuts.l0 (k + 1) y0 y1 y2))
  | 0 => fun _ _ _ r h => by simp [colophonref17_Cuts.l0] at h
  | k + 1 => by
    have ih0 := colophonref17_Cuts.mono_l k
    · intro y0 y1 y2
      unfold colophonref17_Cuts.l0
      repeat' first
      | (with_reducible exact ih0 _ _ _)
      | (with_reducible exact colophonref17_with.mono _ _ _)
      | (with_reducible exact LeO.refl _)
      | (with_reducible exact LeO.none _)
      | (with_reducible refine LeO.ite ?_ ?_)
      | (with_reducible refine LeO.bind ?_ (fun _ => ?_))
      | exact ih0 _ _ _
      | exact colophonref17_with.mono _ _ _
      | exact LeO.none _
      | refine LeO.ite ?_ ?_
      | refine LeO.bind ?_ (fun _ => ?_)
theorem colophonref17_Cuts.mono : ∀ a0 k, LeO (colophonref17_Cuts.f k a0) (colophonref17_Cuts.f (k + 1) a0) := by
  intro a0 k
  have ih0 := colophonref17_Cuts.mono_l k
  unfold colophonref17_Cuts.f
  repeat' first
      | (with_reducible exact ih0 _ _ _)
      | (with_reducible exact colophonref17_with.mono _ _ _)
      | (with_reducible exact LeO.refl _)
      | (with_reducible exact LeO.none _)
      | (with_reducible refine LeO.ite ?_ ?_)
      | (with_reducible refine LeO.bind ?_ (fun _ => ?_))
      | exact ih0 _ _ _
      | exact colophonref17_with.mono _ _ _
      | exact LeO.none _
      | refine LeO.ite ?_ ?_
      | refine LeO.bind ?_ (fun _ => ?_)
def colophonref17_Cuts.T5 : Bool × List (List Nat × List Nat) := (true, [([], []), ([], []), ([], []), ([1, 2], [1, 2]), ([3], [3]), ([4], [4]), ([0, 5], [0, 5]), ([], []), ([], []), ([7, 8], [7, 8]), ([9], [9]), ([10], [10]), ([6, 11, 6], [6, 11]), ([12, 12, 0, 1, 2, 3, 4, 5, 6, 7, 8, 9, 10, 11, 12], [0, 12])])
def colophonref17_Cuts.B5 : List Nat := [0, 0, 0, 6, 14, 30, 63, 0, 0, 384, 896, 1920, 4095, 8191]
theorem colophonref17_Cuts.tab5 : rtab .any (opsOf Try.f38 5) = colophonref17_Cuts.T5 := by kernel_rfl
theorem colophonref17_Cuts.bits5 : waitsOk colophonref17_Cuts.T5.2 colophonref17_Cuts.B5 = true := by kernel_rfl
set_option maxHeartbeats 8000000 in
set_option maxRecDepth 100000 in
theorem colophonref17_Cuts.calls (k : Nat) (A0 : Option Addr) (c0 : Nat) (l0 : List (S39)) (r : List Int) (w : World) (hr0 : Kd.C k39 w A0 l0.length l0) (hc0 : l0.length ≤ c0) (h : colophonref17_Cuts.f k l0 = some r) :
    Calls Try.prog 38 #[.slice A0 l0.length c0] w fun e w' => ∃ v0_ : Value, e = .returned (v0_) ∧ Kd.R (Kd.int .i64) 3 w' w.heap.size (fun _ => True) v0_ r ∧ Below w.heap.size w w' := by
  have HR0 := Aside0.mk hr0
  have HC0 := Aside0.mk hc0
  clear hr0 hc0
  have HB := Aside0.mk (Below.refl w.heap.size w)
  have H : (colophonref17_Cuts.l0 k l0 (([0, 1114112] : List Int)) 0) = some r := h
  clear h
  obtain ⟨y131, hy131⟩ : ∃ y_ : List Int, y_ = (([0, 1114112] : List Int)) := ⟨_, rfl⟩
  replace H : (colophonref17_Cuts.l0 k l0 y131 0) = some r := by first | (rw [hy131]; with_reducible exact H) | (have H2_ := (Option.bind_some _ _).symm.trans H; rw [hy131]; with_reducible exact H2_) | (have H2_ := (Option.bind_some _ _).symm.trans H; with_reducible exact H2_) | with_reducible exact H | (rw [hy131]; exact H) | exact H
  have Ny131 := Aside0.mk hy131
  clear hy131
  have H' := Aside0.mk H
  clear H
  go_enter Try.func38, Try.ntmps38
  go_wp2_with (first | ((with_reducible refine gate_dst (N := 5) rfl ?_); refine Kd.R_lit (Kd.int .i64) _ 3 ?hg (N := 5) ?hd (xs := ([0, 1114112] : List Int)) (inner := [.int .i64 0, .int .i64 1114112]) (ok := fun _ => True) (okp := fun _ => True) ?hr ?hp (fun _ hk => hk) trivial (Below.refl _ _) (Nat.le_refl _) (by simp) ?_; (case hd => rfl); (case hg => rfl); (case hr => first | (go_simp; done) | (go_simp; rfl)); (case hp => exact (Reps.one (show Kd.M (Kd.int .i64) _ _ _ 0 [.int .i64 0] from rfl) (Reps.one (show Kd.M (Kd.int .i64) _ _ _ 1114112 [.int .i64 1114112] from rfl) (Reps.none _ _)))); intro v132 w2 ho3 hb hg_ hnew_; clear hg_ hnew_; (first | rw [← Ny131.out] at ho3 | (simp only [Int.reduceToNat] at ho3; rw [← Ny131.out] at ho3)); have n0_ := Aside0.mk (Kd.R_lower ho3 (below_size (by repeat (first | (with_reducible first | exact HB.out | apply below_alloc | apply pw_below_drewN | apply below_drew1) | exact HB.out)))); have n1_ := Aside0.mk (below_step (by repeat (first | (with_reducible first | exact HB.out | apply below_alloc | apply pw_below_drewN | apply below_drew1) | exact HB.out)) hb); clear HB; have HO133 := n0_; have HB := n1_; clear n0_ n1_; clear hb ho3))
  go_loopg [3, 4] k (fun kq v3 v4 w' => ∃ (x3_1 : List Int) (x4_1 : Int), v4 = .int .i64 x4_1 ∧ Aside0 (colophonref17_Cuts.l0 kq l0 x3_1 x4_1 = some r) ∧ Aside0 (kq ≤ k) ∧ Aside0 (Kd.R (Kd.int .i64) 3 w' w.heap.size (fun _ => True) v3 x3_1) ∧ Aside0 (Below w.heap.size w w'))
  case atStart => exact ⟨(y131), (0), (by first | rfl | (simp; done) | (simp [*]; done)), H', ⟨Nat.le_refl _⟩, ⟨by (with_reducible repeat (first | apply Kd.R_alloc | apply Kd.R_drewN | apply Kd.R_drew)); exact HO133.out⟩, ⟨by repeat (first | (with_reducible first | exact HB.out | apply below_alloc | apply pw_below_drewN | apply below_drew1) | exact HB.out)⟩⟩
  case round =>
    clear H'
    try clear p2
    try clear c3
    obtain ⟨x3_1, x4_1, rfl, HA, HK1, HO_3, HB⟩ := hrel
    cases gk with
    | zero => exact absurd HA.out (by simp [colophonref17_Cuts.l0])
    | succ k1 =>
      have H := HA.out
      clear HA
      simp only [colophonref17_Cuts.l0] at H
      by_cases c4 : x4_1 < (l0.length : Int)
      · rw [if_pos c4] at H
        have c4b0 : decide (x4_1 < (l0.length : Int)) = true := decide_eq_true c4
        clear c4
        by_cases c5 : 0 ≤ x4_1
        · rw [if_pos c5] at H
          have c5b0 : decide (0 ≤ x4_1) = true := decide_eq_true c5
          clear c5
          replace H := Option.bind_eq_some_iff.mp H
          obtain ⟨t135, A60, H⟩ := H
          replace H : ((colophonref17_with.f k1 t135 ((rd_T39 l0 x4_1).f1)).bind fun t139 => (colophonref17_Cuts.l0 k1 l0 t139 (wrap64 (x4_1 + 1)))) = some r := H
          have A6 := Aside0.mk A60
          clear A60
          replace H := Option.bind_eq_some_iff.mp H
          obtain ⟨t139, A70, H⟩ := H
          replace H : (colophonref17_Cuts.l0 k1 l0 t139 (wrap64 (x4_1 + 1))) = some r := H
          have A7 := Aside0.mk A70
          clear A70
          have H' := Aside0.mk H
          clear H
          try go_wp2
          have n0_ := Aside0.mk (Kd.R_drew HO_3.out)
          have n1_ := Aside0.mk (below_drew1 HB.out)
          clear HO_3
          clear HB
          have HO_3 := n0_
          have HB := n1_
          clear n0_ n1_
          have p134 : 0 ≤ (x4_1 : Int) := of_decide_eq_true (by first | (with_reducible assumption) | assumption)
          have q134 : x4_1 < (l0.length : Int) := of_decide_eq_true (by first | (with_reducible assumption) | assumption)
          obtain ⟨ad134, e134, hx134_0, hx134_1⟩ := at_T39 HR0.out x4_1 p134 q134
          have hw134_1 := hx134_1
          have hw134_0 := hx134_0
          cases e134
          replace hx134_0 := (HB.out.cell (World.block_lt_of_cell? w _ hx134_0)).trans hx134_0
          replace hx134_1 := (HB.out.cell (World.block_lt_of_cell? w _ hx134_1)).trans hx134_1
          replace p134 := eq_true p134
          replace q134 := eq_true q134
          have p138 : 0 ≤ (x4_1 : Int) := of_decide_eq_true (by first | (with_reducible assumption) | assumption)
          have q138 : x4_1 < (l0.length : Int) := of_decide_eq_true (by first | (with_reducible assumption) | assumption)
          obtain ⟨ad138, e138, hx138_0, hx138_1⟩ := at_T39 HR0.out x4_1 p138 q138
          have hw138_1 := hx138_1
          have hw138_0 := hx138_0
          obtain rfl : ad134 = ad138 := (by injection e138)
          replace hx138_0 := (HB.out.cell (World.block_lt_of_cell? w _ hx138_0)).trans hx138_0
          replace hx138_1 := (HB.out.cell (World.block_lt_of_cell? w _ hx138_1)).trans hx138_1
          replace p138 := eq_true p138
          replace q138 := eq_true q138
          obtain ⟨Ao9, co9, eo9⟩ := Kd.R_slice HO_3.out
          (first | subst eo9 | (injection eo9 with f1_ f2_ f3_; have f4_ := f1_.symm; have f5_ := f3_.symm; clear f1_ f2_ f3_; subst f4_; subst f5_))
          refine start_ (n := 14) (S := fun w' => w'.cell? (ad134.add ((x4_1).toNat * 2)) = some (.int .i64 ((rd_T39 l0 x4_1).f0)) ∧ w'.cell? ⟨(ad134.add ((x4_1).toNat * 2)).block, (ad134.add ((x4_1).toNat * 2)).off + 1, none⟩ = some (.int .i64 ((rd_T39 l0 x4_1).f1)) ∧ w'.cell? (ad134.add ((x4_1).toNat * 2)) = some (.int .i64 ((rd_T39 l0 x4_1).f0)) ∧ w'.cell? ⟨(ad134.add ((x4_1).toNat * 2)).block, (ad134.add ((x4_1).toNat * 2)).off + 1, none⟩ = some (.int .i64 ((rd_T39 l0 x4_1).f1))) (ds := []) #[false, false, false, false, false, false, false, false, false, false, false, false, false, false] (by kernel_rfl) rfl rfl ⟨((HB.out.cell (World.block_lt_of_cell? w _ hw134_0)).trans hw134_0), ((HB.out.cell (World.block_lt_of_cell? w _ hw134_1)).trans hw134_1), ((HB.out.cell (World.block_lt_of_cell? w _ hw138_0)).trans hw138_0), ((HB.out.cell (World.block_lt_of_cell? w _ hw138_1)).trans hw138_1)⟩ (fun hHeld => ?_); refine with_tabW colophonref17_Cuts.tab5 colophonref17_Cuts.bits5 (fun HT_ HW_ => ?_)
          generalize wr.drew = w8 at HO_3 HB hx134_0 hx134_1 hx138_0 hx138_1 hHeld ⊢
          refine pure_ (i := 0) (N := some 12) (v := ?_) (a' := ?_) #[true, false, false, false, false, false, false, false, false, false, false, false, false, false] rfl rfl (any_of HT_.out (by kernel_rfl)) (fun _ _ _ h => h) (Or.inl ⟨by rfl, ?_⟩) ?_ ?_
          rotate_left
          · intro w'
            go_simp
            with_reducible rfl
          rotate_left
          · simp only [Act.put, List.setIfInBounds_toArray, List.set_cons_zero, List.set_cons_succ, i64_w, i32_w]
            rfl
          refine pure_ (i := 1) (N := some 13) (v := ?_) (a' := ?_) #[true, true, false, false, false, false, false, false, false, false, false, false, false, false] rfl rfl (any_of HT_.out (by kernel_rfl)) (fun _ _ _ h => h) (Or.inl ⟨by rfl, ?_⟩) ?_ ?_
          rotate_left
          · intro w'
            go_simp
            with_reducible rfl
          rotate_left
          · simp only [Act.put, List.setIfInBounds_toArray, List.set_cons_zero, List.set_cons_succ, i64_w, i32_w]
            rfl
          refine pure_ (i := 2) (N := some 14) (v := ?_) (a' := ?_) #[true, true, true, false, false, false, false, false, false, false, false, false, false, false] rfl rfl (any_of HT_.out (by kernel_rfl)) (fun _ _ _ h => h) (Or.inl ⟨by rfl, ?_⟩) ?_ ?_
          rotate_left
          · intro w'
            go_simp
            with_reducible rfl
          rotate_left
          · simp only [Act.put, List.setIfInBounds_toArray, List.set_cons_zero, List.set_cons_succ, i64_w, i32_w]
            rfl
          refine pure_ (i := 3) (N := some 15) (v := ?_) (a' := ?_) #[true, true, true, true, false, false, false, false, false, false, false, false, false, false] rfl rfl (any_of HT_.out (by kernel_rfl)) (fun _ _ _ h => h) (Or.inl ⟨by rfl, ?_⟩) ?_ ?_
          rotate_left
          · intro w'
            go_simp
            with_reducible rfl
          rotate_left
          · simp only [Act.put, List.setIfInBounds_toArray, List.set_cons_zero, List.set_cons_succ, i64_w, i32_w]
            rfl
          refine pure_ (i := 4) (N := some 16) (v := ?_) (a' := ?_) #[true, true, true, true, true, false, false, false, false, false, false, false, false, false] rfl rfl (any_of HT_.out (by kernel_rfl)) (fun _ _ _ h => h) (Or.inl ⟨by rfl, ?_⟩) ?_ ?_
          rotate_left
          · intro w'
            go_simp
            with_reducible rfl
          rotate_left
          · simp only [Act.put, List.setIfInBounds_toArray, List.set_cons_zero, List.set_cons_succ, i64_w, i32_w]
            rfl
          refine pure_ (i := 7) (N := some 19) (v := ?_) (a' := ?_) #[true, true, true, true, true, false, false, true, false, false, false, false, false, false] rfl rfl (any_of HT_.out (by kernel_rfl)) (fun _ _ _ h => h) (Or.inl ⟨by rfl, ?_⟩) ?_ ?_
          rotate_left
          · intro w'
            go_simp
            with_reducible rfl
          rotate_left
          · simp only [Act.put, List.setIfInBounds_toArray, List.set_cons_zero, List.set_cons_succ, i64_w, i32_w]
            rfl
          refine pure_ (i := 8) (N := some 20) (v := ?_) (a' := ?_) #[true, true, true, true, true, false, false, true, true, false, false, false, false, false] rfl rfl (any_of HT_.out (by kernel_rfl)) (fun _ _ _ h => h) (Or.inl ⟨by rfl, ?_⟩) ?_ ?_
          rotate_left
          · intro w'
            go_simp
            with_reducible rfl
          rotate_left
          · simp only [Act.put, List.setIfInBounds_toArray, List.set_cons_zero, List.set_cons_succ, i64_w, i32_w]
            rfl
          refine pure_ (i := 9) (N := some 21) (v := ?_) (a' := ?_) #[true, true, true, true, true, false, false, true, true, true, false, false, false, false] rfl rfl (any_of HT_.out (by kernel_rfl)) (fun _ _ _ h => h) (Or.inl ⟨by rfl, ?_⟩) ?_ ?_
          rotate_left
          · intro w'
            go_simp
            with_reducible rfl
          rotate_left
          · simp only [Act.put, List.setIfInBounds_toArray, List.set_cons_zero, List.set_cons_succ, i64_w, i32_w]
            rfl
          refine pure_ (i := 10) (N := some 22) (v := ?_) (a' := ?_) #[true, true, true, true, true, false, false, true, true, true, true, false, false, false] rfl rfl (any_of HT_.out (by kernel_rfl)) (fun _ _ _ h => h) (Or.inl ⟨by rfl, ?_⟩) ?_ ?_
          rotate_left
          · intro w'
            go_simp
            with_reducible rfl
          rotate_left
          · simp only [Act.put, List.setIfInBounds_toArray, List.set_cons_zero, List.set_cons_succ, i64_w, i32_w]
            rfl
          refine take_ (i := 5) (N := some 17) (v := ?_) (a' := ?_) #[true, true, true, true, true, true, false, true, true, true, true, false, false, false] rfl rfl (take_ofW HT_.out HW_.out (by kernel_rfl)) (fun _ _ _ h => h) (Or.inl ⟨by rfl, ?_⟩) hHeld ?_ ?_
          rotate_left
          · rintro w' ⟨s0, s1, s2, s3⟩
            go_simp
            with_reducible rfl
          rotate_left
          · simp only [Act.put, List.setIfInBounds_toArray, List.set_cons_zero, List.set_cons_succ, i64_w, i32_w]
            rfl
          refine take_ (i := 11) (N := some 23) (v := ?_) (a' := ?_) #[true, true, true, true, true, true, false, true, true, true, true, true, false, false] rfl rfl (take_ofW HT_.out HW_.out (by kernel_rfl)) (fun _ _ _ h => h) (Or.inl ⟨by rfl, ?_⟩) hHeld ?_ ?_
          rotate_left
          · rintro w' ⟨s0, s1, s2, s3⟩
            go_simp
            with_reducible rfl
          rotate_left
          · simp only [Act.put, List.setIfInBounds_toArray, List.set_cons_zero, List.set_cons_succ, i64_w, i32_w]
            rfl
          refine one_ (i := 6) (N := some 18) #[true, true, true, true, true, true, true, true, true, true, true, true, false, false] rfl rfl (one_of HT_.out (by kernel_rfl)) (by decide) (fun K hK => ?_)
          refine goes_ Try.func54 (by kernel_rfl) rfl #[.slice Ao9 x3_1.length co9, .int .i64 ((rd_T39 l0 x4_1).f0)] (by rfl) rfl rfl (by (try simp only [List.map_toArray, List.map_cons, List.map_nil]); first | done | rfl | (simp only [List.length_drop, List.length_take]; rfl)) ?_
          with_reducible refine (colophonref17_with.calls k1 _ _ x3_1 ((rd_T39 l0 x4_1).f0) t135 _ ?side1 ?side2 A6.out).mono ?_
          (case side1 => repeat (first | exact (Kd.R_reads' HO_3.out).2.2 | (with_reducible refine Kd.C_alloc ?_ _) | (with_reducible refine Kd.C_drewN ?_ _) | (with_reducible refine Kd.C_drew ?_)))
          (case side2 => exact (Kd.R_reads' HO_3.out).2.1)
          rintro e w10 ⟨v136, rfl, ho0, hb⟩
          refine ⟨_, rfl, ?_⟩
          have n0_ := Aside0.mk (Kd.R_elder' (by (with_reducible repeat (first | apply Kd.R_alloc | apply Kd.R_drewN | apply Kd.R_drew)); exact HO_3.out) (Kd.R_base ho0) hb)
          have n1_ := Aside0.mk (Kd.R_lower (Kd.R_new' ho0 (Kd.R_lt (by (with_reducible repeat (first | apply Kd.R_alloc | apply Kd.R_drewN | apply Kd.R_drew)); exact HO_3.out))) (below_size (by repeat (first | (with_reducible first | exact HB.out | apply below_alloc | apply pw_below_drewN | apply below_drew1) | exact HB.out))))
          have n2_ := Aside0.mk (below_step (by repeat (first | (with_reducible first | exact HB.out | apply below_alloc | apply pw_below_drewN | apply below_drew1) | exact HB.out)) hb)
          clear HO_3
          clear HB
          have HO_3 := n0_
          have HO137 := n1_
          have HB := n2_
          clear n0_ n1_ n2_
          (try clear hb)
          (try clear hb2)
          (try clear hk)
          (try clear hi)
          (try clear ho0)
          obtain ⟨Ao11, co11, eo11⟩ := Kd.R_slice HO137.out
          (first | subst eo11 | (injection eo11 with f1_ f2_ f3_; have f4_ := f1_.symm; have f5_ := f3_.symm; clear f1_ f2_ f3_; subst f4_; subst f5_))
          refine hK.out _ _ ⟨((HB.out.cell (World.block_lt_of_cell? w _ hw134_0)).trans hw134_0), ((HB.out.cell (World.block_lt_of_cell? w _ hw134_1)).trans hw134_1), ((HB.out.cell (World.block_lt_of_cell? w _ hw138_0)).trans hw138_0), ((HB.out.cell (World.block_lt_of_cell? w _ hw138_1)).trans hw138_1)⟩ (fun hHeld => ?_)
          clear hK K
          refine norm_ (a' := ?_) ?_ ?_
          rotate_left
          · show Act.put _ (some 18) _ = _
            simp only [Act.put, List.setIfInBounds_toArray, List.set_cons_zero, List.set_cons_succ, i64_w, i32_w]
            rfl
          refine one_ (i := 12) (N := some 24) #[true, true, true, true, true, true, true, true, true, true, true, true, true, false] rfl rfl (one_of HT_.out (by kernel_rfl)) (by decide) (fun K hK => ?_)
          refine goes_ Try.func54 (by kernel_rfl) rfl #[.slice Ao11 t135.length co11, .int .i64 ((rd_T39 l0 x4_1).f1)] (by rfl) rfl rfl (by (try simp only [List.map_toArray, List.map_cons, List.map_nil]); first | done | rfl | (simp only [List.length_drop, List.length_take]; rfl)) ?_
          with_reducible refine (colophonref17_with.calls k1 _ _ t135 ((rd_T39 l0 x4_1).f1) t139 _ ?side1 ?side2 A7.out).mono ?_
          (case side1 => repeat (first | exact (Kd.R_reads' HO137.out).2.2 | (with_reducible refine Kd.C_alloc ?_ _) | (with_reducible refine Kd.C_drewN ?_ _) | (with_reducible refine Kd.C_drew ?_)))
          (case side2 => exact (Kd.R_reads' HO137.out).2.1)
          rintro e w12 ⟨v140, rfl, ho0, hb⟩
          refine ⟨_, rfl, ?_⟩
          have n0_ := Aside0.mk (Kd.R_elder' (by (with_reducible repeat (first | apply Kd.R_alloc | apply Kd.R_drewN | apply Kd.R_drew)); exact HO_3.out) (Kd.R_base ho0) hb)
          have n1_ := Aside0.mk (Kd.R_elder' (by (with_reducible repeat (first | apply Kd.R_alloc | apply Kd.R_drewN | apply Kd.R_drew)); exact HO137.out) (Kd.R_base ho0) hb)
          have n2_ := Aside0.mk (Kd.R_lower (Kd.R_new' (Kd.R_new' ho0 (Kd.R_lt (by (with_reducible repeat (first | apply Kd.R_alloc | apply Kd.R_drewN | apply Kd.R_drew)); exact HO_3.out))) (Kd.R_lt (by (with_reducible repeat (first | apply Kd.R_alloc | apply Kd.R_drewN | apply Kd.R_drew)); exact HO137.out))) (below_size (by repeat (first | (with_reducible first | exact HB.out | apply below_alloc | apply pw_below_drewN | apply below_drew1) | exact HB.out))))
          have n3_ := Aside0.mk (below_step (by repeat (first | (with_reducible first | exact HB.out | apply below_alloc | apply pw_below_drewN | apply below_drew1) | exact HB.out)) hb)
          clear HO_3
          clear HO137
          clear HB
          have HO_3 := n0_
          have HO137 := n1_
          have HO141 := n2_
          have HB := n3_
          clear n0_ n1_ n2_ n3_
          (try clear hb)
          (try clear hb2)
          (try clear hk)
          (try clear hi)
          (try clear ho0)
          refine hK.out _ _ ⟨((HB.out.cell (World.block_lt_of_cell? w _ hw134_0)).trans hw134_0), ((HB.out.cell (World.block_lt_of_cell? w _ hw134_1)).trans hw134_1), ((HB.out.cell (World.block_lt_of_cell? w _ hw138_0)).trans hw138_0), ((HB.out.cell (World.block_lt_of_cell? w _ hw138_1)).trans hw138_1)⟩ (fun hHeld => ?_)
          clear hK K
          refine norm_ (a' := ?_) ?_ ?_
          rotate_left
          · show Act.put _ (some 24) _ = _
            simp only [Act.put, List.setIfInBounds_toArray, List.set_cons_zero, List.set_cons_succ, i64_w, i32_w]
            rfl
          refine pure_ (i := 13) (N := some 3) (v := ?_) (a' := ?_) #[true, true, true, true, true, true, true, true, true, true, true, true, true, true] rfl rfl (any_of HT_.out (by kernel_rfl)) (fun _ _ _ h => h) (Or.inl ⟨by rfl, ?_⟩) ?_ ?_
          rotate_left
          · intro w'
            go_simp
            with_reducible rfl
          rotate_left
          · simp only [Act.put, List.setIfInBounds_toArray, List.set_cons_zero, List.set_cons_succ, i64_w, i32_w]
            rfl
          refine done_ (done_of HT_.out (by kernel_rfl)) ?_
          try go_wp2
          go_roundg k1
          case measure => have := HK1.out; omega
          case rel => exact ⟨(t139), (wrap64 (x4_1 + 1)), (by first | rfl | (simp; done) | (simp [*]; done)), H', ⟨by have := HK1.out; omega⟩, ⟨by (with_reducible repeat (first | apply Kd.R_alloc | apply Kd.R_drewN | apply Kd.R_drew)); exact Kd.R_mono HO141.out (fun _ hk => trivial)⟩, ⟨by repeat (first | (with_reducible first | exact HB.out | apply below_alloc | apply pw_below_drewN | apply below_drew1) | exact HB.out)⟩⟩
        · rw [if_neg c5] at H
          exact absurd H (by simp)
      · rw [if_neg c4] at H
        have c4b0 : decide (x4_1 < (l0.length : Int)) = false := decide_eq_false c4
        clear c4
        obtain rfl := Option.some.inj H
        go_wp2
        go_ret
        exact ⟨_, by first | rfl | (simp [errW_none, errW_some] <;> rfl) | (simp [*, errW_none, errW_some] <;> rfl), by (with_reducible repeat (first | apply Kd.R_alloc | apply Kd.R_drewN | apply Kd.R_drew)); exact HO_3.out, by repeat (first | (with_reducible first | exact HB.out | apply below_alloc | apply pw_below_drewN | apply below_drew1) | exact HB.out)⟩
def colophonref17_Add.f (l0 : List (S39)) (a1 : Int) (a2 : Int) : Option ((List (S39))) := if (l0.length : Int) > 0 then (if 0 ≤ (wrap64 ((l0.length : Int) - 1)) then (if (wrap64 ((l0.length : Int) - 1)) < (l0.length : Int) then (if ((rd_T39 l0 (wrap64 ((l0.length : Int) - 1))).f1) = a1 then (some (l0.set ((wrap64 ((l0.length : Int) - 1)) : Int).toNat (⟨(rd_T39 l0 (wrap64 ((l0.length : Int) - 1))).f0, a2⟩ : S39))) else (if l0.length < 8796093022208 then (some (l0 ++ [(⟨a1, a2⟩ : S39)])) else (none))) else (none)) else (none)) else (if l0.length < 8796093022208 then (some (l0 ++ [(⟨a1, a2⟩ : S39)])) else (none))
set_option maxHeartbeats 8000000 in
set_option maxRecDepth 100000 in
theorem colophonref17_Add.calls (P0_ : Nat → Prop) (u9000_ : Value) (l0 : List (S39)) (a1 : Int) (a2 : Int) (r : List (S39)) (w0 w : World) (hB : Below w0.heap.size w0 w) (ho0 : Kd.R k39 39 w w0.heap.size P0_ u9000_ l0) (h : colophonref17_Add.f l0 a1 a2 = some r) :
    Calls Try.prog 39 #[u9000_, .int .i64 a1, .int .i64 a2] w fun e w' => ∃ v0_ : Value, e = .returned (v0_) ∧ Kd.R k39 39 w' w0.heap.size (fun k_ => (P0_ k_ ∨ w.heap.size ≤ k_)) v0_ r ∧ Below w0.heap.size w0 w' ∧ Kept w w' (fun k_ => P0_ k_) := by
  have hu39 := Try.underlying39
  have HO0 := Aside0.mk (show Kd.R k39 39 w w0.heap.size (fun k_ => (P0_ k_ ∨ w.heap.size ≤ k_)) u9000_ l0 from Kd.R_mono ho0 (fun k_ hk => (.inl hk)))
  have HK := Aside0.mk (Kept.refl w (fun k_ => P0_ k_))
  have HW0 := Aside0.mk hB.size
  have HB := Aside0.mk hB
  clear hB
  have H : (if (l0.length : Int) > 0 then (if 0 ≤ (wrap64 ((l0.length : Int) - 1)) then (if (wrap64 ((l0.length : Int) - 1)) < (l0.length : Int) then (if ((rd_T39 l0 (wrap64 ((l0.length : Int) - 1))).f1) = a1 then (some (l0.set ((wrap64 ((l0.length : Int) - 1)) : Int).toNat (⟨(rd_T39 l0 (wrap64 ((l0.length : Int) - 1))).f0, a2⟩ : S39))) else (if l0.length < 8796093022208 then (some (l0 ++ [(⟨a1, a2⟩ : S39)])) else (none))) else (none)) else (none)) else (if l0.length < 8796093022208 then (some (l0 ++ [(⟨a1, a2⟩ : S39)])) else (none))) = some r := h
  clear h
  by_cases c4 : (l0.length : Int) > 0
  · rw [if_pos c4] at H
    have c4b0 : decide (0 < (l0.length : Int)) = true := decide_eq_true c4
    have c4b1 : decide (0 < l0.length) = true := decide_eq_true (by omega)
    clear c4
    obtain ⟨ji5, hji5⟩ : ∃ j_ : Int, (wrap64 ((l0.length : Int) - 1)) = j_ := ⟨_, rfl⟩
    replace H : (if 0 ≤ (ji5) then (if (ji5) < (l0.length : Int) then (if ((rd_T39 l0 (ji5)).f1) = a1 then (some (l0.set ((ji5) : Int).toNat (⟨(rd_T39 l0 (ji5)).f0, a2⟩ : S39))) else (if l0.length < 8796093022208 then (some (l0 ++ [(⟨a1, a2⟩ : S39)])) else (none))) else (none)) else (none)) = some r := by first | (rw [hji5] at H; exact H) | (simp only [hji5] at H ⊢; exact H)
    have hji5w : (IntKind.i64.wrap ((l0.length : Int) - 1)) = ji5 := (i64_w _).trans hji5
    by_cases c6 : 0 ≤ (ji5)
    · rw [if_pos c6] at H
      have c6b0 : decide (0 ≤ (ji5)) = true := decide_eq_true c6
      clear c6
      by_cases c7 : (ji5) < (l0.length : Int)
      · rw [if_pos c7] at H
        have c7b0 : decide ((ji5) < (l0.length : Int)) = true := decide_eq_true c7
        clear c7
        by_cases c8 : ((rd_T39 l0 (ji5)).f1) = a1
        · rw [if_pos c8] at H
          have c8b0 : (((rd_T39 l0 (ji5)).f1) == a1) = true := beq_iff_eq.mpr c8
          have c8b1 : (((rd_T39 l0 (ji5)).f1) != a1) = false := bne_eq_false_iff_eq.mpr c8
          clear c8
          obtain ⟨y143, hy143⟩ : ∃ y_ : List (S39), y_ = (l0.set ((ji5) : Int).toNat (⟨(rd_T39 l0 (ji5)).f0, a2⟩ : S39)) := ⟨_, rfl⟩
          replace H : (some y143) = some r := by first | (rw [hy143]; with_reducible exact H) | (have H2_ := (Option.bind_some _ _).symm.trans H; rw [hy143]; with_reducible exact H2_) | (have H2_ := (Option.bind_some _ _).symm.trans H; with_reducible exact H2_) | with_reducible exact H | (rw [hy143]; exact H) | exact H
          have Ny143 := Aside0.mk hy143
          clear hy143
          obtain rfl := Option.some.inj H
          obtain ⟨Ao10, co10, eo10⟩ := Kd.R_slice HO0.out
          subst eo10
          have p142 : 0 ≤ ((ji5) : Int) := of_decide_eq_true (by first | (with_reducible assumption) | assumption)
          have q142 : (ji5) < (l0.length : Int) := of_decide_eq_true (by first | (with_reducible assumption) | assumption)
          obtain ⟨ad142, e142, hx142_0, hx142_1⟩ := at_T39 (Kd.R_reads' HO0.out).2.2 (ji5) p142 q142
          cases e142
          replace p142 := eq_true p142
          replace q142 := eq_true q142
          have p9 : 0 ≤ ((ji5) : Int) := of_decide_eq_true (by first | (with_reducible assumption) | assumption)
          have q9 : ((ji5) : Int) < ((l0.length : Int) : Int) := of_decide_eq_true (by first | (with_reducible assumption) | assumption)
          obtain ⟨go9, co9, eo9, gb9, gl9, cl9, HG9⟩ := Kd.R_form HO0.out (by omega)
          (first | cases eo9 | (injection eo9 with ea_ en_ ec_; (first | subst ea_ | (injection ea_ with ea_; subst ea_)); subst ec_; clear en_))
          have GB9 := Aside0.mk gb9
          have GG9 := Aside0.mk HG9
          clear gb9 gl9 HG9
          have HMgo9 := Aside0.mk (show (P0_ go9 ∨ w.heap.size ≤ go9) from (HO0.out.1 _ rfl))
          (first | simp only [add_plain] at hx142_0 | skip)
          (first | simp only [add_plain] at hx142_1 | skip)
          obtain ⟨ce9, hcl9, hM9, hcc9, hfr9⟩ := Kd.R_elem HO0.out z39 ((ji5) : Int) p9 q9
          obtain rfl := k39_openM hM9
          have hx9_0 : w.cell? ⟨go9, ((ji5) : Int).toNat * 2, none⟩ = some (.int .i64 ((rd_T39 l0 (ji5)).f0)) := hcc9 0 _ rfl
          have hx9_1 : w.cell? ⟨go9, ((ji5) : Int).toNat * 2 + 1, none⟩ = some (.int .i64 ((rd_T39 l0 (ji5)).f1)) := hcc9 1 _ rfl
          have hf9_0 : w.frozen? ⟨go9, ((ji5) : Int).toNat * 2, none⟩ = false := hfr9 0
          have hf9_1 : w.frozen? ⟨go9, ((ji5) : Int).toNat * 2 + 1, none⟩ = false := hfr9 1
          clear hcl9 hcc9 hfr9 hM9
          replace p9 := eq_true p9
          replace q9 := eq_true q9
          have HX11 := Aside0.mk (show Kd.R k39 39 w w0.heap.size (fun k_ => (P0_ k_ ∨ w.heap.size ≤ k_)) (.slice (some ⟨go9, 0, none⟩) l0.length co10) l0 from (by (with_reducible repeat (first | apply Kd.R_alloc | apply Kd.R_drewN | apply Kd.R_drew)); exact HO0.out))
          obtain ⟨ce11, hcl11, hM11, hcc11, hfr11⟩ := Kd.R_elem HX11.out z39 ((ji5) : Int) (of_decide_eq_true (by first | (with_reducible assumption) | assumption)) (by have h_ : ((ji5) : Int) < ((l0.length : Int) : Int) := of_decide_eq_true (by first | (with_reducible assumption) | assumption); first | exact h_ | (have e_ := (Kd.R_reads' HO0.out).1; omega) | simpa using h_)
          obtain rfl := k39_openM hM11
          have HP11 := Kd.R_seg HX11.out ((ji5) : Int) (of_decide_eq_true (by first | (with_reducible assumption) | assumption)) (by have h_ : ((ji5) : Int) < ((l0.length : Int) : Int) := of_decide_eq_true (by first | (with_reducible assumption) | assumption); first | exact h_ | (have e_ := (Kd.R_reads' HO0.out).1; omega) | simpa using h_) (seg := [.int .i64 a2]) (j := 1) hcl11 hcc11 (show 2 ≤ 2 from by decide) (x' := (⟨(rd_T39 l0 (ji5)).f0, a2⟩ : S39)) (k39_mkM _ _ _ (⟨(rd_T39 l0 (ji5)).f0, a2⟩ : S39) ) (fun _ hk => hk)
          have hx11_1 := hcc11 1 _ rfl
          (try simp only [show (k39).sz = 2 from rfl, Nat.mul_one, Nat.add_zero] at hx11_1)
          have hf11_1 := hfr11 1
          (try simp only [show (k39).sz = 2 from rfl, Nat.mul_one, Nat.add_zero] at hf11_1)
          clear hcl11 hcc11 hfr11 hM11
          go_enter Try.func39, Try.ntmps39
          go_wp2_with (first | ((with_reducible refine gate_store (t := 3) (p := 27) rfl ?_); refine store_event (t := 3) (p := 27) (v := ?vo_w12) (w1 := (w.setCell ⟨go9, ((ji5) : Int).toNat * 2 + 1, none⟩ (.int .i64 a2))) ?hg ?ho ?hn ?hr ?_; (case ho => rfl); (case hg => rfl); (case hn => rfl); (case hr => first | (go_simp; done) | (go_simp; rfl)); intro w12 hw; have hg : w.grownBy w12 (some go9) := (by rw [hw]; exact HP11.2); have hp_ : Kd.R k39 39 w12 w0.heap.size (fun k_ => (P0_ k_ ∨ w.heap.size ≤ k_)) (.slice (some ⟨go9, 0, none⟩) l0.length co10) y143 := (by rw [hw, Ny143.out]; exact HP11.1); clear HP11; have n0_ := Aside0.mk (hp_); have n1_ := Aside0.mk ((by rw [hw]; exact below_set (HB.out) GB9.out : Below w0.heap.size w0 w12)); have n2_ := Aside0.mk (Kept.of_grown (S := (fun k_ => P0_ k_)) hg (by repeat (first | (with_reducible first | exact HK.out | apply Kept.alloc | apply Kept.drewN | apply Kept.drew) | exact HK.out)) (fun k_ e_ => (HO0.out.1 k_ e_))); clear HO0; clear HB; clear HK; have HO0 := n0_; have HB := n1_; have HK := n2_; clear n0_ n1_ n2_; clear hg hw hp_))
          go_ret
          exact ⟨_, by first | rfl | (simp [errW_none, errW_some] <;> rfl) | (simp only [← hji5]; first | rfl | (simp [errW_none, errW_some] <;> rfl)) | (simp [*, errW_none, errW_some] <;> rfl), by (with_reducible repeat (first | apply Kd.R_alloc | apply Kd.R_drewN | apply Kd.R_drew)); exact HO0.out, by repeat (first | (with_reducible first | exact HB.out | apply below_alloc | apply pw_below_drewN | apply below_drew1) | exact HB.out), by repeat (first | (with_reducible first | exact HK.out | apply Kept.alloc | apply Kept.drewN | apply Kept.drew) | exact HK.out)⟩
        · rw [if_neg c8] at H
          have c8b0 : (((rd_T39 l0 (ji5)).f1) == a1) = false := beq_eq_false_iff_ne.mpr c8
          have c8b1 : (((rd_T39 l0 (ji5)).f1) != a1) = true := bne_iff_ne.mpr c8
          by_cases c13 : l0.length < 8796093022208
          · rw [if_pos c13] at H
            have LMc13 := Aside0.mk c13
            clear c13
            obtain ⟨y144, hy144⟩ : ∃ y_ : List (S39), y_ = (l0 ++ [(⟨a1, a2⟩ : S39)]) := ⟨_, rfl⟩
            replace H : (some y144) = some r := by first | (rw [hy144]; with_reducible exact H) | (have H2_ := (Option.bind_some _ _).symm.trans H; rw [hy144]; with_reducible exact H2_) | (have H2_ := (Option.bind_some _ _).symm.trans H; with_reducible exact H2_) | with_reducible exact H | (rw [hy144]; exact H) | exact H
            have Ny144 := Aside0.mk hy144
            clear hy144
            obtain rfl := Option.some.inj H
            obtain ⟨Ao14, co14, eo14⟩ := Kd.R_slice HO0.out
            subst eo14
            have p142 : 0 ≤ ((ji5) : Int) := of_decide_eq_true (by first | (with_reducible assumption) | assumption)
            have q142 : (ji5) < (l0.length : Int) := of_decide_eq_true (by first | (with_reducible assumption) | assumption)
            obtain ⟨ad142, e142, hx142_0, hx142_1⟩ := at_T39 (Kd.R_reads' HO0.out).2.2 (ji5) p142 q142
            cases e142
            replace p142 := eq_true p142
            replace q142 := eq_true q142
            go_enter Try.func39, Try.ntmps39
            go_wp2_with (first | ((with_reducible refine gate_builtin (b := .append) (xs := #[.tmp 29, .tmp 33]) rfl ?_); (try (refine gate_guard (by rfl) ?_; dsimp only)); at_builtin; refine Kd.R_append k39 (w0 := w0) w0.heap.size rfl (.tmp 29) (.tmp 33) 22 39 (.agg #[(.int .i64 0), (.int .i64 0)]) 16 rfl Try.underlying22 info39 rfl (by decide) (by omega) (.slice (some ad142) l0.length co14) l0 (⟨a1, a2⟩ : S39) [.int .i64 a1, .int .i64 a2] (fun k_ => (P0_ k_ ∨ w.heap.size ≤ k_)) (fun _ => False) rfl rfl ?aP (fun _ hk => hk.elim) ?aF ?aO ?aB ?aS ?aL ?_; (case aP => exact k39_mkM _ _ _ (⟨a1, a2⟩ : S39)); (case aB => exact (by repeat (first | (with_reducible first | exact HB.out | apply below_alloc | apply pw_below_drewN | apply below_drew1) | exact HB.out))); (case aF => exact (fun k_ hk => (.inr (Nat.le_trans (by first | exact HK.out.1 | exact (show Kept w _ (fun k_ => P0_ k_) from by repeat (first | (with_reducible first | exact HK.out | apply Kept.alloc | apply Kept.drewN | apply Kept.drew) | exact HK.out)).1) hk)))); (case aO => exact (by (with_reducible repeat (first | apply Kd.R_alloc | apply Kd.R_drewN | apply Kd.R_drew)); exact HO0.out)); (case aS => exact (below_size (by repeat (first | (with_reducible first | exact HB.out | apply below_alloc | apply pw_below_drewN | apply below_drew1) | exact HB.out)))); (case aL => have := LMc13.out; omega); intro v145 w15 ho hb hg hat; rw [← Ny144.out] at ho; have n0_ := Aside0.mk (hb); have n1_ := Aside0.mk (Kept.of_grown (S := (fun k_ => P0_ k_)) hg (by repeat (first | (with_reducible first | exact HK.out | apply Kept.alloc | apply Kept.drewN | apply Kept.drew) | exact HK.out)) (fun k_ e_ => (HO0.out.1 k_ e_))); have n2_ := Aside0.mk (ho); clear HB; clear HK; clear HO0; have HB := n0_; have HK := n1_; have HO146 := n2_; clear n0_ n1_ n2_; clear ho hb hg hat))
            go_ret
            exact ⟨_, by first | rfl | (simp [errW_none, errW_some] <;> rfl) | (simp only [← hji5]; first | rfl | (simp [errW_none, errW_some] <;> rfl)) | (simp [*, errW_none, errW_some] <;> rfl), by (with_reducible repeat (first | apply Kd.R_alloc | apply Kd.R_drewN | apply Kd.R_drew)); exact HO146.out, by repeat (first | (with_reducible first | exact HB.out | apply below_alloc | apply pw_below_drewN | apply below_drew1) | exact HB.out), by repeat (first | (with_reducible first | exact HK.out | apply Kept.alloc | apply Kept.drewN | apply Kept.drew) | exact HK.out)⟩
          · rw [if_neg c13] at H
            exact absurd H (by simp)
      · rw [if_neg c7] at H
        exact absurd H (by simp)
    · rw [if_neg c6] at H
      exact absurd H (by simp)
  · rw [if_neg c4] at H
    have c4b0 : decide (0 < (l0.length : Int)) = false := decide_eq_false c4
    have c4b1 : decide (0 < l0.length) = false := decide_eq_false (by omega)
    clear c4
    by_cases c16 : l0.length < 8796093022208
    · rw [if_pos c16] at H
      have LMc16 := Aside0.mk c16
      clear c16
      obtain ⟨y147, hy147⟩ : ∃ y_ : List (S39), y_ = (l0 ++ [(⟨a1, a2⟩ : S39)]) := ⟨_, rfl⟩
      replace H : (some y147) = some r := by first | (rw [hy147]; with_reducible exact H) | (have H2_ := (Option.bind_some _ _).symm.trans H; rw [hy147]; with_reducible exact H2_) | (have H2_ := (Option.bind_some _ _).symm.trans H; with_reducible exact H2_) | with_reducible exact H | (rw [hy147]; exact H) | exact H
      have Ny147 := Aside0.mk hy147
      clear hy147
      obtain rfl := Option.some.inj H
      obtain ⟨Ao17, co17, eo17⟩ := Kd.R_slice HO0.out
      subst eo17
      go_enter Try.func39, Try.ntmps39
      go_wp2_with (first | ((with_reducible refine gate_builtin (b := .append) (xs := #[.tmp 29, .tmp 33]) rfl ?_); (try (refine gate_guard (by rfl) ?_; dsimp only)); at_builtin; refine Kd.R_append k39 (w0 := w0) w0.heap.size rfl (.tmp 29) (.tmp 33) 22 39 (.agg #[(.int .i64 0), (.int .i64 0)]) 16 rfl Try.underlying22 info39 rfl (by decide) (by omega) (.slice Ao17 l0.length co17) l0 (⟨a1, a2⟩ : S39) [.int .i64 a1, .int .i64 a2] (fun k_ => (P0_ k_ ∨ w.heap.size ≤ k_)) (fun _ => False) rfl rfl ?aP (fun _ hk => hk.elim) ?aF ?aO ?aB ?aS ?aL ?_; (case aP => exact k39_mkM _ _ _ (⟨a1, a2⟩ : S39)); (case aB => exact (by repeat (first | (with_reducible first | exact HB.out | apply below_alloc | apply pw_below_drewN | apply below_drew1) | exact HB.out))); (case aF => exact (fun k_ hk => (.inr (Nat.le_trans (by first | exact HK.out.1 | exact (show Kept w _ (fun k_ => P0_ k_) from by repeat (first | (with_reducible first | exact HK.out | apply Kept.alloc | apply Kept.drewN | apply Kept.drew) | exact HK.out)).1) hk)))); (case aO => exact (by (with_reducible repeat (first | apply Kd.R_alloc | apply Kd.R_drewN | apply Kd.R_drew)); exact HO0.out)); (case aS => exact (below_size (by repeat (first | (with_reducible first | exact HB.out | apply below_alloc | apply pw_below_drewN | apply below_drew1) | exact HB.out)))); (case aL => have := LMc16.out; omega); intro v148 w18 ho hb hg hat; rw [← Ny147.out] at ho; have n0_ := Aside0.mk (hb); have n1_ := Aside0.mk (Kept.of_grown (S := (fun k_ => P0_ k_)) hg (by repeat (first | (with_reducible first | exact HK.out | apply Kept.alloc | apply Kept.drewN | apply Kept.drew) | exact HK.out)) (fun k_ e_ => (HO0.out.1 k_ e_))); have n2_ := Aside0.mk (ho); clear HB; clear HK; clear HO0; have HB := n0_; have HK := n1_; have HO149 := n2_; clear n0_ n1_ n2_; clear ho hb hg hat))
      go_ret
      exact ⟨_, by first | rfl | (simp [errW_none, errW_some] <;> rfl) | (simp [*, errW_none, errW_some] <;> rfl), by (with_reducible repeat (first | apply Kd.R_alloc | apply Kd.R_drewN | apply Kd.R_drew)); exact HO149.out, by repeat (first | (with_reducible first | exact HB.out | apply below_alloc | apply pw_below_drewN | apply below_drew1) | exact HB.out), by repeat (first | (with_reducible first | exact HK.out | apply Kept.alloc | apply Kept.drewN | apply Kept.drew) | exact HK.out)⟩
    · rw [if_neg c16] at H
      exact absurd H (by simp)
end Go.Proofs.Ytingbjdpjimikaa.FBase
namespace Go.Proofs.Ytingbjdpjimikaa.B
open Go.RowKit Go.Proofs Go.Proofs.YtingbjdpjimikaaW.PrintWords Go.Proofs.YtingbjdpjimikaaW.PrintLast Go.Proofs.YtingbjdpjimikaaW.PrintMore Go.Proofs.Ytingbjdpjimikaa.FBase
theorem rdS {l : List Sp} {i : Nat} (h : i < l.length) : rd_T39 l (i : Int) = l[i] := by simp [rd_T39, List.getD, h]
theorem rdI {l : List Int} {i : Nat} (h : i < l.length) : rd l (i : Int) = l[i] := by simp [rd, List.getD, h]
theorem w1 {i : Nat} (h : i ≤ 4611686018427387904) : wrap64 ((i : Int) + 1) = ((i + 1 : Nat) : Int) := by unfold wrap64; omega
theorem has_l (l : List Sp) (c : Int) (hl : l.length ≤ 4611686018427387904) : ∀ (n i k : Nat), l.length - i = n → n < k → colophonref17_Has.l0 k l c i = some (sHas (l.drop i) c)
  | n, i, 0, _, h => absurd h (Nat.not_lt_zero _)
  | n, i, k + 1, hn, hk => by
    unfold colophonref17_Has.l0
    by_cases hi : i < l.length
    · rw [if_pos (by omega), if_pos (by omega), rdS hi, w1 (by omega), List.drop_eq_getElem_cons hi, sHas_cons]
      have ih := has_l l c hl (n - 1) (i + 1) k (by omega) (by omega)
      rw [ih]
      by_cases h0 : c ≥ l[i].f0
      · rw [if_pos h0]
        by_cases h1 : c < l[i].f1
        · rw [if_pos h1, (inS_iff _ _).2 ⟨h0, h1⟩]; rfl
        · rw [if_neg h1, inS_no (by omega)]; rfl
      · rw [if_neg h0, inS_no (by omega)]; rfl
    · rw [if_neg (by omega), List.drop_eq_nil_of_le (by omega)]
      rfl
theorem has_f (l : List Sp) (c : Int) (hl : l.length ≤ 4611686018427387904) {k : Nat} (hk : l.length < k) : colophonref17_Has.f k l c = some (sHas l c) := has_l l c hl l.length 0 k (by omega) hk
theorem check_l (l : List Sp) (hl : l.length ≤ 4611686018427387904) : ∀ (n i k : Nat) (last : Int), l.length - i = n → n < k → charset_Check.l0 k last l (l.length : Int) i = some (if chkS last (l.drop i) then 0 else 2)
  | n, i, 0, _, _, h => absurd h (Nat.not_lt_zero _)
  | n, i, k + 1, last, hn, hk => by
    unfold charset_Check.l0
    by_cases hi : i < l.length
    · rw [if_pos (by omega), if_pos (by omega), if_pos (by omega), rdS hi, w1 (by omega), List.drop_eq_getElem_cons hi]
      have ih := check_l l hl (n - 1) (i + 1) k l[i].f1 (by omega) (by omega)
      rw [ih, show chkS last (l[i] :: l.drop (i + 1)) = (decide (last < l[i].f0) && (decide (l[i].f0 < l[i].f1) && (decide (l[i].f1 ≤ 1114112) && chkS l[i].f1 (l.drop (i + 1))))) from rfl]
      by_cases h0 : l[i].f0 ≤ last
      · rw [if_pos h0, decide_eq_false (show ¬ last < l[i].f0 by omega)]; rfl
      · rw [if_neg h0, decide_eq_true (show last < l[i].f0 by omega)]
        by_cases h1 : l[i].f1 ≤ l[i].f0
        · rw [if_pos h1, decide_eq_false (show ¬ l[i].f0 < l[i].f1 by omega)]; rfl
        · rw [if_neg h1, decide_eq_true (show l[i].f0 < l[i].f1 by omega)]
          by_cases h2 : l[i].f1 > 1114112
          · rw [if_pos h2, decide_eq_false (show ¬ l[i].f1 ≤ 1114112 by omega)]; rfl
          · rw [if_neg h2, decide_eq_true (show l[i].f1 ≤ 1114112 by omega)]; rfl
    · rw [if_neg (by omega), List.drop_eq_nil_of_le (by omega)]
      rfl
theorem check_f (l : List Sp) (hl : l.length ≤ 4611686018427387904) {k : Nat} (hk : l.length < k) : charset_Check.f k l = some (sCheck l) := by
  unfold charset_Check.f sCheck
  by_cases h : 256 < l.length
  · rw [if_pos (by omega), if_pos h]
  · rw [if_neg (by omega), if_neg h]
    exact check_l l hl l.length 0 k (-1) (by omega) hk
theorem may_f (x0 x1 : Int) : colophonref17_may.f x0 x1 = some (decide (0 ≤ x0) && (decide (x0 ≤ x1) && decide (x1 ≤ 1114112))) := by
  unfold colophonref17_may.f
  by_cases h0 : x0 ≥ 0
  · rw [if_pos h0, decide_eq_true (show 0 ≤ x0 from h0)]
    by_cases h1 : x0 ≤ x1
    · rw [if_pos h1, decide_eq_true h1]; rfl
    · rw [if_neg h1, decide_eq_false h1]; rfl
  · rw [if_neg h0, decide_eq_false (show ¬ 0 ≤ x0 from h0)]; rfl
def lastOf (l : List Sp) (i : Nat) : Int := if h : 0 < i ∧ i ≤ l.length then (l[i - 1]'(by omega)).f1 else -1
theorem rcheck_l (l : List Sp) (hl : l.length ≤ 4611686018427387904) : ∀ (n i k : Nat), l.length - i = n → n < k → (0 ≤ lastOf l i ∨ i = 0) → colophonref17_Check.l0 k l i = some (if chkS (lastOf l i) (l.drop i) then 0 else 2)
  | n, i, 0, _, h, _ => absurd h (Nat.not_lt_zero _)
  | n, i, k + 1, hn, hk, hla => by
    unfold colophonref17_Check.l0
    by_cases hi : i < l.length
    · rw [if_pos (by omega), if_pos (by omega), rdS hi, w1 (by omega), List.drop_eq_getElem_cons hi, may_f]
      have hnx : lastOf l (i + 1) = l[i].f1 := by
        unfold lastOf
        rw [dif_pos ⟨by omega, by omega⟩]
        rfl
      rw [Option.bind_some, show chkS (lastOf l i) (l[i] :: l.drop (i + 1)) = (decide (lastOf l i < l[i].f0) && (decide (l[i].f0 < l[i].f1) && (decide (l[i].f1 ≤ 1114112) && chkS l[i].f1 (l.drop (i + 1))))) from rfl]
      by_cases h0 : 0 ≤ l[i].f0
      · rw [decide_eq_true h0, Bool.true_and]
        by_cases h1 : l[i].f0 ≤ l[i].f1
        · rw [decide_eq_true h1, Bool.true_and]
          by_cases h2 : l[i].f1 ≤ 1114112
          · rw [decide_eq_true h2, if_pos rfl]
            by_cases h3 : l[i].f0 = l[i].f1
            · rw [if_pos h3, decide_eq_false (show ¬ l[i].f0 < l[i].f1 by omega), Bool.false_and, Bool.and_false]; rfl
            · have ih := rcheck_l l hl (n - 1) (i + 1) k (by omega) (by omega) (.inl (by rw [hnx]; omega))
              rw [hnx] at ih
              rw [if_neg h3, decide_eq_true (show l[i].f0 < l[i].f1 by omega), Bool.true_and, Bool.true_and]
              by_cases h4 : (i : Int) > 0
              · have hw : wrap64 ((i : Int) - 1) = ((i - 1 : Nat) : Int) := by unfold wrap64; omega
                have hlo : lastOf l i = (l[i - 1]'(by omega)).f1 := by
                  unfold lastOf
                  rw [dif_pos ⟨by omega, by omega⟩]
                rw [if_pos h4, hw, if_pos (by omega), if_pos (by omega), rdS (show i - 1 < l.length by omega), ← hlo]
                by_cases h5 : l[i].f0 ≤ lastOf l i
                · rw [if_pos h5, decide_eq_false (show ¬ lastOf l i < l[i].f0 by omega)]; rfl
                · rw [if_neg h5, decide_eq_true (show lastOf l i < l[i].f0 by omega), ih]; rfl
              · have h5 : i = 0 := by omega
                have hlo : lastOf l i = -1 := by
                  unfold lastOf
                  rw [dif_neg (by omega)]
                rw [if_neg h4, hlo, decide_eq_true (show (-1 : Int) < l[i].f0 by omega), ih]; rfl
          · rw [decide_eq_false h2, if_neg (by simp), Bool.false_and, Bool.and_false, Bool.and_false]; rfl
        · rw [decide_eq_false h1, Bool.false_and, if_neg (by simp), decide_eq_false (show ¬ l[i].f0 < l[i].f1 by omega), Bool.false_and, Bool.and_false]; rfl
      · rw [decide_eq_false h0, Bool.false_and, if_neg (by simp)]
        have : ¬ lastOf l i < l[i].f0 := by
          rcases hla with h | h
          · omega
          · subst h
            unfold lastOf
            rw [dif_neg (by omega)]
            omega
        rw [decide_eq_false this]; rfl
    · rw [if_neg (by omega), List.drop_eq_nil_of_le (by omega)]
      rfl
theorem rcheck_f (l : List Sp) (hl : l.length ≤ 4611686018427387904) {k : Nat} (hk : l.length < k) : colophonref17_Check.f k l = some (sCheck l) := by
  unfold colophonref17_Check.f sCheck
  by_cases h : 256 < l.length
  · rw [if_pos (by omega), if_pos h]
  · rw [if_neg (by omega), if_neg h]
    have := rcheck_l l hl l.length 0 k (by omega) hk (.inr rfl)
    have hlo : lastOf l 0 = -1 := by
      unfold lastOf
      rw [dif_neg (by omega)]
    rw [hlo] at this
    exact this
instance decSp : DecidableEq Sp := fun a b =>
  if h : a.f0 = b.f0 ∧ a.f1 = b.f1 then isTrue (by cases a; cases b; simp only at h; rw [h.1, h.2]) else isFalse (fun e => h (by rw [e]; exact ⟨rfl, rfl⟩))
theorem same_l (a b : List Sp) (hab : a.length = b.length) (hl : a.length ≤ 4611686018427387904) : ∀ (n i k : Nat), a.length - i = n → n < k → colophonref17_Same.l0 k a b i = some (decide (a.drop i = b.drop i))
  | n, i, 0, _, h => absurd h (Nat.not_lt_zero _)
  | n, i, k + 1, hn, hk => by
    unfold colophonref17_Same.l0
    by_cases hi : i < a.length
    · have hib : i < b.length := by omega
      rw [if_pos (by omega), if_pos (by omega), if_pos (by omega), rdS hi, rdS hib, w1 (by omega), same_l a b hab hl (n - 1) (i + 1) k (by omega) (by omega), List.drop_eq_getElem_cons hi, List.drop_eq_getElem_cons hib]
      by_cases h0 : a[i].f0 = b[i].f0
      · by_cases h1 : a[i].f1 = b[i].f1
        · rw [if_neg (by simp [h0, h1])]
          have : a[i] = b[i] := by
            cases ha : a[i]; cases hb : b[i]
            rw [ha, hb] at h0 h1
            simp only at h0 h1
            rw [h0, h1]
          rw [this]
          exact congrArg some (decide_eq_decide.2 ⟨fun h => by rw [h], fun h => (List.cons.inj h).2⟩)
        · rw [if_pos (by simp [h1])]
          rw [decide_eq_false (fun h => h1 (by rw [(List.cons.inj h).1]))]
      · rw [if_pos (by simp [h0])]
        rw [decide_eq_false (fun h => h0 (by rw [(List.cons.inj h).1]))]
    · rw [if_neg (by omega), List.drop_eq_nil_of_le (by omega), List.drop_eq_nil_of_le (by omega)]
      simp
theorem same_f (a b : List Sp) (hl : a.length ≤ 4611686018427387904) {k : Nat} (hk : a.length < k) : colophonref17_Same.f k a b = some (decide (a = b)) := by
  unfold colophonref17_Same.f
  by_cases h : a.length = b.length
  · rw [if_pos (by omega)]
    have := same_l a b h hl a.length 0 k (by omega) hk
    simpa using this
  · rw [if_neg (by omega), decide_eq_false (fun e => h (by rw [e]))]
theorem sAdd_last : ∀ (s : List Sp) (a b : Int) (h : 0 < s.length), sAdd s a b = if (s[s.length - 1]'(by omega)).f1 = a then s.set (s.length - 1) ⟨(s[s.length - 1]'(by omega)).f0, b⟩ else s ++ [⟨a, b⟩]
  | [x], a, b, _ => by simp [sAdd]
  | x :: y :: r, a, b, _ => by
    have ih := sAdd_last (y :: r) a b (by simp)
    rw [show sAdd (x :: y :: r) a b = x :: sAdd (y :: r) a b from rfl, ih]
    simp only [List.length_cons, Nat.add_sub_cancel, List.getElem_cons_succ, List.set_cons_succ, List.cons_append]
    split <;> rfl
theorem put_eq (s : List Sp) (a b : Int) (hs : s.length < 8796093022208) : charset_put.f s a b = some (sAdd s a b) := by
  unfold charset_put.f
  by_cases h : 0 < s.length
  · have hw : wrap64 ((s.length : Int) - 1) = ((s.length - 1 : Nat) : Int) := by unfold wrap64; omega
    rw [if_pos (by omega), hw, if_pos (by omega), if_pos (by omega), rdS (show s.length - 1 < s.length by omega), if_pos hs, sAdd_last s a b h, Int.toNat_natCast]
    split <;> rfl
  · have : s = [] := List.eq_nil_of_length_eq_zero (by omega)
    subst this
    rw [if_neg (by simp), if_pos hs]
    rfl
theorem add_eq (s : List Sp) (a b : Int) (hs : s.length < 8796093022208) : colophonref17_Add.f s a b = some (sAdd s a b) := by
  have : colophonref17_Add.f s a b = charset_put.f s a b := rfl
  rw [this]
  exact put_eq s a b hs
theorem with_done (l : List Int) (n : Int) (hl : l.length ≤ 1000000) : ∀ (m i k : Nat) (out : List Int), l.length - i = m → 2 * m + 1 < k → out.length ≤ 1000001 + i → colophonref17_with.l0 k l n out true i = some (out ++ l.drop i)
  | m, i, 0, _, _, h, _ => absurd h (Nat.not_lt_zero _)
  | m, i, 1, _, hm, h, _ => by omega
  | m, i, k + 2, out, hm, hk, ho => by
    unfold colophonref17_with.l0
    by_cases hi : i < l.length
    · have ih := with_done l n hl (m - 1) (i + 1) k (out ++ [l[i]]) (by omega) (by omega) (by rw [List.length_append]; simp; omega)
      have hj : colophonref17_with.j1 (k + 1) l n out true i false = some (out ++ l.drop i) := by
        unfold colophonref17_with.j1
        rw [if_neg (by simp), if_pos (by omega), if_pos (by omega), if_pos (by omega), rdI hi, w1 (by omega), ih, List.drop_eq_getElem_cons hi, List.append_assoc]
        rfl
      rw [if_pos (by omega), if_pos (by omega)]
      split
      · exact hj
      · exact hj
    · rw [if_neg (by omega), List.drop_eq_nil_of_le (by omega), List.append_nil]
theorem with_l (l : List Int) (n : Int) (hl : l.length ≤ 1000000) : ∀ (m i k : Nat) (out : List Int), l.length - i = m → 2 * m + 1 < k → out.length ≤ 1000000 + i → colophonref17_with.l0 k l n out false i = some (out ++ ins (l.drop i) n)
  | m, i, 0, _, _, h, _ => absurd h (Nat.not_lt_zero _)
  | m, i, 1, _, hm, h, _ => by omega
  | m, i, k + 2, out, hm, hk, ho => by
    unfold colophonref17_with.l0
    by_cases hi : i < l.length
    · rw [if_pos (by omega), if_pos (by omega), rdI hi, List.drop_eq_getElem_cons hi]
      unfold ins
      by_cases h1 : l[i] ≥ n
      · rw [if_pos h1, if_pos (show n ≤ l[i] from h1)]
        unfold colophonref17_with.j1
        rw [if_pos (by simp), if_pos (by omega), if_pos (by omega), rdI hi, w1 (by omega)]
        by_cases h2 : l[i] > n
        · rw [if_pos h2, if_pos (show n < l[i] from h2), if_pos (by omega), Option.bind_some, if_pos (by rw [List.length_append]; simp; omega),
            with_done l n hl (m - 1) (i + 1) k (out ++ [n] ++ [l[i]]) (by omega) (by omega) (by rw [List.length_append, List.length_append]; simp; omega), List.append_assoc, List.append_assoc]
          rfl
        · rw [if_neg h2, if_neg (show ¬ n < l[i] from h2), if_pos (by omega), with_done l n hl (m - 1) (i + 1) k (out ++ [l[i]]) (by omega) (by omega) (by rw [List.length_append]; simp; omega), List.append_assoc]
          rfl
      · rw [if_neg h1, if_neg (show ¬ n ≤ l[i] from h1)]
        unfold colophonref17_with.j1
        rw [if_neg (by simp), if_pos (by omega), if_pos (by omega), if_pos (by omega), rdI hi, w1 (by omega),
          with_l l n hl (m - 1) (i + 1) k (out ++ [l[i]]) (by omega) (by omega) (by rw [List.length_append]; simp; omega), List.append_assoc]
        rfl
    · rw [if_neg (by omega), List.drop_eq_nil_of_le (by omega)]
      show some out = some (out ++ [])
      rw [List.append_nil]
theorem with_f (l : List Int) (n : Int) (hl : l.length ≤ 1000000) {k : Nat} (hk : 2 * l.length + 1 < k) : colophonref17_with.f k l n = some (ins l n) := by
  have := with_l l n hl l.length 0 k [] (by omega) hk (by simp)
  exact this
theorem cuts_l (l : List Sp) (hl : l.length ≤ 100000) : ∀ (m i k : Nat) (c : List Int), l.length - i = m → c.length ≤ 2 + 2 * i → 2 * l.length + m + 1000 + 2 * (2 + 2 * l.length) < k →
    colophonref17_Cuts.l0 k l c i = some ((l.drop i).foldl (fun c x => ins (ins c x.f0) x.f1) c)
  | m, i, 0, _, _, _, h => absurd h (Nat.not_lt_zero _)
  | m, i, k + 1, c, hm, hc, hk => by
    unfold colophonref17_Cuts.l0
    by_cases hi : i < l.length
    · have l1 := ins_len c l[i].f0
      have l2 := ins_len (ins c l[i].f0) l[i].f1
      rw [if_pos (by omega), if_pos (by omega), rdS hi, with_f c l[i].f0 (by omega) (by omega), Option.bind_some, with_f (ins c l[i].f0) l[i].f1 (by omega) (by omega), Option.bind_some, w1 (by omega),
        cuts_l l hl (m - 1) (i + 1) k _ (by omega) (by omega) (by omega), List.drop_eq_getElem_cons hi, List.foldl_cons]
    · rw [if_neg (by omega), List.drop_eq_nil_of_le (by omega)]
      rfl
theorem cuts_f (l : List Sp) (hl : l.length ≤ 100000) {k : Nat} (hk : 7 * l.length + 1100 < k) : colophonref17_Cuts.f k l = some (cutsOf l) := by
  have := cuts_l l hl l.length 0 k [0, 1114112] (by omega) (by simp) (by omega)
  exact this
def mayB (x : Sp) : Bool := decide (0 ≤ x.f0) && (decide (x.f0 ≤ x.f1) && decide (x.f1 ≤ 1114112))
theorem mayB_iff (x : Sp) : mayB x = true ↔ may x := by
  unfold mayB may
  rw [Bool.and_eq_true, Bool.and_eq_true, decide_eq_true_eq, decide_eq_true_eq, decide_eq_true_eq]
def sOf (l : List Sp) : List Sp × Int := if 256 < l.length then ([], 5) else if l.all mayB then (mkS (sHas l) (cutsOf l) [], 0) else ([], 2)
theorem sOf_mrg (l : List Sp) (hm : ∀ x ∈ l, may x) (srt : List Sp) (hp : srt.Perm (l.filter fun x => decide (x.f0 < x.f1))) (hs : srt.Pairwise (fun a b => a.f0 ≤ b.f0)) : srt.foldl sMrg [] = mkS (sHas l) (cutsOf l) [] := by
  have hmem : ∀ x ∈ srt, 0 ≤ x.f0 ∧ x.f0 < x.f1 := fun x hx => by
    have h1 := List.mem_filter.1 (hp.mem_iff.1 hx)
    exact ⟨(hm x h1.1).1, by simpa using h1.2⟩
  have h1 := fold_mrg srt [] trivial hmem hs (fun y hy => nomatch hy)
  have hc := cutsOf_ok l hm
  have h2 := mk_is (sHas l) (cutsOf l) hc.1 (fun y hy => by
    rcases (hc.2 y).1 hy with (rfl | rfl) | ⟨x, hx, rfl | rfl⟩
    · omega
    · omega
    · have := hm x hx; unfold may at this; omega
    · have := hm x hx; unfold may at this; omega) ((hc.2 0).2 (.inl (.inl rfl))) ((hc.2 _).2 (.inl (.inr rfl)))
    (fun a ha x hax hn => same_between (c := cutsOf l) (fun y hy => ⟨(hc.2 _).2 (.inr ⟨y, hy, .inl rfl⟩), (hc.2 _).2 (.inr ⟨y, hy, .inr rfl⟩)⟩) hax hn)
  refine Sep.uniq h1.1 h2.1 fun c => ?_
  rw [h1.2 c, sHas_nil, Bool.false_or, h2.2 c, sHas_perm hp c]
  have hf : sHas (l.filter fun x => decide (x.f0 < x.f1)) c = sHas l c := by
    clear h1 h2 hc hmem hs hp
    induction l with
    | nil => rfl
    | cons x l ih =>
      rw [List.filter_cons, sHas_cons, ← ih (fun y hy => hm y (List.mem_cons_of_mem _ hy))]
      by_cases h : x.f0 < x.f1
      · rw [if_pos (by simpa using h), sHas_cons]
      · rw [if_neg (by simpa using h), inS_no (by omega), Bool.false_or]
  rw [hf]
  cases hh : sHas l c with
  | false => rfl
  | true =>
    obtain ⟨x, hx, hin⟩ := List.any_eq_true.1 hh
    have h3 := (inS_iff x c).1 hin
    have h4 := hm x hx
    unfold may at h4
    rw [decide_eq_true (show 0 ≤ c by omega), decide_eq_true (show c < 1114112 by omega)]
    rfl
def IsBlk (W : World) (g : Nat) (o : Obj) : Prop := W.heap[g]? = some o
theorem IsBlk.below {W W1 : World} {g : Nat} {o : Obj} (h : IsBlk W g o) (hb : Below W.heap.size W W1) : IsBlk W1 g o := (hb.block g (blk_lt h)).trans h
theorem IsBlk.alloc {W : World} {g : Nat} {o : Obj} (h : IsBlk W g o) (o1 : Obj) : IsBlk (W.alloc o1) g o := h.below (below_alloc (Below.refl _ _) o1)
theorem IsBlk.drewN {W : World} {g : Nat} {o : Obj} (h : IsBlk W g o) (n : Nat) : IsBlk (W.drewN n) g o := h.below (pw_below_drewN (Below.refl _ _) n)
theorem IsBlk.cell {W : World} {g : Nat} {cs : Array Value} {t : TypeId} (h : IsBlk W g (.cells cs t (0, 0))) (i : Nat) : W.cell? ⟨g, i, none⟩ = cs[i]? := blk_cell h i
theorem cell_alloc1 {W : World} {p : Addr} {v : Value} (h : W.cell? p = some v) (o : Obj) : (W.alloc o).cell? p = some v := ((below_alloc (Below.refl _ W) o).cell (World.block_lt_of_cell? W _ h)).trans h
theorem cell_drewN1 {W : World} {p : Addr} {v : Value} (h : W.cell? p = some v) (n : Nat) : (W.drewN n).cell? p = some v := ((pw_below_drewN (Below.refl _ W) n).cell (World.block_lt_of_cell? W _ h)).trans h
theorem cell_below {W W1 : World} {p : Addr} {v : Value} (h : W.cell? p = some v) (hb : Below W.heap.size W W1) : W1.cell? p = some v := (hb.cell (World.block_lt_of_cell? W _ h)).trans h
def Keeps (F : World → Prop) : Prop := ∀ W1 W2 : World, F W1 → Below W1.heap.size W1 W2 → F W2
structure Sta (w W : World) (F : World → Prop) : Prop where
  bel : Below w.heap.size w W
  now : F W
  keeps : Keeps F
theorem Sta.step {w W W1 : World} {F : World → Prop} (h : Sta w W F) (c : Below W.heap.size W W1) : Sta w W1 F := ⟨below_step h.bel c, h.keeps _ _ h.now c, h.keeps⟩
theorem Sta.call {w W W1 W2 : World} {F : World → Prop} (h : Sta w W F) (c : Below W.heap.size W W1) (hb : Below W1.heap.size W1 W2) : Sta w W2 F := (h.step c).step hb
theorem Sta.add {w W : World} {F G : World → Prop} (h : Sta w W F) (g : G W) (k : Keeps G) : Sta w W (fun W => G W ∧ F W) := ⟨h.bel, ⟨g, h.now⟩, fun _ _ h1 hb => ⟨k _ _ h1.1 hb, h.keeps _ _ h1.2 hb⟩⟩
theorem Sta.only {w W : World} {F G : World → Prop} (h : Sta w W F) (g : G W) (k : Keeps G) : Sta w W G := ⟨h.bel, g, k⟩
theorem Sta.start (w : World) : Sta w w (fun _ => True) := ⟨Below.refl _ _, trivial, fun _ _ h _ => h⟩
theorem keeps_and {F G : World → Prop} (h : Keeps F) (k : Keeps G) : Keeps (fun W => F W ∧ G W) := fun _ _ h1 hb => ⟨h _ _ h1.1 hb, k _ _ h1.2 hb⟩
theorem keeps_blk (g : Nat) (o : Obj) : Keeps (fun W => IsBlk W g o) := fun _ _ h hb => h.below hb
theorem keeps_C {α : Type} (d : Kd α) (A : Option Addr) (n : Nat) (xs : List α) : Keeps (fun W => Kd.C d W A n xs) := fun _ _ h hb => Kd.C_below h hb
theorem cell_own {k : IntKind} {e base g n cap : Nat} {ok : Nat → Prop} {W : World} {xs : List Int} (h : Kd.R (Kd.int k) e W base ok (.slice (some ⟨g, 0, none⟩) n cap) xs) (i : Nat) (hi : i < n) : W.cell? ⟨g, i, none⟩ = some (.int k (rd xs i)) ∧ W.frozen? ⟨g, i, none⟩ = false := by
  have h := Kd.R_celln (enc := Value.int k) (h1 := fun _ => rfl) (0 : Int) h (i : Int) (by omega) (by omega)
  rw [Int.toNat_natCast] at h
  exact h
theorem bytes_step {w W : World} {e : TypeId} {s : ByteArray} (h : Below w.heap.size w W) : Below w.heap.size w (Lib.bytesWorld W e s) := bytes_below h h.size e s
theorem zq2 {w W : World} (h : Below w.heap.size w W) (o : Obj) : Below w.heap.size w (W.alloc o) := below_alloc h o
theorem zq3 {n : Nat} {w W : World} (h : Below n w W) (k : Nat) : Below n w (W.drewN k) := pw_below_drewN h k
theorem zq4 {n : Nat} {w W : World} (h : Below n w W) : Below n w W.drew := below_drew1 h
theorem zq5 {w W : World} {e : TypeId} {s : ByteArray} (h : Below w.heap.size w W) : Below w.heap.size w (Lib.bytesWorld W e s) := bytes_step h
theorem keeps_own {b : Nat} {v : Value} : Keeps (fun W : World => W.cell? ⟨b, 0, none⟩ = some v ∧ b < W.heap.size) := fun W W1 h hb => ⟨(hb.cell (p := ⟨b, 0, none⟩) h.2).trans h.1, Nat.lt_of_lt_of_le h.2 hb.size⟩
set_option maxRecDepth 100000 in
set_option maxHeartbeats 2000000 in
theorem HasC_ok (x : Sp) (c : Int) (b : Nat) (w : World) (hc : w.cell? ⟨b, 0, none⟩ = some (.int .i64 c)) (hb : b < w.heap.size) :
    Calls Try.prog 41 #[.agg #[.int .i64 x.f0, .int .i64 x.f1], .pointer (some ⟨b, 0, none⟩)] w fun e w' => e = .returned (.bool (inS x c)) ∧ Below w.heap.size w w' := by
  obtain ⟨x0, x1⟩ := x
  have hne : b ≠ w.heap.size := by omega
  have hu := Try.underlying39
  unfold inS
  by_cases h0 : x0 ≤ c
  · by_cases h1 : c < x1
    · go_enter Try.func41, Try.ntmps41
      go_wp2
      go_ret
      exact ⟨by simp [h0, h1], below_alloc (Below.refl _ _) _⟩
    · go_enter Try.func41, Try.ntmps41
      go_wp2
      go_ret
      exact ⟨by simp [h1], below_alloc (Below.refl _ _) _⟩
  · go_enter Try.func41, Try.ntmps41
    go_wp2
    go_ret
    exact ⟨by rw [show decide (x0 ≤ c) = false from decide_eq_false (by omega)]; rfl, below_alloc (Below.refl _ _) _⟩
set_option maxRecDepth 100000 in
set_option maxHeartbeats 2000000 in
theorem IdxF_ok (A : Option Addr) (d b : Nat) (l : List Sp) (c : Int) (w : World) (hr : Kd.C k39 w A l.length l) (hb : b < w.heap.size) (hc : w.cell? ⟨b, 0, none⟩ = some (.int .i64 c)) :
    Calls Try.prog 55 #[.slice A l.length d, .func (.func 41) #[] #[.pointer (some ⟨b, 0, none⟩)]] w fun e w' => ∃ r : Int, e = .returned (.int .i64 r) ∧ decide (0 ≤ r) = sHas l c ∧ Below w.heap.size w w' := by
  have HS : Aside0 (Sta w w (fun W => Kd.C k39 W A l.length l ∧ W.cell? ⟨b, 0, none⟩ = some (.int .i64 c) ∧ b < W.heap.size)) := ⟨⟨Below.refl _ _, ⟨hr, hc, hb⟩, keeps_and (keeps_C _ _ _ _) keeps_own⟩⟩
  clear hr hc hb
  have HL := Aside0.mk HS.out.now.1.2.1
  go_enter Try.func55, Try.ntmps55
  go_wp2
  go_loopw [8] (fun s8 W => ∃ k : Nat, s8 = .int .i64 k ∧ k ≤ l.length ∧ Aside0 (sHas (l.take k) c = false) ∧ Aside0 (Sta w W (fun W => Kd.C k39 W A l.length l ∧ W.cell? ⟨b, 0, none⟩ = some (.int .i64 c) ∧ b < W.heap.size))) (fun s8 _ => l.length - (intOf s8).toNat)
  case atStart => exact ⟨0, rfl, Nat.zero_le _, ⟨rfl⟩, HS⟩
  case round =>
    clear HS
    obtain ⟨k, rfl, hk, HN, HS⟩ := hrel
    by_cases h1 : k < l.length
    · have g2 : decide (k < l.length) = true := decide_eq_true h1
      obtain ⟨ad, e1, y0, y1⟩ := at_T39 HS.out.now.1 (k : Int) (by omega) (by omega)
      cases e1
      rw [Int.toNat_natCast] at y0 y1
      have hw : wrap64 ((k : Int) + 1) = (k : Int) + 1 := by have := HL.out; unfold wrap64; omega
      have ht : sHas (l.take (k + 1)) c = (sHas (l.take k) c || inS (rd_T39 l (k : Int)) c) := by
        rw [rdS h1, List.take_succ_eq_append_getElem h1, sHas_app, sHas_cons, sHas_nil, Bool.or_false]
      have hm : inS (rd_T39 l (k : Int)) c = true → sHas l c = true := fun h => by
        rw [rdS h1] at h
        exact List.any_eq_true.2 ⟨_, List.getElem_mem h1, h⟩
      rw [HN.out, Bool.false_or] at ht
      generalize rd_T39 l (k : Int) = x at *
      have hcl : ∀ W : World, W.cell? ⟨b, 0, none⟩ = some (.int .i64 c) → b < W.heap.size → Calls Try.prog 41 #[.agg #[.int .i64 x.f0, .int .i64 x.f1], .pointer (some ⟨b, 0, none⟩)] W fun e w' => e = .returned (.bool (inS x c)) ∧ Below W.heap.size W w' := fun W h h' => HasC_ok x c b W h h'
      have HCL := Aside0.mk hcl
      have HT := Aside0.mk ht
      have HM := Aside0.mk hm
      clear hcl ht hm
      cases hx : inS x c with
      | true =>
        rw [hx] at HCL HM HT
        have HM2 := Aside0.mk (HM.out rfl)
        clear hx HM
        go_wp2_with (go_at_call 41; refine (HCL.out _ (HS.out.step (by repeat (first | exact Below.refl _ _ | apply zq2 | apply zq3 | apply zq4 | apply zq5))).now.2.1 (HS.out.step (by repeat (first | exact Below.refl _ _ | apply zq2 | apply zq3 | apply zq4 | apply zq5))).now.2.2).mono ?_; rintro e w' ⟨rfl, hb⟩; have m_ := Aside0.mk (HS.out.call (by repeat (first | exact Below.refl _ _ | apply zq2 | apply zq3 | apply zq4 | apply zq5)) hb); clear HS hb; have HS := m_; clear m_)
        go_ret
        exact ⟨k, rfl, by rw [HM2.out]; exact decide_eq_true (by omega), HS.out.bel⟩
      | false =>
        rw [hx] at HCL HM HT
        clear hx HM
        go_wp2_with (go_at_call 41; refine (HCL.out _ (HS.out.step (by repeat (first | exact Below.refl _ _ | apply zq2 | apply zq3 | apply zq4 | apply zq5))).now.2.1 (HS.out.step (by repeat (first | exact Below.refl _ _ | apply zq2 | apply zq3 | apply zq4 | apply zq5))).now.2.2).mono ?_; rintro e w' ⟨rfl, hb⟩; have m_ := Aside0.mk (HS.out.call (by repeat (first | exact Below.refl _ _ | apply zq2 | apply zq3 | apply zq4 | apply zq5)) hb); clear HS hb; have HS := m_; clear m_)
        go_roundw
        case measure => rw [hw]; show l.length - ((k : Int) + 1).toNat < l.length - (k : Int).toNat; omega
        case rel => exact ⟨k + 1, by rw [hw]; rfl, by omega, HT, HS⟩
    · have g2 : decide (k < l.length) = false := decide_eq_false h1
      go_wp2
      go_ret
      refine ⟨-1, rfl, ?_, HS.out.bel⟩
      have := HN.out
      rw [List.take_of_length_le (by omega)] at this
      rw [this]
      rfl
set_option maxRecDepth 100000 in
set_option maxHeartbeats 2000000 in
theorem ConF_ok (A : Option Addr) (d b : Nat) (l : List Sp) (c : Int) (w : World) (hr : Kd.C k39 w A l.length l) (hb : b < w.heap.size) (hc : w.cell? ⟨b, 0, none⟩ = some (.int .i64 c)) :
    Calls Try.prog 40 #[.slice A l.length d, .func (.func 41) #[] #[.pointer (some ⟨b, 0, none⟩)]] w fun e w' => e = .returned (.bool (sHas l c)) ∧ Below w.heap.size w w' := by
  have HI := Aside0.mk (IdxF_ok A d b l c w hr hb hc)
  clear hr hb hc
  go_enter Try.func40, Try.ntmps40
  go_wp2_with (go_at_call 55; refine HI.out.mono ?_; rintro e w' ⟨r, rfl, hr, hb⟩; have HR := Aside0.mk hr; have HB := Aside0.mk hb; clear hr hb)
  go_ret
  exact ⟨by rw [← HR.out]; rfl, HB.out⟩
set_option maxRecDepth 100000 in
set_option maxHeartbeats 2000000 in
theorem Has_ok (A : Option Addr) (d : Nat) (l : List Sp) (c : Int) (w : World) (hr : Kd.C k39 w A l.length l) :
    Calls Try.prog 16 #[.slice A l.length d, .int .i64 c] w fun e w' => e = .returned (.bool (sHas l c)) ∧ Below w.heap.size w w' := by
  have HC := Aside0.mk (ConF_ok A d w.heap.size l c (w.alloc (.cells #[.int .i64 c] 3)) (Kd.C_below hr (below_alloc (Below.refl _ _) _)) (by simp) (by simp))
  clear hr
  go_enter Try.func16, Try.ntmps16
  go_wp2_with (go_at_call 40; refine HC.out.mono ?_; rintro e w' ⟨rfl, hb⟩; have HB := Aside0.mk hb; clear hb)
  go_ret
  exact ⟨rfl, (below_alloc (Below.refl _ _) _).trans (HB.out.mono (by simp))⟩
end Go.Proofs.Ytingbjdpjimikaa.B
