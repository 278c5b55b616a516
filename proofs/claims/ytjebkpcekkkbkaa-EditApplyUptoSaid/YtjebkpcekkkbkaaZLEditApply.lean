/-
  The row of EditApply, in its second form: for every input of bulk at most 1048576 the call answers true, and the input reads as it did.
-/
import Derived.ProofKit
import Derived.ShutString
import Derived.ChangeOld
import Derived.SizedLaws
import Derived.JoinedCond
import Derived.Test.YtjebkpcekkkbkaaZN24
set_option linter.unusedSimpArgs false
set_option linter.unusedVariables false
namespace Go.Proofs.Ytjebkpcekkkbkaa.B
open Go.RowKit Go.Shelf Go.Proofs Go.Proofs.YtjebkpcekkkbkaaW.PrintWords Go.Proofs.YtjebkpcekkkbkaaW.PrintLast Go.Proofs.YtjebkpcekkkbkaaW.PrintMore Go.Proofs.Ytjebkpcekkkbkaa.FBase
attribute [local go_sem] max2_int min2_int max_two min_two
set_option maxRecDepth 100000 in
set_option maxHeartbeats 8000000 in
theorem EditApply_ok (A E : Option Addr) (c d : Nat) (b : List Int) (es0 : List S29) (w : World) (hr : Kd.C (Kd.int .u8) w A b.length b) (hc : b.length ≤ c) (hn : A = none → c = 0) (hB : Bytes b) (hs : b.length ≤ 1048576) (hre : Kd.C k29 w E es0.length es0) (hd : es0.length ≤ d) (he : ∀ x ∈ es0, x.f2.size ≤ 1048576 ∧ x.f1.f0.f1 ≤ 9223372036854775807 ∧ x.f1.f1.f1 ≤ 9223372036854775807) :
    Calls Try.prog 7 #[.slice A b.length c, .slice E es0.length d] w fun e w' => e = .returned (.bool true) ∧ Below w.heap.size w w' := by
  obtain ⟨M, hM, M1, M2⟩ : ∃ M : Nat, (if (1000 : Int) < (b.length : Int) then (1000 : Int) else (b.length : Int)) = (M : Int) ∧ M ≤ b.length ∧ M ≤ 1000 := by
    by_cases h : (1000 : Int) < (b.length : Int)
    · exact ⟨1000, if_pos h, by omega, by omega⟩
    · exact ⟨b.length, if_neg h, by omega, by omega⟩
  obtain ⟨N, hN, N1⟩ : ∃ M : Nat, (if (40 : Int) < (es0.length : Int) then (40 : Int) else (es0.length : Int)) = (M : Int) ∧ M ≤ es0.length := by
    by_cases h : (40 : Int) < (es0.length : Int)
    · exact ⟨40, if_pos h, by omega⟩
    · exact ⟨es0.length, if_neg h, by omega⟩
  obtain ⟨X1, hP, hp⟩ := cut_pre w A c b (M : Int) hr hc (by omega) (by omega)
  obtain ⟨X2, hQ⟩ := cutE_pre w E d es0 (N : Int) hre hd (by omega) (by omega)
  rw [Int.toNat_natCast] at X1 X2 hP hQ hp
  have lp : (b.take M).length = M := by rw [List.length_take]; omega
  have bp : Bytes (b.take M) := hB.take _
  have he2 : ∀ x ∈ es0.take N, x.f2.size ≤ 1048576 ∧ x.f1.f0.f1 ≤ 9223372036854775807 ∧ x.f1.f1.f1 ≤ 9223372036854775807 := fun x hx => he x (List.mem_of_mem_take hx)
  generalize b.take M = p at *
  generalize es0.take N = es at *
  have he1 : ∀ x ∈ es, x.f2.size ≤ 140737488351232 ∧ x.f1.f0.f1 ≤ 9223372036854775807 ∧ x.f1.f1.f1 ≤ 9223372036854775807 := fun x hx => ⟨by have := (he2 x hx).1; omega, (he2 x hx).2⟩
  have y8 := eapp_len p (es.map edOf) bp (by omega) (eds_T es)
  obtain ⟨y, hy⟩ : ∃ y, (eapp p (es.map edOf)).1 = y := ⟨_, rfl⟩
  obtain ⟨r, hr1⟩ : ∃ y, (eapp p (es.map edOf)).2 = y := ⟨_, rfl⟩
  rw [hy] at y8
  have HR1 := Aside0.mk hy
  have HR2 := Aside0.mk hr1
  have HE1 := Aside0.mk he1
  have HE2 := Aside0.mk he2
  have HBP := Aside0.mk bp
  have HS := Aside0.mk (((Sta.start w).only hP (keeps_C _ _ _ _)).add hQ (keeps_C _ _ _ _))
  have HCp := Aside0.mk hp
  have HNA := Aside0.mk hn
  have hs6 : p.length ≤ 1048576 := by omega
  have HEP := Aside0.mk (eq_f p hs6)
  have HEY := Aside0.mk (eq_f y (by omega))
  have e1 := True.intro
  have e2 := True.intro
  clear hr hre hc hd hB hP hQ hp bp lp hn he he1 he2 hy hr1
  go_enter Try.func7, Try.ntmps7
  go_upto_region 1 with (fail)
  go_quiet (fail)
  have HS2 := Aside0.mk (HS.out.step (by repeat (first | exact Below.refl _ _ | apply zq2 | apply zq3 | apply zq4 | apply zq5)))
  clear HS
  have HS := HS2
  clear HS2
  go_wp2_with (first | (go_at_call 17; refine (Copy_ok A c p _ (HS.out.step (by repeat (first | exact Below.refl _ _ | apply zq2 | apply zq3 | apply zq4 | apply zq5))).now.2 HCp.out hs6).mono ?_; rintro e w1 ⟨v, rfl, hR, hb⟩; obtain ⟨A2, k2, rfl, hl2, hn2, hC2⟩ := Ap.read (.inr hR); have HLA2 := Aside0.mk hl2; have HNA2 := Aside0.mk hn2; clear hR hl2 hn2; have m_ := Aside0.mk ((HS.out.call (by repeat (first | exact Below.refl _ _ | apply zq2 | apply zq3 | apply zq4 | apply zq5)) hb).add hC2 (keeps_C _ _ _ _)); clear HS hb hC2; have HW1 := Aside0.mk m_.out.bel; have HS := Aside0.mk ((Sta.start w1).only m_.out.now m_.out.keeps); clear m_; have HCin := Aside0.mk HS.out.now.1; have HCpp := Aside0.mk HS.out.now.2.2) | (go_at_call 27; refine (Apply_is A2 E k2 d p es _ (HS.out.step (by repeat (first | exact Below.refl _ _ | apply zq2 | apply zq3 | apply zq4 | apply zq5))).now.1 HLA2.out HNA2.out (HS.out.step (by repeat (first | exact Below.refl _ _ | apply zq2 | apply zq3 | apply zq4 | apply zq5))).now.2.1 HBP.out hs6 HE1.out).mono ?_; rintro e w3 ⟨v, rfl, hR, hb⟩; rw [HR2.out]; rw [HR1.out] at hR; have hR0 := hR; obtain ⟨A3, k3, rfl, hl2, hn2, hC2⟩ := Ap.read (.inr hR); have HLA3 := Aside0.mk hl2; have HNA3 := Aside0.mk hn2; clear hC2 hR hl2 hn2; have m_ := Aside0.mk ((HS.out.call (by repeat (first | exact Below.refl _ _ | apply zq2 | apply zq3 | apply zq4 | apply zq5)) hb).add hR0 (keeps_R _ _ _ _ _ _)); clear HS hb hR0; have HS := m_; clear m_) | (go_at_call 28; refine (RApply_is A E c d p es _ (HS.out.step (by repeat (first | exact Below.refl _ _ | apply zq2 | apply zq3 | apply zq4 | apply zq5))).now.2.2.2 HCp.out HNA.out (HS.out.step (by repeat (first | exact Below.refl _ _ | apply zq2 | apply zq3 | apply zq4 | apply zq5))).now.2.2.1 HBP.out hs6 HE2.out).mono ?_; rintro e w4 ⟨v, rfl, hR, hb⟩; rw [HR2.out]; rw [HR1.out] at hR; obtain ⟨A4, k4, rfl, hl2, hn2, hC2⟩ := Ap.read (.inr hR); have HLA4 := Aside0.mk hl2; have HNA4 := Aside0.mk hn2; clear hR hl2 hn2; have m_ := Aside0.mk ((HS.out.call (by repeat (first | exact Below.refl _ _ | apply zq2 | apply zq3 | apply zq4 | apply zq5)) hb).add hC2 (keeps_C _ _ _ _)); clear HS hb hC2; have HS := m_; clear m_) | (have _t := e1; go_at_call 20; refine (colophonref00_EqBytes.calls _ A3 k3 y A4 k4 y true _ (Kd.R_reads' (HS.out.step (by repeat (first | exact Below.refl _ _ | apply zq2 | apply zq3 | apply zq4 | apply zq5))).now.2.1).2.2 HLA3.out (HS.out.step (by repeat (first | exact Below.refl _ _ | apply zq2 | apply zq3 | apply zq4 | apply zq5))).now.1 HLA4.out HEY.out).mono ?_; rintro e wq ⟨rfl, hd⟩; have hb := hd.below; clear hd; have m_ := Aside0.mk (HS.out.call (by repeat (first | exact Below.refl _ _ | apply zq2 | apply zq3 | apply zq4 | apply zq5)) hb); clear HS hb ; have HS := m_; clear m_; clear e1 _t) | (have _t := e2; go_at_call 20; refine (colophonref00_EqBytes.calls _ A2 k2 p A c p true _ (HS.out.step (by repeat (first | exact Below.refl _ _ | apply zq2 | apply zq3 | apply zq4 | apply zq5))).now.2.2.1 HLA2.out (HS.out.step (by repeat (first | exact Below.refl _ _ | apply zq2 | apply zq3 | apply zq4 | apply zq5))).now.2.2.2.2 HCp.out HEP.out).mono ?_; rintro e wq ⟨rfl, hd⟩; have hb := hd.below; clear hd; have m_ := Aside0.mk (HS.out.call (by repeat (first | exact Below.refl _ _ | apply zq2 | apply zq3 | apply zq4 | apply zq5)) hb); clear HS hb ; have HS := m_; clear m_; clear e2 _t))
  have HR0 := Aside0.mk HS.out.now.2.1
  have HS2 : Aside0 (Sta w1 wq (fun _ => True)) := ⟨⟨HS.out.bel, trivial, fun _ _ h _ => h⟩⟩
  clear HS
  have HS := HS2
  clear HS2
  go_loopw [10] (fun s10 W => ∃ i : Nat, i ≤ y.length ∧ s10 = .int .i64 i ∧ Aside0 (∃ zs, Kd.R (Kd.int .u8) 5 W w1.heap.size (fun _ => True) (.slice A3 y.length k3) zs) ∧ Aside0 (Sta w1 W (fun _ => True))) (fun s10 _ => y.length - (intOf s10).toNat)
  case atStart => exact ⟨0, Nat.zero_le _, rfl, ⟨_, HR0.out⟩, HS⟩
  case round =>
    clear HS HR0
    obtain ⟨i, hi, rfl, HRz, HS⟩ := hrel
    by_cases hlt : i < y.length
    · obtain ⟨zs, hRz⟩ := HRz.out
      obtain ⟨gi, rfl, hg1, hg2⟩ := own_at hRz (by omega)
      obtain ⟨hc1, hf1⟩ := cell_own hRz i hlt
      have HRz2 := Aside0.mk hRz
      have i1 : (i : Int) < y.length := by omega
      have hg3 := hg1
      clear hRz HRz
      go_wp2
      go_roundw
      case measure => simp [intOf]; omega
      case rel =>
        exact ⟨i + 1, hlt, by simp, ⟨_, put_own HRz2.out i 0⟩, ⟨HS.out.bel.setCell (p := ⟨gi, i, none⟩) (by simp; omega) _, trivial, HS.out.keeps⟩⟩
    · obtain rfl : i = y.length := by omega
      clear HRz
      go_wp2_with (first | (go_at_call 20; refine (colophonref00_EqBytes.calls _ A2 k2 p A c p true _ (Kd.C_below HCin.out (HS.out.step (by repeat (first | exact Below.refl _ _ | apply zq2 | apply zq3 | apply zq4 | apply zq5))).bel) HLA2.out (Kd.C_below HCpp.out (HS.out.step (by repeat (first | exact Below.refl _ _ | apply zq2 | apply zq3 | apply zq4 | apply zq5))).bel) HCp.out HEP.out).mono ?_; rintro e wq ⟨rfl, hd⟩; have hb := hd.below; clear hd; have m_ := Aside0.mk (HS.out.call (by repeat (first | exact Below.refl _ _ | apply zq2 | apply zq3 | apply zq4 | apply zq5)) hb); clear HS hb ; have HS := m_; clear m_) | (go_at_call 21; refine (works15_ok _).mono ?_; rintro e w1 ⟨rfl, hb⟩; have m_ := Aside0.mk (HS.out.call (by repeat (first | exact Below.refl _ _ | apply zq2 | apply zq3 | apply zq4 | apply zq5)) hb); clear HS hb ; have HS := m_; clear m_))
      go_ret
      exact ⟨rfl, below_step HW1.out (HS.out.step (by repeat (first | exact Below.refl _ _ | apply zq2 | apply zq3 | apply zq4 | apply zq5))).bel⟩
theorem EditApply_row (A : Option Addr) (n c : Nat) (zs : List Int) (E : Option Addr) (m d : Nat) (es : List S29) (W : World) (h : IsRow .u8 W A n c zs) (hb : c ≤ 1048576) (g : IsEds W E m d es) :
    Calls Try.prog 7 #[.slice A n c, .slice E m d] W fun e W' => e = .returned (.bool true) ∧ Below W.heap.size W W' := by
  have hn : A = none → c = 0 := fun e => by
    subst e
    rcases h with ⟨_, _, h, _⟩ | ⟨x, h, _⟩
    · exact h
    · cases h
  obtain ⟨l, rfl, hc, hC, hw⟩ := h.reads
  obtain ⟨rfl, hd, hm, _, hre, he⟩ := g
  exact EditApply_ok A E c d l es W hC hc hn (fun x hx => byte_wf (hw x hx)) (by omega) hre hd he
end Go.Proofs.Ytjebkpcekkkbkaa.B
namespace Go.Proofs.Ytjebkpcekkkbkaa.editApply
open Go.ChangeShapes Go.WideShapes Go.ChangeAt Go.RowKit Go.Proofs.Ytjebkpcekkkbkaa.B
theorem own : ownKnob Try.prog.godebug = none := by kernel_rfl
theorem laidOut : laidOutB Try.prog = true := by kernel_rfl
set_option maxRecDepth 100000 in
theorem contract (H : Type) (enc : TypeId × Value → H) (W : World) (base : Nat) (args : Array Value) (ds gs : List (DataW H)) (before : List MemPlace)
    (hval0 : ∀ (j : Nat) t v, Try.f7.params[j]? = some t → args[j]? = some v → Value.okWide Try.prog W .any base t v)
    (hW : DataW.Whole enc Try.prog Try.f7.params.toList Rows.editApplySpec.vars false W args.toList ds gs before) (hk : Rows.uptoSmall H (ds ++ gs) = true) :
    Calls Try.prog 7 args W fun e W' => ∃ v, e = .returned v ∧ Rows.editApplySpec.post enc Try.prog Try.f7 false true false false W args v W' := by
  have hW' := hW
  obtain ⟨p, q, hA0, hV, rfl, hfz, hnd⟩ := hW
  have hA : DataW.TrodAll enc Try.prog W 0 (fun _ => true) true Try.f7.params.toList args.toList ds p := hA0
  have hval : ∀ (j : Nat) t v, Try.f7.params[j]? = some t → args[j]? = some v → Value.okWide Try.prog W .any base t v := hval0
  rw [Try.params7] at hA hval
  obtain ⟨v0, vs0, d0, ds0, p0, q0, hargs, rfl, rfl, h0, r0⟩ := trodAll_cons hA
  obtain ⟨v1, vs1, d1, ds1, p1, q1, rfl, rfl, rfl, h1, r1⟩ := trodAll_cons r0
  obtain ⟨rfl, rfl, rfl⟩ := trodAll_nil r1
  obtain rfl : args = #[v0, v1] := by cases args; simp_all
  obtain ⟨rfl, rfl⟩ := trodVars_none hV
  have hbulk := bulks.bound hk
  obtain ⟨a0, len0, cap0, rfl⟩ := okWide_slice Try.underlying22 (hval 0 22 v0 rfl rfl)
  have k0 := h0
  have lt0 : ∀ x ∈ p0, x.block < W.heap.size := by obtain ⟨m, hm⟩ := k0; exact DataW.trod_lt m _ _ _ hm
  obtain ⟨z0, w0, b0⟩ : ∃ zs, IsRow .u8 W a0 len0 cap0 zs ∧ cap0 ≤ 1048576 := by
    obtain ⟨fuel, hf⟩ := h0
    rcases open_ints Try.underlying22 Try.underlying5 (by kernel_rfl) hf with ⟨hcs, _⟩ | ⟨x, l, c, zs, hcs, _, hl, hm, hz, hd, hcell, hwz⟩
    · simp [Value.cells] at hcs
      obtain ⟨rfl, rfl, rfl⟩ := hcs
      exact ⟨[], .inl ⟨rfl, rfl, rfl, rfl⟩, by decide⟩
    · simp [Value.cells] at hcs
      obtain ⟨rfl, rfl, rfl⟩ := hcs
      refine ⟨zs, .inr ⟨_, rfl, hl, hm, by simpa using hz, hcell, hwz⟩, ?_⟩
      injection hd with hd _
      have hp : d0 ∈ _ := (show d0 ∈ ([d0, d1] : List (DataW H)) ++ [] from by simp)
      have h1 := bulks.part_le hp
      rw [hd] at h1
      have h2 := bulks.slice_le (H := H) (lits .u8 (zs.take len0)) (lits .u8 (zs.drop len0))
      rw [hd] at hbulk
      have hz' : zs.length = cap0 := by simpa using hz
      simp [lits] at h1 h2 hbulk
      omega
  obtain ⟨a1, len1, cap1, rfl⟩ := okWide_slice Try.underlying47 (hval 1 47 v1 rfl rfl)
  have k1 := h1
  have lt1 : ∀ x ∈ p1, x.block < W.heap.size := by obtain ⟨m, hm⟩ := k1; exact DataW.trod_lt m _ _ _ hm
  obtain ⟨z1, w1⟩ : ∃ es, IsEds W a1 len1 cap1 es := by
    obtain ⟨fuel, hf⟩ := h1
    have hp : d1 ∈ _ := (show d1 ∈ ([d0, d1] : List (DataW H)) ++ [] from by simp)
    exact open_eds hf (Nat.le_trans (bulks.part_le hp) hbulk)
  clear hA0 hval0
  refine (EditApply_row a0 len0 cap0 z0 a1 len1 cap1 z1 W w0 b0 w1).mono fun e W' ⟨he, bel⟩ => ?_
  subst he
  exact ⟨_, rfl, _, _, _, [], _, [], hW', trodAll_mk1 (shut_bool Try.underlying4 _), (trodAll_cons_mk (Below.trod laidOut (by kernel_rfl) (of_decide_eq_true (by kernel_rfl)) k0 bel lt0) (trodAll_cons_mk (Below.trod laidOut (by kernel_rfl) (of_decide_eq_true (by kernel_rfl)) k1 bel lt1) trodAll_mk0)), rfl, bel.frame _, fun h => by cases h⟩
set_option maxRecDepth 100000 in
theorem lifted (os : Os) (started : os.Started) (H : Type) (enc : TypeId × Value → H) (F : Stop.Interp) :
    ReturnsInHanded {} Try.checked os 7 .any ((Rows.OpenSpec.upto Rows.editApplySpec).pre6 enc Try.prog Try.f7 Rows.editApplyUptoRow.domain false) (((Rows.OpenSpec.upto Rows.editApplySpec).at F).post enc Try.prog Try.f7 false true false false) := by
  refine returnsInHanded_of_cond (C := Try.checked) (s := Rows.OpenSpec.upto Rows.editApplySpec) (k := Rows.uptoSmall) rfl own started (by kernel_rfl) Try.func7
    (OpenSpec.witness (enc := enc) (C := Try.checked) (s := Rows.OpenSpec.upto Rows.editApplySpec) (k := Rows.uptoSmall) rfl false ⟨#[], #[.slice none 0 0, .slice none 0 0], []⟩ 8 (by kernel_rfl) (by kernel_rfl) (by kernel_rfl)
      (x := ([.nil, .nil], [], [])) (by kernel_rfl) rfl (by kernel_rfl)) ?_
  intro W base args ds gs before hval hW _ hk _
  exact contract H enc W base args ds gs before hval hW hk
theorem proved : Rows.EditApplyUptoSaid :=
  OpenClaim.holds_of_cond 7 Try.f7 rfl rfl rfl rfl rfl rfl rfl ⟨rfl, rfl, rfl, rfl, rfl⟩ rfl rfl rfl rfl rfl (by kernel_rfl) Try.func7 (by kernel_rfl)
    (of_decide_eq_true (by kernel_rfl)) (by unfold Func.isWrapper; first | (rw [if_pos (by decide +kernel)]; kernel_rfl) | (rw [if_neg (by decide +kernel)]; exact ⟨rfl, rfl⟩))
    (fun os started H enc _ F => lifted os started H enc F)
#print axioms proved
end Go.Proofs.Ytjebkpcekkkbkaa.editApply
namespace Go.Proofs.Ytjebkpcekkkbkaa
theorem editApplyUpto_holds : Rows.EditApplyUptoSaid := editApply.proved
end Go.Proofs.Ytjebkpcekkkbkaa
