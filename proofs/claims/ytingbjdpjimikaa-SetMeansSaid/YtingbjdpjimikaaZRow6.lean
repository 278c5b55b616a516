/-
  Rows: how a slice of pairs of numbers that came in is read; SetMeans, SetNots, SetForm.
-/
import Derived.Test.YtingbjdpjimikaaZRow61
set_option linter.unusedSimpArgs false
set_option linter.unusedVariables false
namespace Go.Proofs.Ytingbjdpjimikaa.B
open Go.RowKit Go.Proofs Go.Proofs.YtingbjdpjimikaaW.PrintWords Go.Proofs.YtingbjdpjimikaaW.PrintLast Go.Proofs.YtingbjdpjimikaaW.PrintMore Go.Proofs.Ytingbjdpjimikaa.FBase
theorem cell_drew1 {W : World} {p : Addr} {v : Value} (h : W.cell? p = some v) : W.drew.cell? p = some v := h
def cutSp (n : Int) (s : Sp) : List Sp := [⟨s.f0 + bring n (s.f1 - s.f0 + 1), s.f1⟩, ⟨s.f0, s.f0 + bring n (s.f1 - s.f0 + 1)⟩]
def turn (n : Int) (a : List Sp) (j : Nat) : List Sp := (a.drop j).reverse.flatMap (cutSp n)
theorem turn_all (n : Int) (a : List Sp) : turn n a a.length = [] := by
  unfold turn
  rw [List.drop_length]
  rfl
theorem turn_step (n : Int) (a : List Sp) (i : Nat) (h : i < a.length) : turn n a i = turn n a (i + 1) ++ cutSp n a[i] := by
  unfold turn
  rw [List.drop_eq_getElem_cons h, List.reverse_cons, List.flatMap_append]
  simp
theorem turn_len (n : Int) (a : List Sp) (j : Nat) : (turn n a j).length ≤ 2 * a.length := by
  have : ∀ l : List Sp, (l.flatMap (cutSp n)).length = 2 * l.length := by
    intro l
    induction l with
    | nil => rfl
    | cons x l ih =>
      rw [List.flatMap_cons, List.length_append, ih, List.length_cons]
      show 2 + 2 * l.length = _
      omega
  unfold turn
  rw [this, List.length_reverse, List.length_drop]
  omega
theorem cutSp_ok (n : Int) {s : Sp} (h0 : 0 ≤ s.f0) (h1 : s.f0 < s.f1) (h2 : s.f1 ≤ 1114112) : (∀ x ∈ cutSp n s, may x) ∧ ∀ c, sHas (cutSp n s) c = inS s c := by
  have hb := bring_lo n (n := s.f1 - s.f0 + 1) (by omega)
  unfold cutSp
  refine ⟨fun x hx => ?_, fun c => ?_⟩
  · rcases List.mem_cons.1 hx with rfl | hx
    · unfold may; simp only; omega
    · obtain rfl := List.mem_singleton.1 hx
      unfold may; simp only; omega
  · rw [sHas_cons, sHas_cons, sHas_nil, Bool.or_false]
    generalize bring n (s.f1 - s.f0 + 1) = r at *
    unfold inS
    simp only
    by_cases e1 : s.f0 ≤ c <;> by_cases e2 : c < s.f1 <;> by_cases e3 : s.f0 + r ≤ c <;> by_cases e4 : c < s.f0 + r <;> simp [e1, e2, e3, e4] <;> omega
theorem turn_ok (n : Int) {a : List Sp} (h : sCheck a = 0) (hl : a.length ≤ 128) : sOf (turn n a 0) = (a, 0) := by
  obtain ⟨_, h1, h2⟩ := (sCheck_ok a).1 h
  have hs : ∀ s ∈ a, 0 ≤ s.f0 ∧ s.f0 < s.f1 ∧ s.f1 ≤ 1114112 := fun s hs => ⟨(h1.all s hs).1, (h1.all s hs).2, h2 s hs⟩
  have e0 : turn n a 0 = a.reverse.flatMap (cutSp n) := by unfold turn; rw [List.drop_zero]
  have hmay : ∀ x ∈ turn n a 0, may x := fun x hx => by
    rw [e0] at hx
    obtain ⟨s, hsm, hx⟩ := List.mem_flatMap.1 hx
    have hs := hs s (List.mem_reverse.1 hsm)
    exact (cutSp_ok n hs.1 hs.2.1 hs.2.2).1 x hx
  have hhas : ∀ c, sHas (turn n a 0) c = sHas a c := fun c => by
    rw [e0]
    have : ∀ l : List Sp, (∀ s ∈ l, s ∈ a) → sHas (l.flatMap (cutSp n)) c = sHas l c := by
      intro l
      induction l with
      | nil => intro _; rfl
      | cons x l ih =>
        intro hl
        have hx := hs x (hl x (by simp))
        rw [List.flatMap_cons, sHas_app, ih (fun s hs => hl s (List.mem_cons_of_mem _ hs)), (cutSp_ok n hx.1 hx.2.1 hx.2.2).2 c, sHas_cons]
    rw [this _ (fun s hs => List.mem_reverse.1 hs)]
    exact sHas_perm (List.reverse_perm a) c
  have hf := sOf_fine (l := turn n a 0) (by have := turn_len n a 0; omega) hmay
  have e1 : (sOf (turn n a 0)).1 = a := set_uniq (sOf_good _) h fun c c0 c1 => by rw [hf.2 c c0 c1, hhas c]
  exact Prod.ext e1 hf.1
set_option maxRecDepth 100000 in
set_option maxHeartbeats 4000000 in
theorem SetForm_ok (A : Option Addr) (c : Nat) (l : List Sp) (n : Int) (w : World) (hr : Kd.C k39 w A l.length l) (hc : l.length ≤ c) :
    Calls Try.prog 6 #[.slice A l.length c, .int .i64 n] w fun e w' => e = .returned (.bool true) ∧ Below w.heap.size w w' := by
  have HS : Aside0 (Sta w w (fun W => Kd.C k39 W A l.length l ∧ True)) := ⟨⟨Below.refl _ _, ⟨hr, trivial⟩, keeps_and (keeps_C _ _ _ _) (fun _ _ h _ => h)⟩⟩
  obtain ⟨sa, la⟩ := madeL_ok l
  have hm1 := fun a h W hW => Made_w A c l a h W hW hc
  obtain ⟨a, hae⟩ : ∃ a, madeL l = a := ⟨_, rfl⟩
  have HM1 := Aside0.mk (hm1 a hae)
  rw [hae] at sa la
  have HCK := Aside0.mk (show charset_Check.f 1001 a = some 0 by rw [check_ff a (by omega), sa])
  have HTO := Aside0.mk (turn_ok n sa (by omega))
  obtain ⟨_, h1, h2⟩ := (sCheck_ok a).1 sa
  have HSA : Aside0 (∀ s ∈ a, 0 ≤ s.f0 ∧ s.f0 < s.f1 ∧ s.f1 ≤ 1114112) := ⟨fun s hs => ⟨(h1.all s hs).1, (h1.all s hs).2, h2 s hs⟩⟩
  have HLT := Aside0.mk (turn_len n a)
  have hwl : wrap64 ((a.length : Int) - 1) = (a.length : Int) - 1 := by unfold wrap64; omega
  clear hr hc hm1 hae sa h1 h2
  go_enter Try.func6, Try.ntmps6
  go_wp2_with (first | (go_at_call 19; refine (works17_ok _).mono ?_; rintro e w' ⟨rfl, hb⟩; have m_ := Aside0.mk (HS.out.call (by repeat (first | exact Below.refl _ _ | apply zq2 | apply zq3 | apply zq4 | apply zq5)) hb); clear HS hb; have HS := m_; clear m_) | (go_at_call 26; refine (HM1.out _ (HS.out.step (by repeat (first | exact Below.refl _ _ | apply zq2 | apply zq3 | apply zq4 | apply zq5))).now.1).mono ?_; rintro e w' ⟨Aa, ca, rfl, ha, hC, hb⟩; have m_ := Aside0.mk ((HS.out.call (by repeat (first | exact Below.refl _ _ | apply zq2 | apply zq3 | apply zq4 | apply zq5)) hb).add hC (keeps_C _ _ _ _)); clear HS hb hC; have HS := m_; clear m_) | (go_at_call 14; refine (charset_Check.calls 1001 Aa ca a 0 _ (HS.out.step (by repeat (first | exact Below.refl _ _ | apply zq2 | apply zq3 | apply zq4 | apply zq5))).now.1 ha HCK.out).mono ?_; rintro e w1 ⟨rfl, hb⟩; have m_ := Aside0.mk (HS.out.call (by repeat (first | exact Below.refl _ _ | apply zq2 | apply zq3 | apply zq4 | apply zq5)) hb); clear HS hb; have HS := m_; clear m_))
  go_loopw [6, 7] (fun s6 s7 W => ∃ (j : Nat) (q : Int) (A2 : Option Addr) (c2 : Nat), s7 = .int .i64 q ∧ s6 = .slice A2 (turn n a j).length c2 ∧ j ≤ a.length ∧ Aside0 (q = (j : Int) - 1) ∧ Aside0 (Kd.R k39 39 W w1.heap.size (fun _ => True) (.slice A2 (turn n a j).length c2) (turn n a j)) ∧ Aside0 (Below w1.heap.size w1 W)) (fun _ s7 _ => (intOf s7 + 1).toNat)
  case atStart => exact ⟨a.length, _, none, 0, rfl, by rw [turn_all]; rfl, Nat.le_refl _, ⟨rfl⟩, ⟨by rw [turn_all]; exact Kd.R_nil _ _ _ _ _⟩, ⟨Below.refl _ _⟩⟩
  case round =>
    obtain ⟨j, q, A2, c2, rfl, rfl, hj, HQ, HO, HB⟩ := hrel
    rcases j with _ | i
    · obtain rfl : q = -1 := by have := HQ.out; omega
      have HOF0 := fun A c W h => Of_ok A c (turn n a 0) W h
      rw [HTO.out] at HOF0
      have hCT := (Kd.R_reads' HO.out).2.2
      have HCT := Aside0.mk hCT
      have HCA := Aside0.mk (Kd.C_below HS.out.now.1 HB.out)
      have HOF := Aside0.mk HOF0
      clear HOF0 hCT HQ HO
      generalize (turn n a 0).length = tl at *
      go_wp2_with (go_at_call 11; refine (HOF.out _ _ _ HCT.out).mono ?_; rintro e w4 ⟨v, rfl, hR, hb⟩; obtain ⟨Ab, cb, e9, hlb, hCb⟩ := read_of hR; subst e9; have HCB := Aside0.mk hCb; have HB4 := Aside0.mk (HB.out.trans (hb.mono HB.out.size)); have m_ := Aside0.mk (Kd.C_below HCA.out hb); clear HCA; have HCA := m_; clear m_ hR hb hCb)
      go_loopw [11] (fun s11 W => ∃ k : Nat, s11 = .int .i64 k ∧ k ≤ a.length ∧ Aside0 (Drawn0 w4 W)) (fun s11 _ => a.length - (intOf s11).toNat)
      case atStart => exact ⟨0, rfl, Nat.zero_le _, ⟨Drawn0.refl _⟩⟩
      case round =>
        obtain ⟨k, rfl, hk, HD⟩ := hrel
        obtain ⟨dn, rfl⟩ := HD.out.out
        by_cases hlt : k < a.length
        · have g2 : decide (k < a.length) = true := decide_eq_true hlt
          obtain ⟨ad, e1, y0, y1⟩ := at_T39 HCA.out (k : Int) (by omega) (by omega)
          obtain ⟨ad', e1', z0, z1⟩ := at_T39 HCB.out (k : Int) (by omega) (by omega)
          cases e1
          cases e1'
          rw [Int.toNat_natCast] at y0 y1 z0 z1
          have hw : wrap64 ((k : Int) + 1) = (k : Int) + 1 := by unfold wrap64; omega
          have p1 : (0 : Int) ≤ (k : Int) := by omega
          have p2 : (k : Int) < (a.length : Int) := by omega
          generalize rd_T39 a (k : Int) = x at *
          go_wp2
          go_quiet (fail)
          go_wp2
          go_roundw
          case measure => (first | rw [hw] | skip); show a.length - ((k : Int) + 1).toNat < a.length - (k : Int).toNat; omega
          case rel => exact ⟨k + 1, by (first | rw [hw] | skip); rfl, by omega, ⟨by first | exact ⟨⟨_, rfl⟩⟩ | exact ⟨⟨_, World.drewN_drewN _ _ _⟩⟩⟩⟩
        · have g2 : decide (k < a.length) = false := decide_eq_false hlt
          go_wp2
          go_ret
          exact ⟨rfl, below_step HS.out.bel (pw_below_drewN HB4.out _)⟩
    · obtain rfl : q = (i : Int) := by have := HQ.out; omega
      have hi : i < a.length := by omega
      have hsa := HSA.out a[i] (List.getElem_mem hi)
      have hts := turn_step n a i hi
      obtain ⟨ad, e1, y0, y1⟩ := at_T39 (Kd.C_below HS.out.now.1 HB.out) (i : Int) (by omega) (by omega)
      obtain ⟨ad', e1', z0, z1⟩ := at_T39 HS.out.now.1 (i : Int) (by omega) (by omega)
      cases e1
      cases e1'
      rw [Int.toNat_natCast] at y0 y1 z0 z1
      rw [rdS hi] at y0 y1 z0 z1
      have HY := Aside0.mk (And.intro z0 z1)
      obtain ⟨y, hy⟩ : ∃ y, (a[i]).f0 = y := ⟨_, rfl⟩
      obtain ⟨z, hz⟩ : ∃ y, (a[i]).f1 = y := ⟨_, rfl⟩
      have hts2 : turn n a i = turn n a (i + 1) ++ [⟨y + bring n (z - y + 1), z⟩, ⟨y, y + bring n (z - y + 1)⟩] := by rw [hts, ← hy, ← hz]; rfl
      rw [hy] at y0 hsa HY
      rw [hz] at y1 hsa HY
      clear hts hy hz z0 z1
      obtain ⟨s0, s1, s2⟩ := hsa
      have v1 : IntKind.i64.wrap (z - y) = z - y := IntWalk.i64_in _ (by omega)
      have v2 : IntKind.i64.wrap (z - y + 1) = z - y + 1 := IntWalk.i64_in _ (by omega)
      have hbr := bring_lo n (n := z - y + 1) (by omega)
      have hbc := bring_c n (z - y + 1) (by omega) (by omega)
      obtain ⟨r, hre⟩ : ∃ r, bring n (z - y + 1) = r := ⟨_, rfl⟩
      rw [hre] at hbr hbc hts2
      obtain ⟨r0, r1⟩ := hbr
      have v3 : IntKind.i64.wrap (y + r) = y + r := IntWalk.i64_in _ (by omega)
      have HBR := Aside0.mk hbc
      have HTS := Aside0.mk hts2
      clear hre hbc hts2 hj
      have hwi : wrap64 ((i : Int) - 1) = (i : Int) - 1 := by unfold wrap64; omega
      go_wp2
      go_quiet ((go_at_call 27; exact Calls.quiet_of (HBR.out _)))
      clear v1 v2 v3 HBR
      obtain ⟨W0, hW0⟩ : ∃ W0, wr.drewN nq = W0 := ⟨_, rfl⟩
      have HO0 := Aside0.mk (show Kd.R k39 39 W0 w1.heap.size (fun _ => True) (.slice A2 (turn n a (i + 1)).length c2) (turn n a (i + 1)) from hW0 ▸ Kd.R_drewN HO.out _)
      have HB0 := Aside0.mk (show Below w1.heap.size w1 W0 from hW0 ▸ pw_below_drewN HB.out _)
      rw [hW0]
      clear HO HB hW0 y0 y1
      have HO := HO0
      have HB := HB0
      clear HO0 HB0
      have x0 : W0.cell? (ad.add (i * 2)) = some (.int .i64 y) := cell_below HY.out.1 HB.out
      have x1 : W0.cell? ⟨(ad.add (i * 2)).block, (ad.add (i * 2)).off + 1, none⟩ = some (.int .i64 z) := cell_below HY.out.2 HB.out
      go_wp2
      go_region_held3 (fun wx => wx.cell? (ad.add (i * 2)) = some (.int .i64 y) ∧ wx.cell? ⟨(ad.add (i * 2)).block, (ad.add (i * 2)).off + 1, none⟩ = some (.int .i64 z)) (first | (go_keep; done) | (go_split_ands; refine ⟨?_, ?_⟩ <;> (repeat (first | assumption | apply cell_alloc1 | apply cell_drewN1 | apply cell_drew1)))) (first | (go_at_call 28; refine (span_c _ _ _).mono ?_; rintro e w' ⟨rfl, rfl⟩) | ((refine Kd.R_append_rows_step k39 (w0 := w1) w1.heap.size (by rfl) (.tmp 46) (.tmp 61) 22 39 (.agg #[(.int .i64 0), (.int .i64 0)]) 16 (by rfl) Try.underlying22 info39 rfl (by decide) (by omega) (.slice A2 (turn n a (i + 1)).length c2) (turn n a (i + 1)) [⟨y + r, z⟩, ⟨y, y + r⟩] _ 2 2 (fun _ => True) (fun _ => False) (by rfl) (by rfl) ?aO ?aR (fun _ _ h => h) (fun _ h => h.elim) ?aF ?aB ?aS ?aL ?_; (case aR => exact lit_sp _ _ _ _ _ (by simp) rfl (by simp)); (case aB => exact (by repeat (first | exact HB.out | exact Below.refl _ _ | apply below_alloc | apply pw_below_drewN | apply below_drew1))); (case aF => exact (fun _ _ => trivial)); (case aO => exact (by (with_reducible repeat (first | apply Kd.R_alloc | apply Kd.R_drewN | apply Kd.R_drew)); exact HO.out)); (case aS => exact (below_size (by repeat (first | exact HB.out | exact Below.refl _ _ | apply below_alloc | apply pw_below_drewN | apply below_drew1)))); (case aL => have := HLT.out (i + 1); omega); intro v3 w3 ho hb hg hat; have n0_ := Aside0.mk hb; have n1_ := Aside0.mk ho; have x0 : w3.cell? (ad.add (i * 2)) = some (.int .i64 y) := cell_below HY.out.1 hb; have x1 : w3.cell? ⟨(ad.add (i * 2)).block, (ad.add (i * 2)).off + 1, none⟩ = some (.int .i64 z) := cell_below HY.out.2 hb; clear ho hb hg hat)))
      go_wp2
      go_roundw
      case measure => (first | rw [hwi] | skip); show ((i : Int) - 1 + 1).toNat < ((i : Int) + 1).toNat; omega
      case rel =>
        have hts := HTS.out
        rw [← hts] at n1_
        obtain ⟨A3, c3, e3⟩ := Kd.R_slice n1_.out
        subst e3
        exact ⟨i, _, A3, c3, by (first | rw [hwi] | skip); rfl, rfl, by omega, ⟨by (first | rw [hwi] | skip); rfl⟩, n1_, n0_⟩
end Go.Proofs.Ytingbjdpjimikaa.B
namespace Go.Proofs.Ytingbjdpjimikaa.B
open Go.RowKit Go.ChangeShapes Go.WideShapes Go.Joins Go.Deep Go.Proofs.YtingbjdpjimikaaW.PrintWords Go.Proofs.Ytingbjdpjimikaa.FBase
def IsPrs (W : World) (E : Option Addr) (len cap : Nat) (l : List S39) : Prop :=
  l.length = len ∧ len ≤ cap ∧ Kd.C k39 W E l.length l
section
variable {H : Type} {enc : TypeId × Value → H} {W : World} {base : Nat} {spare : Nat → Bool} {held : Bool}
set_option maxRecDepth 100000 in
theorem trod_pr {fuel : Nat} {cs : List Value} {x : DataW H × List MemPlace} (h : DataW.trod enc Try.prog W base spare held fuel 61 cs = some x) : ∃ x0 x1 : Int, cs = [.int .i64 x0, .int .i64 x1] := by
  obtain ⟨xs, m, _, hx, hc, hl, hf⟩ := DataW.trod_array Try.underlying61 h
  have h2 : Try.prog.cellsOf 61 = 2 := by kernel_rfl
  have h1 : Try.prog.cellsOf 3 = 1 := by kernel_rfl
  rw [h2] at hc
  match cs, hc, xs, hl with
  | [c0, c1], _, [z0, z1], _ =>
    have f0 := hf 0 (by omega)
    have f1 := hf 1 (by omega)
    simp [h1] at f0 f1
    obtain ⟨x0, e0, _, _⟩ := DataW.trod_int Try.underlying3 f0
    obtain ⟨x1, e1, _, _⟩ := DataW.trod_int Try.underlying3 f1
    cases e0
    cases e1
    exact ⟨x0, x1, rfl⟩
set_option maxRecDepth 100000 in
theorem open_prs {fuel : Nat} {E : Option Addr} {len cap : Nat} {x : DataW H × List MemPlace} (h : DataW.trod enc Try.prog W base spare held fuel 34 [.slice E len cap] = some x) :
    ∃ l, IsPrs W E len cap l := by
  rcases open_slice Try.underlying34 h with ⟨hcs, _⟩ | ⟨a, len', cap', m, n, D, Pl, hcs, hb, hl, hm, hmm, rfl, hx⟩
  · obtain ⟨rfl, rfl, rfl⟩ : E = none ∧ len = 0 ∧ cap = 0 := by simpa using hcs
    exact ⟨[], rfl, Nat.le_refl _, Kd.C_nil _ _⟩
  · obtain ⟨rfl, rfl, rfl⟩ : E = some a ∧ len = len' ∧ cap = cap' := by simpa using hcs
    clear hcs
    have hlm : len ≤ m := by rw [hmm]; split <;> omega
    have h2 : Try.prog.cellsOf 61 = 2 := by kernel_rfl
    have key : ∀ i, i < len → ∃ x : S39, ∀ j u, [Value.int .i64 x.f0, .int .i64 x.f1][j]? = some u → W.cell? (a.add (i * 2 + j)) = some u := by
      intro i hi
      obtain ⟨cs', h1, h3⟩ := hx i (by omega)
      obtain ⟨x0, x1, rfl⟩ := trod_pr h3
      obtain ⟨_, hlen, hcell⟩ := World.cells?_some h1
      refine ⟨⟨x0, x1⟩, fun j u hj => ?_⟩
      have hj2 : j < 2 := by
        have := (List.getElem?_eq_some_iff.1 hj).1
        simpa using this
      have := hcell j (by rw [h2]; exact hj2)
      rw [Go.Deep.add_add, h2] at this
      rw [this]
      exact hj
    haveI : Inhabited S39 := ⟨z39⟩
    obtain ⟨V, hV⟩ := choose_lt key
    have hel : ((List.range len).map V).length = len := by simp
    refine ⟨(List.range len).map V, hel, hl, ⟨rfl, by rw [hel]; unfold maxLen at hm; omega, fun _ => ⟨a, rfl, fun j p hj => ?_⟩⟩⟩
    obtain ⟨hj1, rfl⟩ := List.getElem?_eq_some_iff.1 hj
    have hj2 : j < len := by simpa using hj1
    refine ⟨_, ?_, k39_mk W _, fun i u hu => ?_⟩
    · rfl
    · simp only [List.getElem_map, List.getElem_range] at hu
      exact hV j hj2 i u hu
end
theorem SetMeans_said (E : Option Addr) (len cap : Nat) (l : List S39) (E' : Option Addr) (len' cap' : Nat) (l' : List S39) (x : Int) (W : World) (h : IsPrs W E len cap l) (h' : IsPrs W E' len' cap' l') (hx : (Lit.int .i64 x).wf = true) :
    Calls Try.prog 5 #[.slice E len cap, .slice E' len' cap', .int .i64 x] W fun e w' => e = .returned (.bool true) ∧ Below W.heap.size W w' := by
  obtain ⟨rfl, hc, hC⟩ := h
  obtain ⟨rfl, hc', hC'⟩ := h'
  exact SetMeans_ok E cap l E' cap' l' x W hC hc hC' hc'
theorem SetNots_said (E : Option Addr) (len cap : Nat) (l : List S39) (E' : Option Addr) (len' cap' : Nat) (l' : List S39) (W : World) (h : IsPrs W E len cap l) (h' : IsPrs W E' len' cap' l') :
    Calls Try.prog 7 #[.slice E len cap, .slice E' len' cap'] W fun e w' => e = .returned (.bool true) ∧ Below W.heap.size W w' := by
  obtain ⟨rfl, hc, hC⟩ := h
  obtain ⟨rfl, hc', hC'⟩ := h'
  exact SetNots_ok E cap l E' cap' l' W hC hc hC' hc'
theorem SetForm_said (E : Option Addr) (len cap : Nat) (l : List S39) (x : Int) (W : World) (h : IsPrs W E len cap l) (hx : (Lit.int .i64 x).wf = true) :
    Calls Try.prog 6 #[.slice E len cap, .int .i64 x] W fun e w' => e = .returned (.bool true) ∧ Below W.heap.size W w' := by
  obtain ⟨rfl, hc, hC⟩ := h
  exact SetForm_ok E cap l x W hC hc
end Go.Proofs.Ytingbjdpjimikaa.B
