/-
  Chapter 4's statements: what they share.
-/
import Derived.RangeFuncNested
import Derived.RangeFuncBound
import Derived.RangeFuncCalls
import Derived.RangeFuncLeaves
import Derived.RangeFuncBox
import Derived.Shelf.Abstract
import Derived.Shelf.RegionOpen
import Derived.OwnWalkIn
import Derived.TacticsInMore
import Derived.LoopNIn
import Derived.LoopIn
import Derived.Test.YtogfaahdbecdnaaFBasex4
import Derived.Deep.DeepFit
import Derived.Test.YtogfaahdbecdnaaFBasex5
import Derived.Test.YtogfaahdbecdnaaBulk
import Derived.ChangeShapes
import Derived.WalkMore
import Derived.WalkSpells
import Derived.Deep.DeepCutAuto
import Derived.Deep.CutRange
import Derived.Deep.RegionHeld3
import Derived.Test.YtogfaahdbecdnaaZH61
set_option linter.unusedSimpArgs false
set_option linter.unusedVariables false
/-
  place: Pos, End, walked.
-/
namespace Go.Proofs.Ytogfaahdbecdnaa.B
open Go.RowKit Go.Shelf Go.Proofs Go.Proofs.YtogfaahdbecdnaaW.PrintWords Go.Proofs.YtogfaahdbecdnaaW.PrintLast Go.Proofs.YtogfaahdbecdnaaW.PrintMore Go.Proofs.Ytogfaahdbecdnaa.FBase
set_option linter.unusedVariables false
set_option linter.unusedSimpArgs false

theorem froz_alloc2 {W : World} {p : Addr} {v : Value} (hc : W.cell? p = some v) (h : W.frozen? p = false) (o o' : Obj) : ((W.alloc o).alloc o').frozen? p = false := froz_alloc1 (cell_alloc1 hc o) (froz_alloc1 hc h o) o'
theorem FindAt.from_le {L : List Ln} {fr e at_ : Int} {r : Nat} (hc : Chain L fr e) (h : FindAt L at_ r) (h0 : fr ≤ at_) : (rdLn L r).f0 ≤ at_ := by
  have h1 := h.1
  cases r with
  | zero => have := (hc.at 0 h1).2.2.2.2.1 rfl; rw [this]; exact h0
  | succ r =>
    have h2 := (hc.at r (by omega)).2.2.2.2.2.1 h1
    rw [h2.2.2]
    exact h.2.1 r (Nat.lt_succ_self _)

set_option maxRecDepth 100000 in
set_option maxHeartbeats 1000000 in
/-- (*place.Map).Pos of a byte of the text, or its end. -/
theorem MPos_ok (m : Nat) (l : List Int) (at_ : Int) (r : Nat) (w : World) (hM : IsMap w m l) (hs : l.length ≤ 1048576) (hB : Bytes l) (hv : V l) (h0 : 0 ≤ at_) (h1 : at_ ≤ l.length) (hf : FindAt (lns l 0 0) at_ r) :
    Calls Try.prog 39 #[.pointer (some ⟨m, 0, none⟩), .int .i64 at_] w fun e w' => e = .returned (.tuple #[.agg #[.int .i64 r, .int .i64 (ufl (chars (seg l (rdLn (lns l 0 0) r))) (at_ - (rdLn (lns l 0 0) r).f0))], .int .i64 0]) ∧ Below w.heap.size w w' := by
  obtain ⟨a, A, c, hc, hA⟩ := hM.open
  have HC := Aside0.mk hc
  have hb1 := below_alloc (Below.refl _ w) (.cells #[.int .i64 0, .int .i64 0] 58)
  have HS : Aside0 (Sta w (w.alloc (.cells #[.int .i64 0, .int .i64 0] 58)) (fun W => IsBlk W w.heap.size (.cells #[.int .i64 0, .int .i64 0] 58) ∧ MapAt W m a A c l)) := ⟨⟨hb1, ⟨blk_new w _, keeps_mapAt m a A c l _ _ hA hb1⟩, keeps_and (keeps_blk _ _) (keeps_mapAt _ _ _ _ _)⟩⟩
  have cm : (w.alloc (.cells #[.int .i64 0, .int .i64 0] 58)).cell? ⟨m, 0, none⟩ = some (.pointer (some ⟨a, 0, none⟩)) := HS.out.now.2.2.2.cell 0
  clear hM hA hb1 hc
  have hch := lns_chain0 l
  have hln : (lns l 0 0).length ≤ 2097152 := by have := hch.length_le; omega
  have hr := hf.1
  have hat := hch.at r hr
  have hfl := hf.from_le hch h0
  have hcs : Cs (seg l (rdLn (lns l 0 0) r)) (chars (seg l (rdLn (lns l 0 0) r))) := V.chars (line_V hB hv r hr)
  have hsl : (seg l (rdLn (lns l 0 0) r)).length ≤ 1048576 := by unfold seg; rw [List.length_drop, List.length_take]; omega
  have hbs : Bytes (seg l (rdLn (lns l 0 0) r)) := fun y hy => hB y (List.mem_of_mem_take (List.mem_of_mem_drop hy))
  have hsgl : ((seg l (rdLn (lns l 0 0) r)).length : Int) = (rdLn (lns l 0 0) r).f1 - (rdLn (lns l 0 0) r).f0 := by unfold seg; rw [List.length_drop, List.length_take]; omega
  obtain ⟨g, hsz⟩ := hcs.good hbs
  have x0 : 0 ≤ (rdLn (lns l 0 0) r).f0 := hat.1
  have x1 : (rdLn (lns l 0 0) r).f0 ≤ (rdLn (lns l 0 0) r).f1 := hat.2.1
  have x2 : (rdLn (lns l 0 0) r).f1 ≤ l.length := by have := hat.2.2.1; have := hat.2.2.2.1; omega
  have HSEG := Aside0.mk (show seg l (rdLn (lns l 0 0) r) = (l.take (rdLn (lns l 0 0) r).f1.toNat).drop (rdLn (lns l 0 0) r).f0.toNat from rfl)
  have HF := Aside0.mk hf
  have HCH := Aside0.mk hch
  clear hat hch hf
  generalize chars (seg l (rdLn (lns l 0 0) r)) = rs at *
  generalize seg l (rdLn (lns l 0 0) r) = sg at *
  obtain ⟨L, hL⟩ : ∃ L, L = lns l 0 0 := ⟨_, rfl⟩
  have HLE := Aside0.mk hL
  rw [← hL] at hln hr x0 x1 x2 HSEG hfl hsgl HF HCH ⊢
  clear hL
  obtain ⟨x, hx⟩ : ∃ x, x = rdLn L r := ⟨_, rfl⟩
  have HX := Aside0.mk hx
  rw [← hx] at x0 x1 x2 HSEG hfl hsgl ⊢
  clear hx
  -- the piece ahead
  obtain ⟨hi, hhi⟩ : ∃ hi : Int, hi = if at_ ≤ x.f1 then at_ else x.f1 := ⟨_, rfl⟩
  have hi1 : x.f0 ≤ hi ∧ hi ≤ x.f1 ∧ hi ≤ at_ := by rw [hhi]; split <;> omega
  obtain ⟨B, d, hcut, hah, had⟩ := cut_seg _ A c l x.f0 hi HS.out.now.2.2.1 HC.out x0 hi1.1 (by omega)
  have hahs : (l.take hi.toNat).drop x.f0.toNat = sg.take (hi - x.f0).toNat := by
    rw [HSEG.out, show (hi - x.f0).toNat = hi.toNat - x.f0.toNat by omega, ← List.drop_take, List.take_take, show min hi.toNat x.f1.toNat = hi.toNat by omega]
  have hkk : ufl rs (hi - x.f0) = ufl rs (at_ - x.f0) := by
    rw [hhi]
    split
    · rfl
    · rw [(ufl_sz (x.f1 - x.f0) g (by omega)).1, (ufl_sz (at_ - x.f0) g (by omega)).1]
  have hfr := flo_range (r := rs) (hi - x.f0) g (by omega)
  have hck := chk_take hbs hcs (hi - x.f0).toNat (by omega)
  rw [show (((hi - x.f0).toNat : Nat) : Int) = hi - x.f0 by omega] at hck
  rw [hahs] at hcut hah had
  have hahb : Bytes (sg.take (hi - x.f0).toNat) := fun y hy => hbs y (List.mem_of_mem_take hy)
  have hchk := Check_f (sg.take (hi - x.f0).toNat) hahb (by rw [List.length_take]; omega) (Nat.lt_succ_self _)
  obtain ⟨q, hq, hqu⟩ := cs_take hcs hbs (hi - x.f0)
  rw [hkk] at hqu
  have hpre := cut_pre _ B d (sg.take (hi - x.f0).toNat) (flo rs (hi - x.f0)) hah had hfr.1 (by rw [List.length_take]; omega)
  have hpt : (sg.take (hi - x.f0).toNat).take (flo rs (hi - x.f0)).toNat = sg.take (flo rs (hi - x.f0)).toNat := by rw [List.take_take]; congr 1; omega
  have hof := Of_f (y := sg.take (flo rs (hi - x.f0)).toNat) (fun y hy => hbs y (List.mem_of_mem_take hy)) (by rw [List.length_take]; omega) hq (Nat.lt_succ_self _)
  rw [← hpt, hqu] at hof
  have hch2 : chk (sg.take (hi - x.f0).toNat) = (flo rs (hi - x.f0), (chk (sg.take (hi - x.f0).toNat)).2) := Prod.ext hck rfl
  rw [hch2] at hchk
  clear hpt hck hch2 hq hqu hkk hahb hahs hfr hcs hbs hsl hsgl hsz g
  generalize (chk (sg.take (hi - x.f0).toNat)).2 = ee at hchk
  generalize hfe : flo rs (hi - x.f0) = fl at *
  generalize ufl rs (at_ - x.f0) = uu at *
  generalize sg.take (hi - x.f0).toNat = ah at *
  obtain ⟨hcut2, hap, hpd⟩ := hpre
  generalize ah.take fl.toNat = ap at *
  have HK := Aside0.mk hchk
  have HO := Aside0.mk hof
  have m_ := Aside0.mk ((HS.out.add hah (keeps_C _ _ _ _)).add hap (keeps_C _ _ _ _))
  clear HS
  have HS := m_
  clear m_
  have HAD := Aside0.mk had
  have HPD := Aside0.mk hpd
  clear hchk hof hah had hap hpd hfe
  by_cases ha : at_ ≤ x.f1
  · obtain rfl : at_ = hi := by rw [hhi, if_pos ha]
    clear hhi
    go_enter Try.func39, Try.ntmps39
    go_upto_region 9 with (first | (go_at_call 63; refine (none_map _ m l (MapAt.map (HS.out.step (by repeat (first | exact Below.refl _ _ | apply below_alloc | apply pw_below_drewN | apply below_drew1))).now.2.2.2 HC.out)).mono ?_; rintro e w' ⟨rfl, rfl⟩) | (go_at_call 31; refine (Find_is a _ 0 l.length at_ r _ (HLE.out ▸ (HS.out.step (by repeat (first | exact Below.refl _ _ | apply below_alloc | apply pw_below_drewN | apply below_drew1))).now.2.2.2.1) HCH.out h0 h1 hln HF.out).mono ?_; rintro e w1 ⟨rfl, hb⟩; have m_ := Aside0.mk (HS.out.call (by repeat (first | exact Below.refl _ _ | apply below_alloc | apply pw_below_drewN | apply below_drew1)) hb); clear HS hb ; have HS := m_; clear m_; have cm : w1.cell? ⟨m, 0, none⟩ = some (.pointer (some ⟨a, 0, none⟩)) := HS.out.now.2.2.2.2.2.cell 0) | (go_at_call 27; refine (Line_ok a L (r : Int) _ (HLE.out ▸ (HS.out.step (by repeat (first | exact Below.refl _ _ | apply below_alloc | apply pw_below_drewN | apply below_drew1))).now.2.2.2.1) (by omega) (by omega) hln).mono ?_; rintro e w2 ⟨rfl, hb⟩; rw [← HX.out]; have m_ := Aside0.mk (HS.out.call (by repeat (first | exact Below.refl _ _ | apply below_alloc | apply pw_below_drewN | apply below_drew1)) hb); clear HS hb ; have HS := m_; clear m_; have cm : w2.cell? ⟨m, 0, none⟩ = some (.pointer (some ⟨a, 0, none⟩)) := HS.out.now.2.2.2.2.2.cell 0; have c1 := cell_alloc2 (HS.out.now.2.2.2.2.2.cell 1); have k0 : w2.cell? ⟨w.heap.size, 0, none⟩ = some (.int .i64 0) := HS.out.now.2.2.1.cell 0; have k1 : w2.cell? ⟨w.heap.size, 1, none⟩ = some (.int .i64 0) := HS.out.now.2.2.1.cell 1; have k2 := HS.out.now.2.2.1.frozen 0; have k3 := HS.out.now.2.2.1.frozen 1; have cr0 := cell_alloc2 k0; have cr1 := cell_alloc2 k1; have fr0 := froz_alloc2 k0 k2; have fr1 := froz_alloc2 k1 k3))
    go_quiet (fail)
    go_wp2_with (first | (go_at_call 55; refine (runes_Check.calls _ B d ah fl ee _  (HS.out.step (by repeat (first | exact Below.refl _ _ | apply below_alloc | apply pw_below_drewN | apply below_drew1))).now.2.1 HAD.out HK.out).mono ?_; rintro e w3 ⟨rfl, nc, rfl⟩) | (go_at_call 46; refine (units_Of.calls _ B d ap uu 0 _  (HS.out.step (by repeat (first | exact Below.refl _ _ | apply below_alloc | apply pw_below_drewN | apply below_drew1))).now.1 HPD.out HO.out).mono ?_; rintro e w4 ⟨rfl, no, rfl⟩))
    refine bodyPost_ret (v := .tuple #[.agg #[.int .i64 r, .int .i64 uu], .int .i64 0]) (by simp [results, Try.results39, go_sem, *]) rfl ⟨rfl, ?_⟩
    have hS := HS.out.bel
    repeat (first | exact hS | apply below_alloc | apply pw_below_drewN | apply below_drew1 | refine Below.setCell ?_ (by simp) _)
  · obtain rfl : hi = x.f1 := by rw [hhi, if_neg ha]
    have ha2 : x.f1 < at_ := by omega
    clear hhi
    go_enter Try.func39, Try.ntmps39
    go_upto_region 9 with (first | (go_at_call 63; refine (none_map _ m l (MapAt.map (HS.out.step (by repeat (first | exact Below.refl _ _ | apply below_alloc | apply pw_below_drewN | apply below_drew1))).now.2.2.2 HC.out)).mono ?_; rintro e w' ⟨rfl, rfl⟩) | (go_at_call 31; refine (Find_is a _ 0 l.length at_ r _ (HLE.out ▸ (HS.out.step (by repeat (first | exact Below.refl _ _ | apply below_alloc | apply pw_below_drewN | apply below_drew1))).now.2.2.2.1) HCH.out h0 h1 hln HF.out).mono ?_; rintro e w1 ⟨rfl, hb⟩; have m_ := Aside0.mk (HS.out.call (by repeat (first | exact Below.refl _ _ | apply below_alloc | apply pw_below_drewN | apply below_drew1)) hb); clear HS hb ; have HS := m_; clear m_; have cm : w1.cell? ⟨m, 0, none⟩ = some (.pointer (some ⟨a, 0, none⟩)) := HS.out.now.2.2.2.2.2.cell 0) | (go_at_call 27; refine (Line_ok a L (r : Int) _ (HLE.out ▸ (HS.out.step (by repeat (first | exact Below.refl _ _ | apply below_alloc | apply pw_below_drewN | apply below_drew1))).now.2.2.2.1) (by omega) (by omega) hln).mono ?_; rintro e w2 ⟨rfl, hb⟩; rw [← HX.out]; have m_ := Aside0.mk (HS.out.call (by repeat (first | exact Below.refl _ _ | apply below_alloc | apply pw_below_drewN | apply below_drew1)) hb); clear HS hb ; have HS := m_; clear m_; have cm : w2.cell? ⟨m, 0, none⟩ = some (.pointer (some ⟨a, 0, none⟩)) := HS.out.now.2.2.2.2.2.cell 0; have c1 := cell_alloc2 (HS.out.now.2.2.2.2.2.cell 1); have k0 : w2.cell? ⟨w.heap.size, 0, none⟩ = some (.int .i64 0) := HS.out.now.2.2.1.cell 0; have k1 : w2.cell? ⟨w.heap.size, 1, none⟩ = some (.int .i64 0) := HS.out.now.2.2.1.cell 1; have k2 := HS.out.now.2.2.1.frozen 0; have k3 := HS.out.now.2.2.1.frozen 1; have cr0 := cell_alloc2 k0; have cr1 := cell_alloc2 k1; have fr0 := froz_alloc2 k0 k2; have fr1 := froz_alloc2 k1 k3))
    go_quiet (fail)
    go_wp2_with (first | (go_at_call 55; refine (runes_Check.calls _ B d ah fl ee _  (HS.out.step (by repeat (first | exact Below.refl _ _ | apply below_alloc | apply pw_below_drewN | apply below_drew1))).now.2.1 HAD.out HK.out).mono ?_; rintro e w3 ⟨rfl, nc, rfl⟩) | (go_at_call 46; refine (units_Of.calls _ B d ap uu 0 _  (HS.out.step (by repeat (first | exact Below.refl _ _ | apply below_alloc | apply pw_below_drewN | apply below_drew1))).now.1 HPD.out HO.out).mono ?_; rintro e w4 ⟨rfl, no, rfl⟩))
    refine bodyPost_ret (v := .tuple #[.agg #[.int .i64 r, .int .i64 uu], .int .i64 0]) (by simp [results, Try.results39, go_sem, *]) rfl ⟨rfl, ?_⟩
    have hS := HS.out.bel
    repeat (first | exact hS | apply below_alloc | apply pw_below_drewN | apply below_drew1 | refine Below.setCell ?_ (by simp) _)
end Go.Proofs.Ytogfaahdbecdnaa.B

/-
  place: Pos of what is no byte, End; the answers as functions of the text.
-/
namespace Go.Proofs.Ytogfaahdbecdnaa.B
open Go.RowKit Go.Shelf Go.Proofs Go.Proofs.YtogfaahdbecdnaaW.PrintWords Go.Proofs.YtogfaahdbecdnaaW.PrintLast Go.Proofs.YtogfaahdbecdnaaW.PrintMore Go.Proofs.Ytogfaahdbecdnaa.FBase
set_option linter.unusedVariables false
set_option linter.unusedSimpArgs false

/-- The byte of a place. -/
noncomputable def poff (l : List Int) (line char : Int) : Int := if ((lns l 0 0).length : Int) ≤ line then l.length else (rdLn (lns l 0 0) line).f0 + off (chars (seg l (rdLn (lns l 0 0) line))) char
/-- The line of a byte. -/
noncomputable def fnd (l : List Int) (at_ : Int) : Nat := ((lns_chain0 l).find at_).choose
theorem fnd_is (l : List Int) (at_ : Int) : FindAt (lns l 0 0) at_ (fnd l at_) := ((lns_chain0 l).find at_).choose_spec
theorem fnd_eq {l : List Int} {at_ : Int} {r : Nat} (h : FindAt (lns l 0 0) at_ r) : fnd l at_ = r := (fnd_is l at_).uniq h
/-- The units ahead of a byte in its line. -/
noncomputable def pch (l : List Int) (at_ : Int) : Int := ufl (chars (seg l (rdLn (lns l 0 0) (fnd l at_ : Nat)))) (at_ - (rdLn (lns l 0 0) (fnd l at_ : Nat)).f0)

theorem MOffset_is (m : Nat) (l : List Int) (line char : Int) (w : World) (hM : IsMap w m l) (hs : l.length ≤ 1048576) (hB : Bytes l) (hv : V l) (h0 : 0 ≤ line) (h1 : 0 ≤ char) (h1b : char ≤ 9223372036854775807) :
    Calls Try.prog 37 #[.pointer (some ⟨m, 0, none⟩), .agg #[.int .i64 line, .int .i64 char]] w fun e w' => e = .returned (.tuple #[.int .i64 (poff l line char), .int .i64 0]) ∧ Below w.heap.size w w' := by
  unfold poff
  by_cases h : ((lns l 0 0).length : Int) ≤ line
  · rw [if_pos h]
    exact MOffset_far m l line char w hM hs h0 h1 h
  · rw [if_neg h]
    exact MOffset_in m l line char w hM hs hB hv h0 h1 h1b (by omega)
theorem MPos_is (m : Nat) (l : List Int) (at_ : Int) (w : World) (hM : IsMap w m l) (hs : l.length ≤ 1048576) (hB : Bytes l) (hv : V l) (h0 : 0 ≤ at_) (h1 : at_ ≤ l.length) :
    Calls Try.prog 39 #[.pointer (some ⟨m, 0, none⟩), .int .i64 at_] w fun e w' => e = .returned (.tuple #[.agg #[.int .i64 (fnd l at_), .int .i64 (pch l at_)], .int .i64 0]) ∧ Below w.heap.size w w' :=
  MPos_ok m l at_ (fnd l at_) w hM hs hB hv h0 h1 (fnd_is l at_)

set_option maxRecDepth 100000 in
set_option maxHeartbeats 1000000 in
theorem MPos_out (m : Nat) (l : List Int) (at_ : Int) (w : World) (hM : IsMap w m l) (hs : l.length ≤ 1048576) (h : at_ < 0 ∨ l.length < at_) :
    Calls Try.prog 39 #[.pointer (some ⟨m, 0, none⟩), .int .i64 at_] w fun e w' => e = .returned (.tuple #[.agg #[.int .i64 0, .int .i64 0], .int .i64 9]) ∧ Below w.heap.size w w' := by
  obtain ⟨a, A, c, hc, hA⟩ := hM.open
  have HC := Aside0.mk hc
  have hb1 := below_alloc (Below.refl _ w) (.cells #[.int .i64 0, .int .i64 0] 58)
  have HS : Aside0 (Sta w (w.alloc (.cells #[.int .i64 0, .int .i64 0] 58)) (fun W => IsBlk W w.heap.size (.cells #[.int .i64 0, .int .i64 0] 58) ∧ MapAt W m a A c l)) := ⟨⟨hb1, ⟨blk_new w _, keeps_mapAt m a A c l _ _ hA hb1⟩, keeps_and (keeps_blk _ _) (keeps_mapAt _ _ _ _ _)⟩⟩
  have cm : (w.alloc (.cells #[.int .i64 0, .int .i64 0] 58)).cell? ⟨m, 0, none⟩ = some (.pointer (some ⟨a, 0, none⟩)) := HS.out.now.2.2.2.cell 0
  clear hM hA hb1 hc
  have hch := lns_chain0 l
  have hln : (lns l 0 0).length ≤ 2097152 := by have := hch.length_le; omega
  have HCH := Aside0.mk hch
  have HF := Aside0.mk h
  clear hch h
  · go_enter Try.func39, Try.ntmps39
    go_wp2_with (first | (go_at_call 63; refine (none_map _ m l (MapAt.map (HS.out.step (by repeat (first | exact Below.refl _ _ | apply below_alloc | apply pw_below_drewN | apply below_drew1))).now.2 HC.out)).mono ?_; rintro e w' ⟨rfl, rfl⟩) | (go_at_call 31; refine (Find_no a _ 0 l.length at_ _ (HS.out.step (by repeat (first | exact Below.refl _ _ | apply below_alloc | apply pw_below_drewN | apply below_drew1))).now.2.1 HCH.out HF.out hln).mono ?_; rintro e w1 ⟨rfl, hb⟩; have m_ := Aside0.mk (HS.out.call (by repeat (first | exact Below.refl _ _ | apply below_alloc | apply pw_below_drewN | apply below_drew1)) hb); clear HS hb ; have HS := m_; clear m_; have cm : w1.cell? ⟨m, 0, none⟩ = some (.pointer (some ⟨a, 0, none⟩)) := HS.out.now.2.2.2.cell 0; have k0 : w1.cell? ⟨w.heap.size, 0, none⟩ = some (.int .i64 0) := HS.out.now.1.cell 0; have k1 : w1.cell? ⟨w.heap.size, 1, none⟩ = some (.int .i64 0) := HS.out.now.1.cell 1; have k2 := HS.out.now.1.frozen 0; have k3 := HS.out.now.1.frozen 1))
    refine bodyPost_ret (v := .tuple #[.agg #[.int .i64 0, .int .i64 0], .int .i64 9]) (by simp [results, Try.results39, go_sem, *]) rfl ⟨rfl, ?_⟩
    have hS := HS.out.bel
    repeat (first | exact hS | apply below_alloc | apply pw_below_drewN | apply below_drew1 | refine Below.setCell ?_ (by simp) _)


set_option maxRecDepth 100000 in
set_option maxHeartbeats 1000000 in
theorem MPos_no (p : Option Addr) (at_ : Int) (w : World) (hN : NoMap w p) :
    Calls Try.prog 39 #[.pointer p, .int .i64 at_] w fun e w' => e = .returned (.tuple #[.agg #[.int .i64 0, .int .i64 0], .int .i64 1]) ∧ Below w.heap.size w w' := by
  have HN := Aside0.mk hN
  have HS := Aside0.mk (Sta.start w)
  clear hN
  · go_enter Try.func39, Try.ntmps39
    go_wp2_with (go_at_call 63; refine (none_noMap _ p (HN.out.below (by repeat (first | exact Below.refl _ _ | apply below_alloc | apply pw_below_drewN | apply below_drew1)))).mono ?_; rintro e w' ⟨rfl, rfl⟩)
    refine bodyPost_ret (v := .tuple #[.agg #[.int .i64 0, .int .i64 0], .int .i64 1]) (by simp [results, Try.results39, go_sem, *]) rfl ⟨rfl, ?_⟩
    have hS := HS.out.bel
    repeat (first | exact hS | apply below_alloc | apply pw_below_drewN | apply below_drew1 | refine Below.setCell ?_ (by simp) _)


set_option maxRecDepth 100000 in
set_option maxHeartbeats 1000000 in
theorem MEnd_is (m : Nat) (l : List Int) (w : World) (hM : IsMap w m l) (hs : l.length ≤ 1048576) (hB : Bytes l) (hv : V l) :
    Calls Try.prog 41 #[.pointer (some ⟨m, 0, none⟩)] w fun e w' => e = .returned (.agg #[.int .i64 (fnd l l.length), .int .i64 (pch l l.length)]) ∧ Below w.heap.size w w' := by
  obtain ⟨a, A, c, hc, hA⟩ := hM.open
  have HC := Aside0.mk hc
  have hb1 := below_alloc (Below.refl _ w) (.cells #[.int .i64 0, .int .i64 0] 58)
  have HS : Aside0 (Sta w (w.alloc (.cells #[.int .i64 0, .int .i64 0] 58)) (fun W => IsBlk W w.heap.size (.cells #[.int .i64 0, .int .i64 0] 58) ∧ MapAt W m a A c l)) := ⟨⟨hb1, ⟨blk_new w _, keeps_mapAt m a A c l _ _ hA hb1⟩, keeps_and (keeps_blk _ _) (keeps_mapAt _ _ _ _ _)⟩⟩
  have cm : (w.alloc (.cells #[.int .i64 0, .int .i64 0] 58)).cell? ⟨m, 1, none⟩ = some (.slice A l.length c) := HS.out.now.2.2.2.cell 1
  have HBY := Aside0.mk hB
  have HV := Aside0.mk hv
  clear hM hA hb1 hc hB hv
  · go_enter Try.func41, Try.ntmps41
    go_wp2_with (first | (go_at_call 63; refine (none_map _ m l (MapAt.map (HS.out.step (by repeat (first | exact Below.refl _ _ | apply below_alloc | apply pw_below_drewN | apply below_drew1))).now.2 HC.out)).mono ?_; rintro e w' ⟨rfl, rfl⟩) | (go_at_call 39; refine (MPos_is m l (l.length : Int) _ (MapAt.map (HS.out.step (by repeat (first | exact Below.refl _ _ | apply below_alloc | apply pw_below_drewN | apply below_drew1))).now.2 HC.out) hs HBY.out HV.out (by omega) (Int.le_refl _)).mono ?_; rintro e w1 ⟨rfl, hb⟩; have m_ := Aside0.mk (HS.out.call (by repeat (first | exact Below.refl _ _ | apply below_alloc | apply pw_below_drewN | apply below_drew1)) hb); clear HS hb ; have HS := m_; clear m_; have cm : w1.cell? ⟨m, 0, none⟩ = some (.pointer (some ⟨a, 0, none⟩)) := HS.out.now.2.2.2.cell 0; have k0 : w1.cell? ⟨w.heap.size, 0, none⟩ = some (.int .i64 0) := HS.out.now.1.cell 0; have k1 : w1.cell? ⟨w.heap.size, 1, none⟩ = some (.int .i64 0) := HS.out.now.1.cell 1; have k2 := HS.out.now.1.frozen 0; have k3 := HS.out.now.1.frozen 1; have k0' := cell_alloc1 k0; have k1' := cell_alloc1 k1; have k2' := froz_alloc1 k0 k2; have k3' := froz_alloc1 k1 k3))
    refine bodyPost_ret (v := .agg #[.int .i64 (fnd l l.length), .int .i64 (pch l l.length)]) (by simp [results, Try.results41, go_sem, *]) rfl ⟨rfl, ?_⟩
    have hS := HS.out.bel
    repeat (first | exact hS | apply below_alloc | apply pw_below_drewN | apply below_drew1 | refine Below.setCell ?_ (by simp) _)


set_option maxRecDepth 100000 in
set_option maxHeartbeats 1000000 in
theorem MEnd_no (p : Option Addr) (w : World) (hN : NoMap w p) :
    Calls Try.prog 41 #[.pointer p] w fun e w' => e = .returned (.agg #[.int .i64 0, .int .i64 0]) ∧ Below w.heap.size w w' := by
  have HN := Aside0.mk hN
  have HS := Aside0.mk (Sta.start w)
  clear hN
  · go_enter Try.func41, Try.ntmps41
    go_wp2_with (go_at_call 63; refine (none_noMap _ p (HN.out.below (by repeat (first | exact Below.refl _ _ | apply below_alloc | apply pw_below_drewN | apply below_drew1)))).mono ?_; rintro e w' ⟨rfl, rfl⟩)
    refine bodyPost_ret (v := .agg #[.int .i64 0, .int .i64 0]) (by simp [results, Try.results41, go_sem, *]) rfl ⟨rfl, ?_⟩
    have hS := HS.out.bel
    repeat (first | exact hS | apply below_alloc | apply pw_below_drewN | apply below_drew1 | refine Below.setCell ?_ (by simp) _)

end Go.Proofs.Ytogfaahdbecdnaa.B

namespace Go.Proofs.Ytogfaahdbecdnaa.B
open Go.RowKit Go.Shelf Go.Proofs Go.Proofs.YtogfaahdbecdnaaW.PrintWords Go.Proofs.YtogfaahdbecdnaaW.PrintLast Go.Proofs.YtogfaahdbecdnaaW.PrintMore Go.Proofs.Ytogfaahdbecdnaa.FBase
set_option linter.unusedVariables false
set_option linter.unusedSimpArgs false

set_option maxHeartbeats 1000000 in
theorem pos_ok (line char : Int) (w : World) : Calls Try.prog 45 #[.int .i64 line, .int .i64 char] w fun e w' => e = .returned (.agg #[.int .i64 line, .int .i64 char]) ∧ Below w.heap.size w w' := by
  go_enter Try.func45, Try.ntmps45
  go_wp2
  refine bodyPost_ret (v := .agg #[.int .i64 line, .int .i64 char]) (by simp [results, Try.results45, go_sem]) rfl ⟨rfl, ?_⟩
  repeat (first | exact Below.refl _ _ | apply below_alloc | apply pw_below_drewN | apply below_drew1 | refine Below.setCell ?_ (by simp) _)

set_option maxHeartbeats 1000000 in
/-- at, where it holds. -/
theorem at_ok (m : Nat) (l : List Int) (line char want : Int) (w : World) (hM : IsMap w m l) (hs : l.length ≤ 1048576) (hB : Bytes l) (hv : V l) (h0 : 0 ≤ line) (h1 : 0 ≤ char) (h1b : char ≤ 9223372036854775807) (hw : poff l line char = want) :
    Calls Try.prog 53 #[.pointer (some ⟨m, 0, none⟩), .int .i64 line, .int .i64 char, .int .i64 want] w fun e w' => e = .returned (.bool true) ∧ Below w.heap.size w w' := by
  have HS := Aside0.mk ((Sta.start w).only hM (keeps_map _ _))
  have HBY := Aside0.mk hB
  have HV := Aside0.mk hv
  have HW := Aside0.mk hw
  clear hM hB hv hw
  go_enter Try.func53, Try.ntmps53
  go_wp2_with (first | (go_at_call 45; refine (pos_ok line char _).mono ?_; rintro e w1 ⟨rfl, hb⟩; have m_ := Aside0.mk (HS.out.call (by repeat (first | exact Below.refl _ _ | apply below_alloc | apply pw_below_drewN | apply below_drew1)) hb); clear HS hb ; have HS := m_; clear m_) | (go_at_call 37; refine (MOffset_is m l line char _ (HS.out.step (by repeat (first | exact Below.refl _ _ | apply below_alloc | apply pw_below_drewN | apply below_drew1))).now hs HBY.out HV.out h0 h1 h1b).mono ?_; rintro e w2 ⟨rfl, hb⟩; rw [HW.out]; have m_ := Aside0.mk (HS.out.call (by repeat (first | exact Below.refl _ _ | apply below_alloc | apply pw_below_drewN | apply below_drew1)) hb); clear HS hb ; have HS := m_; clear m_))
  go_ret
  exact ⟨rfl, HS.out.bel⟩

set_option maxRecDepth 100000 in
set_option maxHeartbeats 1000000 in
/-- of, where it holds. -/
theorem of_ok (m : Nat) (l : List Int) (n : Int) (line : Nat) (char : Int) (w : World) (hM : IsMap w m l) (hs : l.length ≤ 1048576) (hB : Bytes l) (hv : V l) (h0 : 0 ≤ n) (h1 : n ≤ l.length) (hw : fnd l n = line ∧ pch l n = char) :
    Calls Try.prog 54 #[.pointer (some ⟨m, 0, none⟩), .int .i64 n, .int .i64 line, .int .i64 char] w fun e w' => e = .returned (.bool true) ∧ Below w.heap.size w w' := by
  have HS := Aside0.mk ((Sta.start w).only hM (keeps_map _ _))
  have HBY := Aside0.mk hB
  have HV := Aside0.mk hv
  have HW := Aside0.mk hw
  clear hM hB hv hw
  go_enter Try.func54, Try.ntmps54
  go_upto_region 2 with (go_at_call 39; refine (MPos_is m l n _ (HS.out.step (by repeat (first | exact Below.refl _ _ | apply below_alloc | apply pw_below_drewN | apply below_drew1))).now hs HBY.out HV.out h0 h1).mono ?_; rintro e w1 ⟨rfl, hb⟩; rw [HW.out.1, HW.out.2]; have m_ := Aside0.mk (HS.out.call (by repeat (first | exact Below.refl _ _ | apply below_alloc | apply pw_below_drewN | apply below_drew1)) hb); clear HS hb ; have HS := m_; clear m_)
  have b0 : (w1.alloc (.cells #[.int .i64 line, .int .i64 char] 58)).cell? ⟨w1.heap.size, 0, none⟩ = some (.int .i64 line) := (blk_cell (blk_new w1 _) 0).trans rfl
  have b1 : (w1.alloc (.cells #[.int .i64 line, .int .i64 char] 58)).cell? ⟨w1.heap.size, 1, none⟩ = some (.int .i64 char) := (blk_cell (blk_new w1 _) 1).trans rfl
  go_region_held3 (fun wx => wx.cell? ⟨w1.heap.size, 0, none⟩ = some (.int .i64 line) ∧ wx.cell? ⟨w1.heap.size, 1, none⟩ = some (.int .i64 char)) (go_keep) (first | (go_at_call 45; refine (pos_ok line char _).mono ?_; rintro e w2 ⟨rfl, hb⟩; obtain ⟨hbc, hbf⟩ := bcell hb; have z0 := hbc w1.heap.size 0; have z1 := hbc w1.heap.size 1; simp at z0 z1; clear hbc hbf; have m_ := Aside0.mk (HS.out.call (by repeat (first | exact Below.refl _ _ | apply below_alloc | apply pw_below_drewN | apply below_drew1)) hb); clear HS hb ; have HS := m_; clear m_))
  go_wp2
  go_ret
  exact ⟨rfl, HS.out.bel⟩

set_option maxHeartbeats 1000000 in
theorem made_ok (k : Nat) (A : Option Addr) (c : Nat) (l : List Int) (r1 : Int) (w : World) (hr : Kd.C (Kd.int .u8) w A l.length l) (hc : l.length ≤ c) (hn : A = none → c = 0) (h : runes_Check.f k l = some (r1, 0)) (hs : l.length ≤ 1048576) :
    Calls Try.prog 43 #[.slice A l.length c] w fun e w' => ∃ m, e = .returned (.pointer (some ⟨m, 0, none⟩)) ∧ IsMap w' m l ∧ Below w.heap.size w w' := by
  have HS := Aside0.mk ((Sta.start w).only hr (keeps_C _ _ _ _))
  have HC := Aside0.mk hc
  have H := Aside0.mk h
  clear hr hc h
  go_enter Try.func43, Try.ntmps43
  go_wp2_with (go_at_call 34; refine (MNew_ok k A c l r1 _ (HS.out.step (by repeat (first | exact Below.refl _ _ | apply below_alloc | apply pw_below_drewN | apply below_drew1))).now HC.out hn H.out hs).mono ?_; rintro e w1 ⟨m, rfl, hM, hb⟩; have HM := Aside0.mk hM; clear hM; have m_ := Aside0.mk (HS.out.call (by repeat (first | exact Below.refl _ _ | apply below_alloc | apply pw_below_drewN | apply below_drew1)) hb); clear HS hb ; have HS := m_; clear m_)
  go_ret
  exact ⟨m, rfl, HM.out, HS.out.bel⟩
set_option maxHeartbeats 1000000 in
theorem made_err (k : Nat) (A : Option Addr) (c : Nat) (l : List Int) (r1 r2 : Int) (w : World) (hr : Kd.C (Kd.int .u8) w A l.length l) (hc : l.length ≤ c) (h : runes_Check.f k l = some (r1, r2)) (hz : r2 ≠ 0) :
    Calls Try.prog 43 #[.slice A l.length c] w fun e w' => e = .returned (.pointer none) ∧ Below w.heap.size w w' := by
  have HS := Aside0.mk ((Sta.start w).only hr (keeps_C _ _ _ _))
  have HC := Aside0.mk hc
  have H := Aside0.mk h
  have hz2 : (r2 != 0) = true := bne_iff_ne.mpr hz
  clear hr hc h
  go_enter Try.func43, Try.ntmps43
  go_wp2_with (go_at_call 34; refine (MNew_err k A c l r1 r2 _ (HS.out.step (by repeat (first | exact Below.refl _ _ | apply below_alloc | apply pw_below_drewN | apply below_drew1))).now HC.out H.out hz).mono ?_; rintro e w1 ⟨rfl, hb⟩; have m_ := Aside0.mk (HS.out.call (by repeat (first | exact Below.refl _ _ | apply below_alloc | apply pw_below_drewN | apply below_drew1)) hb); clear HS hb ; have HS := m_; clear m_)
  go_ret
  exact ⟨rfl, HS.out.bel⟩

/-! The chapter's text. -/
theorem chapter_ok (w : World) : Calls Try.prog 52 #[] w fun e w' => ∃ A, e = .returned (.slice A 9 9) ∧ A ≠ none ∧ Kd.C (Kd.int .u8) w' A 9 [97, 195, 164, 240, 159, 152, 128, 10, 98] ∧ Below w.heap.size w w' := by
  go_enter Try.func52, Try.ntmps52
  go_wp2
  go_ret
  exact ⟨_, rfl, by simp, lit_at _ _ [97, 195, 164, 240, 159, 152, 128, 10, 98] _ _ rfl rfl (by decide), below_alloc (Below.refl _ _) _⟩
/-- A text's characters, reckoned. -/
def csF : Nat → List Int → Option (List (Int × Int))
  | 0, y => if y = [] then some [] else none
  | n + 1, y => if y = [] then some [] else if (dec y).2.2 = 0 then (csF n (y.drop (dec y).2.1.toNat)).map (fun r => ((dec y).2.1, usz (dec y).1) :: r) else none
theorem csF_ok : ∀ (n : Nat) {y : List Int} {r : List (Int × Int)}, csF n y = some r → Cs y r
  | 0, y, r, h => by
    simp only [csF] at h
    split at h
    · rename_i e
      subst e
      cases h
      exact .nil
    · cases h
  | n + 1, y, r, h => by
    simp only [csF] at h
    split at h
    · rename_i e
      subst e
      cases h
      exact .nil
    · split at h
      · rename_i he
        obtain ⟨q, hq, rfl⟩ := Option.map_eq_some_iff.1 h
        exact .step y q he (csF_ok n hq)
      · cases h
def findB (L : List Ln) (at_ : Int) (r : Nat) : Bool := decide (r < L.length) && (List.range r).all (fun t => decide ((rdLn L (t : Nat)).f2 ≤ at_)) && (decide (¬ r + 1 < L.length) || decide (at_ < (rdLn L r).f2))
theorem findB_ok {L : List Ln} {at_ : Int} {r : Nat} (h : findB L at_ r = true) : FindAt L at_ r := by
  simp only [findB, Bool.and_eq_true, Bool.or_eq_true, decide_eq_true_eq, List.all_eq_true, List.mem_range] at h
  refine ⟨h.1.1, h.1.2, fun h2 => ?_⟩
  rcases h.2 with h3 | h3
  · exact absurd h2 h3
  · exact h3
theorem poff_of {l : List Int} {L : List Ln} {line char : Int} (hL : lns l 0 0 = L) : poff l line char = if (L.length : Int) ≤ line then (l.length : Int) else (rdLn L line).f0 + off (chars (seg l (rdLn L line))) char := by unfold poff; rw [hL]
theorem works4_lns : lns [97, 195, 164, 240, 159, 152, 128, 10, 98] 0 0 = [⟨0, 7, 8⟩, ⟨8, 9, 9⟩] := by simp [lns]
theorem works4_chk : runes_Check.f 30 [97, 195, 164, 240, 159, 152, 128, 10, 98] = some (9, 0) := by decide +kernel
theorem works4_B : Bytes [97, 195, 164, 240, 159, 152, 128, 10, 98] := by intro x hx; simp at hx; omega
theorem works4_V : V [97, 195, 164, 240, 159, 152, 128, 10, 98] := (csF_ok 20 (r := [(1, 1), (2, 1), (4, 2), (1, 1), (1, 1)]) (by decide +kernel)).v
theorem works4_cs0 : Cs (seg [97, 195, 164, 240, 159, 152, 128, 10, 98] ⟨0, 7, 8⟩) [(1, 1), (2, 1), (4, 2)] := csF_ok 20 (by decide +kernel)
theorem works4_cs1 : Cs (seg [97, 195, 164, 240, 159, 152, 128, 10, 98] ⟨8, 9, 9⟩) [(1, 1)] := csF_ok 20 (by decide +kernel)
theorem works4_at0 : poff [97, 195, 164, 240, 159, 152, 128, 10, 98] 0 0 = 0 := by rw [poff_of works4_lns]; first | (rw [if_pos (by decide)]; rfl) | (rw [if_neg (by decide), show rdLn [⟨0, 7, 8⟩, ⟨8, 9, 9⟩] 0 = ⟨0, 7, 8⟩ from rfl, chars_is works4_cs0]; rfl)
theorem works4_at1 : poff [97, 195, 164, 240, 159, 152, 128, 10, 98] 0 2 = 3 := by rw [poff_of works4_lns]; first | (rw [if_pos (by decide)]; rfl) | (rw [if_neg (by decide), show rdLn [⟨0, 7, 8⟩, ⟨8, 9, 9⟩] 0 = ⟨0, 7, 8⟩ from rfl, chars_is works4_cs0]; rfl)
theorem works4_at2 : poff [97, 195, 164, 240, 159, 152, 128, 10, 98] 0 3 = 3 := by rw [poff_of works4_lns]; first | (rw [if_pos (by decide)]; rfl) | (rw [if_neg (by decide), show rdLn [⟨0, 7, 8⟩, ⟨8, 9, 9⟩] 0 = ⟨0, 7, 8⟩ from rfl, chars_is works4_cs0]; rfl)
theorem works4_at3 : poff [97, 195, 164, 240, 159, 152, 128, 10, 98] 0 4 = 7 := by rw [poff_of works4_lns]; first | (rw [if_pos (by decide)]; rfl) | (rw [if_neg (by decide), show rdLn [⟨0, 7, 8⟩, ⟨8, 9, 9⟩] 0 = ⟨0, 7, 8⟩ from rfl, chars_is works4_cs0]; rfl)
theorem works4_at4 : poff [97, 195, 164, 240, 159, 152, 128, 10, 98] 0 9 = 7 := by rw [poff_of works4_lns]; first | (rw [if_pos (by decide)]; rfl) | (rw [if_neg (by decide), show rdLn [⟨0, 7, 8⟩, ⟨8, 9, 9⟩] 0 = ⟨0, 7, 8⟩ from rfl, chars_is works4_cs0]; rfl)
theorem works4_at5 : poff [97, 195, 164, 240, 159, 152, 128, 10, 98] 1 1 = 9 := by rw [poff_of works4_lns]; first | (rw [if_pos (by decide)]; rfl) | (rw [if_neg (by decide), show rdLn [⟨0, 7, 8⟩, ⟨8, 9, 9⟩] 1 = ⟨8, 9, 9⟩ from rfl, chars_is works4_cs1]; rfl)
theorem works4_at6 : poff [97, 195, 164, 240, 159, 152, 128, 10, 98] 7 0 = 9 := by rw [poff_of works4_lns]; first | (rw [if_pos (by decide)]; rfl) | (rw [if_neg (by decide), show rdLn [⟨0, 7, 8⟩, ⟨8, 9, 9⟩] 7 = ⟨8, 9, 9⟩ from rfl, chars_is works4_cs0]; rfl)
theorem works4_of0 : fnd [97, 195, 164, 240, 159, 152, 128, 10, 98] 2 = (0 : Nat) ∧ pch [97, 195, 164, 240, 159, 152, 128, 10, 98] 2 = 1 := by
  have h : fnd [97, 195, 164, 240, 159, 152, 128, 10, 98] 2 = 0 := fnd_eq (by rw [works4_lns]; exact findB_ok (by decide))
  refine ⟨h, ?_⟩
  unfold pch
  rw [h, works4_lns, show rdLn [⟨0, 7, 8⟩, ⟨8, 9, 9⟩] ((0 : Nat) : Int) = ⟨0, 7, 8⟩ from rfl, chars_is works4_cs0]
  rfl
theorem works4_of1 : fnd [97, 195, 164, 240, 159, 152, 128, 10, 98] 5 = (0 : Nat) ∧ pch [97, 195, 164, 240, 159, 152, 128, 10, 98] 5 = 2 := by
  have h : fnd [97, 195, 164, 240, 159, 152, 128, 10, 98] 5 = 0 := fnd_eq (by rw [works4_lns]; exact findB_ok (by decide))
  refine ⟨h, ?_⟩
  unfold pch
  rw [h, works4_lns, show rdLn [⟨0, 7, 8⟩, ⟨8, 9, 9⟩] ((0 : Nat) : Int) = ⟨0, 7, 8⟩ from rfl, chars_is works4_cs0]
  rfl
theorem works4_of2 : fnd [97, 195, 164, 240, 159, 152, 128, 10, 98] 7 = (0 : Nat) ∧ pch [97, 195, 164, 240, 159, 152, 128, 10, 98] 7 = 4 := by
  have h : fnd [97, 195, 164, 240, 159, 152, 128, 10, 98] 7 = 0 := fnd_eq (by rw [works4_lns]; exact findB_ok (by decide))
  refine ⟨h, ?_⟩
  unfold pch
  rw [h, works4_lns, show rdLn [⟨0, 7, 8⟩, ⟨8, 9, 9⟩] ((0 : Nat) : Int) = ⟨0, 7, 8⟩ from rfl, chars_is works4_cs0]
  rfl
theorem works4_of3 : fnd [97, 195, 164, 240, 159, 152, 128, 10, 98] 9 = (1 : Nat) ∧ pch [97, 195, 164, 240, 159, 152, 128, 10, 98] 9 = 1 := by
  have h : fnd [97, 195, 164, 240, 159, 152, 128, 10, 98] 9 = 1 := fnd_eq (by rw [works4_lns]; exact findB_ok (by decide))
  refine ⟨h, ?_⟩
  unfold pch
  rw [h, works4_lns, show rdLn [⟨0, 7, 8⟩, ⟨8, 9, 9⟩] ((1 : Nat) : Int) = ⟨8, 9, 9⟩ from rfl, chars_is works4_cs1]
  rfl

set_option maxRecDepth 100000 in
set_option maxHeartbeats 4000000 in
theorem pworks_ok (w : World) : Calls Try.prog 36 #[] w fun e w' => e = .returned (.bool true) ∧ Below w.heap.size w w' := by
  have HS := Aside0.mk (Sta.start w)
  have ta := True.intro
  have tb := True.intro
  have tc := True.intro
  have td := True.intro
  have te := True.intro
  have tf := True.intro
  have tg := True.intro
  have th := True.intro
  have ti := True.intro
  have tj := True.intro
  have tk := True.intro
  go_enter Try.func36, Try.ntmps36
  go_wp2_with (first | (go_at_call 52; refine (chapter_ok _).mono ?_; rintro e w1 ⟨A, rfl, hn, hC, hb⟩; have m_ := Aside0.mk ((HS.out.call (by repeat (first | exact Below.refl _ _ | apply below_alloc | apply pw_below_drewN | apply below_drew1)) hb).add hC (keeps_C _ _ _ _)); clear HS hb hC; have HS := m_; clear m_) | (go_at_call 34; refine (MNew_ok 30 A 9 [97, 195, 164, 240, 159, 152, 128, 10, 98] 9 _ (HS.out.step (by repeat (first | exact Below.refl _ _ | apply below_alloc | apply pw_below_drewN | apply below_drew1))).now.1 (by decide) (fun e => absurd e hn) works4_chk (by decide)).mono ?_; rintro e w2 ⟨m, rfl, hM, hb⟩; have m_ := Aside0.mk ((HS.out.call (by repeat (first | exact Below.refl _ _ | apply below_alloc | apply pw_below_drewN | apply below_drew1)) hb).add hM (keeps_map _ _)); clear HS hb hM; have HS := m_; clear m_) | (have _t := ta; go_at_call 53; refine (at_ok m [97, 195, 164, 240, 159, 152, 128, 10, 98] 0 0 0 _ (HS.out.step (by repeat (first | exact Below.refl _ _ | apply below_alloc | apply pw_below_drewN | apply below_drew1))).now.1 (by decide) works4_B works4_V (by decide) (by decide) (by decide) works4_at0).mono ?_; rintro e w3 ⟨rfl, hb⟩; have m_ := Aside0.mk (HS.out.call (by repeat (first | exact Below.refl _ _ | apply below_alloc | apply pw_below_drewN | apply below_drew1)) hb); clear HS hb ; have HS := m_; clear m_; clear ta _t) | (have _t := tb; go_at_call 53; refine (at_ok m [97, 195, 164, 240, 159, 152, 128, 10, 98] 0 2 3 _ (HS.out.step (by repeat (first | exact Below.refl _ _ | apply below_alloc | apply pw_below_drewN | apply below_drew1))).now.1 (by decide) works4_B works4_V (by decide) (by decide) (by decide) works4_at1).mono ?_; rintro e w3 ⟨rfl, hb⟩; have m_ := Aside0.mk (HS.out.call (by repeat (first | exact Below.refl _ _ | apply below_alloc | apply pw_below_drewN | apply below_drew1)) hb); clear HS hb ; have HS := m_; clear m_; clear tb _t) | (have _t := tc; go_at_call 53; refine (at_ok m [97, 195, 164, 240, 159, 152, 128, 10, 98] 0 3 3 _ (HS.out.step (by repeat (first | exact Below.refl _ _ | apply below_alloc | apply pw_below_drewN | apply below_drew1))).now.1 (by decide) works4_B works4_V (by decide) (by decide) (by decide) works4_at2).mono ?_; rintro e w3 ⟨rfl, hb⟩; have m_ := Aside0.mk (HS.out.call (by repeat (first | exact Below.refl _ _ | apply below_alloc | apply pw_below_drewN | apply below_drew1)) hb); clear HS hb ; have HS := m_; clear m_; clear tc _t) | (have _t := td; go_at_call 53; refine (at_ok m [97, 195, 164, 240, 159, 152, 128, 10, 98] 0 4 7 _ (HS.out.step (by repeat (first | exact Below.refl _ _ | apply below_alloc | apply pw_below_drewN | apply below_drew1))).now.1 (by decide) works4_B works4_V (by decide) (by decide) (by decide) works4_at3).mono ?_; rintro e w3 ⟨rfl, hb⟩; have m_ := Aside0.mk (HS.out.call (by repeat (first | exact Below.refl _ _ | apply below_alloc | apply pw_below_drewN | apply below_drew1)) hb); clear HS hb ; have HS := m_; clear m_; clear td _t) | (have _t := te; go_at_call 53; refine (at_ok m [97, 195, 164, 240, 159, 152, 128, 10, 98] 0 9 7 _ (HS.out.step (by repeat (first | exact Below.refl _ _ | apply below_alloc | apply pw_below_drewN | apply below_drew1))).now.1 (by decide) works4_B works4_V (by decide) (by decide) (by decide) works4_at4).mono ?_; rintro e w3 ⟨rfl, hb⟩; have m_ := Aside0.mk (HS.out.call (by repeat (first | exact Below.refl _ _ | apply below_alloc | apply pw_below_drewN | apply below_drew1)) hb); clear HS hb ; have HS := m_; clear m_; clear te _t) | (have _t := tf; go_at_call 53; refine (at_ok m [97, 195, 164, 240, 159, 152, 128, 10, 98] 1 1 9 _ (HS.out.step (by repeat (first | exact Below.refl _ _ | apply below_alloc | apply pw_below_drewN | apply below_drew1))).now.1 (by decide) works4_B works4_V (by decide) (by decide) (by decide) works4_at5).mono ?_; rintro e w3 ⟨rfl, hb⟩; have m_ := Aside0.mk (HS.out.call (by repeat (first | exact Below.refl _ _ | apply below_alloc | apply pw_below_drewN | apply below_drew1)) hb); clear HS hb ; have HS := m_; clear m_; clear tf _t) | (have _t := tg; go_at_call 53; refine (at_ok m [97, 195, 164, 240, 159, 152, 128, 10, 98] 7 0 9 _ (HS.out.step (by repeat (first | exact Below.refl _ _ | apply below_alloc | apply pw_below_drewN | apply below_drew1))).now.1 (by decide) works4_B works4_V (by decide) (by decide) (by decide) works4_at6).mono ?_; rintro e w3 ⟨rfl, hb⟩; have m_ := Aside0.mk (HS.out.call (by repeat (first | exact Below.refl _ _ | apply below_alloc | apply pw_below_drewN | apply below_drew1)) hb); clear HS hb ; have HS := m_; clear m_; clear tg _t) | (have _t := th; go_at_call 54; refine (of_ok m [97, 195, 164, 240, 159, 152, 128, 10, 98] 2 0 1 _ (HS.out.step (by repeat (first | exact Below.refl _ _ | apply below_alloc | apply pw_below_drewN | apply below_drew1))).now.1 (by decide) works4_B works4_V (by decide) (by decide) works4_of0).mono ?_; rintro e w3 ⟨rfl, hb⟩; have m_ := Aside0.mk (HS.out.call (by repeat (first | exact Below.refl _ _ | apply below_alloc | apply pw_below_drewN | apply below_drew1)) hb); clear HS hb ; have HS := m_; clear m_; clear th _t) | (have _t := ti; go_at_call 54; refine (of_ok m [97, 195, 164, 240, 159, 152, 128, 10, 98] 5 0 2 _ (HS.out.step (by repeat (first | exact Below.refl _ _ | apply below_alloc | apply pw_below_drewN | apply below_drew1))).now.1 (by decide) works4_B works4_V (by decide) (by decide) works4_of1).mono ?_; rintro e w3 ⟨rfl, hb⟩; have m_ := Aside0.mk (HS.out.call (by repeat (first | exact Below.refl _ _ | apply below_alloc | apply pw_below_drewN | apply below_drew1)) hb); clear HS hb ; have HS := m_; clear m_; clear ti _t) | (have _t := tj; go_at_call 54; refine (of_ok m [97, 195, 164, 240, 159, 152, 128, 10, 98] 7 0 4 _ (HS.out.step (by repeat (first | exact Below.refl _ _ | apply below_alloc | apply pw_below_drewN | apply below_drew1))).now.1 (by decide) works4_B works4_V (by decide) (by decide) works4_of2).mono ?_; rintro e w3 ⟨rfl, hb⟩; have m_ := Aside0.mk (HS.out.call (by repeat (first | exact Below.refl _ _ | apply below_alloc | apply pw_below_drewN | apply below_drew1)) hb); clear HS hb ; have HS := m_; clear m_; clear tj _t) | (have _t := tk; go_at_call 54; refine (of_ok m [97, 195, 164, 240, 159, 152, 128, 10, 98] 9 1 1 _ (HS.out.step (by repeat (first | exact Below.refl _ _ | apply below_alloc | apply pw_below_drewN | apply below_drew1))).now.1 (by decide) works4_B works4_V (by decide) (by decide) works4_of3).mono ?_; rintro e w3 ⟨rfl, hb⟩; have m_ := Aside0.mk (HS.out.call (by repeat (first | exact Below.refl _ _ | apply below_alloc | apply pw_below_drewN | apply below_drew1)) hb); clear HS hb ; have HS := m_; clear m_; clear tk _t) | (go_at_call 41; refine (MEnd_is m [97, 195, 164, 240, 159, 152, 128, 10, 98] _ (HS.out.step (by repeat (first | exact Below.refl _ _ | apply below_alloc | apply pw_below_drewN | apply below_drew1))).now.1 (by decide) works4_B works4_V).mono ?_; rintro e w4 ⟨rfl, hb⟩; rw [show (([97, 195, 164, 240, 159, 152, 128, 10, 98] : List Int).length : Int) = 9 from rfl, works4_of3.1, works4_of3.2]; have m_ := Aside0.mk (HS.out.call (by repeat (first | exact Below.refl _ _ | apply below_alloc | apply pw_below_drewN | apply below_drew1)) hb); clear HS hb ; have HS := m_; clear m_) | (go_at_call 45; refine (pos_ok 1 1 _).mono ?_; rintro e w5 ⟨rfl, hb⟩; have m_ := Aside0.mk (HS.out.call (by repeat (first | exact Below.refl _ _ | apply below_alloc | apply pw_below_drewN | apply below_drew1)) hb); clear HS hb ; have HS := m_; clear m_))
  go_ret
  exact ⟨rfl, HS.out.bel⟩
end Go.Proofs.Ytogfaahdbecdnaa.B
