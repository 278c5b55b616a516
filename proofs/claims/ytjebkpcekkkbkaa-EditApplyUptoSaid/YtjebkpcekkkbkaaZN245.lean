/-
  Texts of this session, one behind the other: R0, R1, R2, PC, N5, N6, N7, N8, N9.
-/
import Derived.Test.YtjebkpcekkkbkaaZN244
set_option linter.unusedSimpArgs false
set_option linter.unusedVariables false
namespace Go.Proofs.Ytjebkpcekkkbkaa.B
open Go.RowKit Go.Shelf Go.Proofs Go.Proofs.YtjebkpcekkkbkaaW.PrintWords Go.Proofs.YtjebkpcekkkbkaaW.PrintLast Go.Proofs.YtjebkpcekkkbkaaW.PrintMore Go.Proofs.Ytjebkpcekkkbkaa.FBase
def RMapAt (W : World) (m a : Nat) (A : Option Addr) (c : Nat) (l : List Int) : Prop :=
  IsRef W a (lns l 0 0) ∧ Kd.C (Kd.int .u8) W A l.length l ∧ IsBlk W m (.cells #[.slice A l.length c, .pointer (some ⟨a, 0, none⟩)] 142)
def IsRMap (W : World) (m : Nat) (l : List Int) : Prop := ∃ a A c, l.length ≤ c ∧ RMapAt W m a A c l
theorem keeps_rmapAt (m a : Nat) (A : Option Addr) (c : Nat) (l : List Int) : Keeps (fun W => RMapAt W m a A c l) := keeps_and (keeps_ref _ _) (keeps_and (keeps_C _ _ _ _) (keeps_blk _ _))
theorem keeps_rmap (m : Nat) (l : List Int) : Keeps (fun W => IsRMap W m l) := fun W1 W2 h hb => by
  obtain ⟨a, A, c, hc, h⟩ := h
  exact ⟨a, A, c, hc, keeps_rmapAt m a A c l W1 W2 h hb⟩
set_option maxHeartbeats 1000000 in
theorem RMNew_ok (k : Nat) (A : Option Addr) (c : Nat) (l : List Int) (r1 : Int) (w : World) (hr : Kd.C (Kd.int .u8) w A l.length l) (hc : l.length ≤ c) (h : colophonref01_Check.f k l = some (r1, 0)) (hs : l.length ≤ 1048576) :
    Calls Try.prog 54 #[.slice A l.length c] w fun e w' => ∃ m, e = .returned (.tuple #[.pointer (some ⟨m, 0, none⟩), .int .i64 0]) ∧ IsRMap w' m l ∧ Below w.heap.size w w' := by
  have HS := Aside0.mk ((Sta.start w).only hr (keeps_C _ _ _ _))
  have HC := Aside0.mk hc
  have H := Aside0.mk h
  clear hr hc h
  go_enter Try.func54, Try.ntmps54
  go_wp2_with (first | (go_at_call 81; refine (RNew_all k A c l r1 _ (HS.out.step (by repeat (first | exact Below.refl _ _ | apply below_alloc | apply pw_below_drewN | apply below_drew1))).now HC.out H.out hs).mono ?_; rintro e w1 ⟨a, rfl, hle, hI, hb⟩; have hI := hI.now; clear hle; have m_ := Aside0.mk ((HS.out.call (by repeat (first | exact Below.refl _ _ | apply below_alloc | apply pw_below_drewN | apply below_drew1)) hb).add hI (keeps_ref _ _)); clear HS hb hI; have HS := m_; clear m_) | (go_at_call 17; refine (Copy_ok A c l _ (HS.out.step (by repeat (first | exact Below.refl _ _ | apply below_alloc | apply pw_below_drewN | apply below_drew1))).now.2 HC.out hs).mono ?_; rintro e w2 ⟨v, rfl, hR, hb⟩; obtain ⟨A2, c2, rfl⟩ := Kd.R_slice hR; obtain ⟨-, hcap, hC⟩ := Kd.R_reads' hR; have HCP := Aside0.mk hcap; clear hcap hR; have m_ := Aside0.mk ((HS.out.call (by repeat (first | exact Below.refl _ _ | apply below_alloc | apply pw_below_drewN | apply below_drew1)) hb).add hC (keeps_C _ _ _ _)); clear HS hb hC; have HS := m_; clear m_))
  go_ret2
  have hS := HS.out.step (below_alloc (Below.refl _ w2) (.cells #[.slice A2 l.length c2, .pointer (some ⟨a, 0, none⟩)] 142))
  exact ⟨_, rfl, ⟨a, A2, c2, HCP.out, hS.now.2.1, hS.now.1, blk_new w2 _⟩, hS.bel⟩
set_option maxRecDepth 100000 in
set_option maxHeartbeats 1000000 in
theorem ROff_neg (p : Option Addr) (line char : Int) (w : World) (h : line < 0 ∨ char < 0) :
    Calls Try.prog 84 #[.pointer p, .agg #[.int .i64 line, .int .i64 char]] w fun e w' => e = .returned (.tuple #[.int .i64 0, .int .i64 9]) ∧ Below w.heap.size w w' := by
  have hb1 := below_alloc (Below.refl _ w) (.cells #[.int .i64 line, .int .i64 char] 25)
  have HS : Aside0 (Sta w (w.alloc (.cells #[.int .i64 line, .int .i64 char] 25)) (fun W => IsBlk W w.heap.size (.cells #[.int .i64 line, .int .i64 char] 25))) := ⟨⟨hb1, blk_new w _, keeps_blk _ _⟩⟩
  have cb : (w.alloc (.cells #[.int .i64 line, .int .i64 char] 25)).cell? ⟨w.heap.size, 0, none⟩ = some (.int .i64 line) := HS.out.now.cell 0
  have cc : (w.alloc (.cells #[.int .i64 line, .int .i64 char] 25)).cell? ⟨w.heap.size, 1, none⟩ = some (.int .i64 char) := HS.out.now.cell 1
  clear hb1
  by_cases hl : line < 0
  all_goals
    have hch : ¬ line < 0 → decide (char < 0) = true := fun h => decide_eq_true (by omega)
    go_enter Try.func84, Try.ntmps84
    go_wp2
    go_ret2
    exact ⟨rfl, HS.out.bel⟩
set_option maxRecDepth 100000 in
set_option maxHeartbeats 1000000 in
theorem ROff_far (m : Nat) (l : List Int) (line char : Int) (w : World) (hM : IsRMap w m l) (h0 : 0 ≤ line) (h1 : 0 ≤ char) (h : (lns l 0 0).length ≤ line) :
    Calls Try.prog 84 #[.pointer (some ⟨m, 0, none⟩), .agg #[.int .i64 line, .int .i64 char]] w fun e w' => e = .returned (.tuple #[.int .i64 l.length, .int .i64 0]) ∧ Below w.heap.size w w' := by
  obtain ⟨a, A, c, hc, hA⟩ := hM
  have HC := Aside0.mk hc
  have hb1 := below_alloc (Below.refl _ w) (.cells #[.int .i64 line, .int .i64 char] 25)
  have HS : Aside0 (Sta w (w.alloc (.cells #[.int .i64 line, .int .i64 char] 25)) (fun W => IsBlk W w.heap.size (.cells #[.int .i64 line, .int .i64 char] 25) ∧ RMapAt W m a A c l)) := ⟨⟨hb1, ⟨blk_new w _, keeps_rmapAt m a A c l _ _ hA hb1⟩, keeps_and (keeps_blk _ _) (keeps_rmapAt _ _ _ _ _)⟩⟩
  have cb : (w.alloc (.cells #[.int .i64 line, .int .i64 char] 25)).cell? ⟨w.heap.size, 0, none⟩ = some (.int .i64 line) := HS.out.now.1.cell 0
  have cc : (w.alloc (.cells #[.int .i64 line, .int .i64 char] 25)).cell? ⟨w.heap.size, 1, none⟩ = some (.int .i64 char) := HS.out.now.1.cell 1
  have cm : (w.alloc (.cells #[.int .i64 line, .int .i64 char] 25)).cell? ⟨m, 1, none⟩ = some (.pointer (some ⟨a, 0, none⟩)) := HS.out.now.2.2.2.cell 1
  have cl : (w.alloc (.cells #[.int .i64 line, .int .i64 char] 25)).cell? ⟨m, 0, none⟩ = some (.slice A l.length c) := HS.out.now.2.2.2.cell 0
  clear hA hb1 hc
  obtain ⟨L, hL⟩ : ∃ L, L = lns l 0 0 := ⟨_, rfl⟩
  have HLE := Aside0.mk hL
  rw [← hL] at h
  clear hL
  have d0 : decide (line < 0) = false := decide_eq_false (by omega)
  have d1 : decide (char < 0) = false := decide_eq_false (by omega)
  have d2 : decide ((L.length : Int) ≤ line) = true := decide_eq_true h
  go_enter Try.func84, Try.ntmps84
  go_upto_region 3 with fail
  go_region_held3 (fun wx => wx.cell? ⟨w.heap.size, 0, none⟩ = some (.int .i64 line) ∧ wx.cell? ⟨m, 1, none⟩ = some (.pointer (some ⟨a, 0, none⟩))) (go_keep) (first | (go_at_call 109; refine (RCount_ok a L _ (HLE.out ▸ (HS.out.step (by repeat (first | exact Below.refl _ _ | apply below_alloc | apply pw_below_drewN | apply below_drew1))).now.2.1)).mono ?_; rintro e w' ⟨rfl, rfl⟩))
  go_wp2
  go_ret2
  exact ⟨rfl, (HS.out.step (by repeat (first | exact Below.refl _ _ | apply below_alloc | apply pw_below_drewN | apply below_drew1))).bel⟩
set_option maxRecDepth 100000 in
set_option maxHeartbeats 1000000 in
theorem ROff_in (m : Nat) (l : List Int) (line char : Int) (w : World) (hM : IsRMap w m l) (hs : l.length ≤ 1048576) (hB : Bytes l) (hv : V l) (h0 : 0 ≤ line) (h1 : 0 ≤ char) (h1b : char ≤ 9223372036854775807) (hlt : line < (lns l 0 0).length) :
    Calls Try.prog 84 #[.pointer (some ⟨m, 0, none⟩), .agg #[.int .i64 line, .int .i64 char]] w fun e w' => e = .returned (.tuple #[.int .i64 ((rdLn (lns l 0 0) line).f0 + off (chars (seg l (rdLn (lns l 0 0) line))) char), .int .i64 0]) ∧ Below w.heap.size w w' := by
  obtain ⟨a, A, c, hc, hA⟩ := hM
  have HC := Aside0.mk hc
  have hb1 := below_alloc (Below.refl _ w) (.cells #[.int .i64 line, .int .i64 char] 25)
  have HS : Aside0 (Sta w (w.alloc (.cells #[.int .i64 line, .int .i64 char] 25)) (fun W => IsBlk W w.heap.size (.cells #[.int .i64 line, .int .i64 char] 25) ∧ RMapAt W m a A c l)) := ⟨⟨hb1, ⟨blk_new w _, keeps_rmapAt m a A c l _ _ hA hb1⟩, keeps_and (keeps_blk _ _) (keeps_rmapAt _ _ _ _ _)⟩⟩
  have cb : (w.alloc (.cells #[.int .i64 line, .int .i64 char] 25)).cell? ⟨w.heap.size, 0, none⟩ = some (.int .i64 line) := HS.out.now.1.cell 0
  have cc : (w.alloc (.cells #[.int .i64 line, .int .i64 char] 25)).cell? ⟨w.heap.size, 1, none⟩ = some (.int .i64 char) := HS.out.now.1.cell 1
  have cm : (w.alloc (.cells #[.int .i64 line, .int .i64 char] 25)).cell? ⟨m, 1, none⟩ = some (.pointer (some ⟨a, 0, none⟩)) := HS.out.now.2.2.2.cell 1
  clear hA hb1 hc
  have hch := lns_chain0 l
  have hln : (lns l 0 0).length ≤ 2097152 := by have := hch.length_le; omega
  have hpos := hch.pos
  have hat := hch.at line.toNat (by omega)
  rw [show ((line.toNat : Nat) : Int) = line by omega] at hat
  have hsv := line_V hB hv line.toNat (by omega)
  rw [show ((line.toNat : Nat) : Int) = line by omega] at hsv
  have hcs : Cs (seg l (rdLn (lns l 0 0) line)) (chars (seg l (rdLn (lns l 0 0) line))) := V.chars hsv
  have hsl : (seg l (rdLn (lns l 0 0) line)).length ≤ 1048576 := by unfold seg; rw [List.length_drop, List.length_take]; omega
  have hbs : Bytes (seg l (rdLn (lns l 0 0) line)) := fun y hy => hB y (List.mem_of_mem_take (List.mem_of_mem_drop hy))
  have hsgl : ((seg l (rdLn (lns l 0 0) line)).length : Int) = (rdLn (lns l 0 0) line).f1 - (rdLn (lns l 0 0) line).f0 := by unfold seg; rw [List.length_drop, List.length_take]; omega
  obtain ⟨g, hsz⟩ := hcs.good hbs
  have hor := off_range char g
  have x0 : 0 ≤ (rdLn (lns l 0 0) line).f0 := hat.1
  have x1 : (rdLn (lns l 0 0) line).f0 ≤ (rdLn (lns l 0 0) line).f1 := hat.2.1
  have x2 : (rdLn (lns l 0 0) line).f1 ≤ l.length := by have := hat.2.2.1; have := hat.2.2.2.1; omega
  rw [hsz, hsgl] at hor
  have hseg : seg l (rdLn (lns l 0 0) line) = (l.take (rdLn (lns l 0 0) line).f1.toNat).drop (rdLn (lns l 0 0) line).f0.toNat := rfl
  have HSEG := Aside0.mk hseg
  clear hat hsv hch hseg hsgl hsz g
  generalize chars (seg l (rdLn (lns l 0 0) line)) = r at *
  generalize seg l (rdLn (lns l 0 0) line) = sg at *
  obtain ⟨L, hL⟩ : ∃ L, L = lns l 0 0 := ⟨_, rfl⟩
  have HLE := Aside0.mk hL
  rw [← hL] at hln hpos hlt hor x0 x1 x2 HSEG ⊢
  clear hL
  have HRO := Aside0.mk (ROffset_f char h1 hbs hsl hcs (Nat.lt_succ_self _))
  have HCS := Aside0.mk hcs
  have HBS := Aside0.mk hbs
  clear hcs hbs
  have d0 : decide (line < 0) = false := decide_eq_false (by omega)
  have d1 : decide (char < 0) = false := decide_eq_false (by omega)
  have d2 : decide ((L.length : Int) ≤ line) = false := decide_eq_false (by omega)
  obtain ⟨x, hx⟩ : ∃ x, x = rdLn L line := ⟨_, rfl⟩
  have HX := Aside0.mk hx
  rw [← hx] at hor x0 x1 x2 HSEG ⊢
  clear hx
  go_enter Try.func84, Try.ntmps84
  go_upto_region 3 with fail
  go_cut [26] from 11 (fun s26 W => s26 = .bool false ∧ Aside0 (Sta w W (fun W => IsBlk W w.heap.size (.cells #[.int .i64 line, .int .i64 char] 25) ∧ RMapAt W m a A c l)))
  case first =>
    go_region_held3 (fun wx => wx.cell? ⟨w.heap.size, 0, none⟩ = some (.int .i64 line) ∧ wx.cell? ⟨m, 1, none⟩ = some (.pointer (some ⟨a, 0, none⟩))) (go_keep) (first | (go_at_call 109; refine (RCount_ok a L _ (HLE.out ▸ (HS.out.step (by repeat (first | exact Below.refl _ _ | apply below_alloc | apply pw_below_drewN | apply below_drew1))).now.2.1)).mono ?_; rintro e w' ⟨rfl, rfl⟩))
    go_wp2
    go_meet
    exact ⟨rfl, ⟨HS.out.step (by repeat (first | exact Below.refl _ _ | apply below_alloc | apply pw_below_drewN | apply below_drew1))⟩⟩
  case rest =>
  clear HS cb cc cm
  obtain ⟨rfl, HS⟩ := hcut
  obtain ⟨w5, hw5⟩ : ∃ w5 : World, w5 = wc := ⟨wc, rfl⟩
  subst hw5
  have cb : w5.cell? ⟨w.heap.size, 0, none⟩ = some (.int .i64 line) := HS.out.now.1.cell 0
  have cm : w5.cell? ⟨m, 1, none⟩ = some (.pointer (some ⟨a, 0, none⟩)) := HS.out.now.2.2.2.cell 1
  go_upto_region 5 with fail
  go_cut [6, 7, 8] from 11 (fun s6 s7 s8 W => ∃ b7, s7 = .pointer (some ⟨b7, 0, none⟩) ∧ s8 = .int .i64 0 ∧ Aside0 (Sta w W (fun W => SpBox W b7 x ∧ IsBlk W w.heap.size (.cells #[.int .i64 line, .int .i64 char] 25) ∧ RMapAt W m a A c l)))
  case first =>
    have n1 := blk_lt HS.out.now.1
    have n2 := blk_lt HS.out.now.2.2.2
    have HS5 := HS
    have e1 : ¬ (w5.heap.size = w.heap.size) := by omega
    have e2 : ¬ (w.heap.size = w5.heap.size) := by omega
    have e3 : ¬ (w5.heap.size = m) := by omega
    have e4 : ¬ (m = w5.heap.size) := by omega
    have e5 : ¬ (w5.heap.size + 1 = w.heap.size) := by omega
    have e6 : ¬ (w.heap.size = w5.heap.size + 1) := by omega
    have e7 : ¬ (w5.heap.size + 1 = m) := by omega
    have e8 : ¬ (m = w5.heap.size + 1) := by omega
    go_region_held3 (fun wx => wx.cell? ⟨w.heap.size, 0, none⟩ = some (.int .i64 line) ∧ wx.cell? ⟨m, 1, none⟩ = some (.pointer (some ⟨a, 0, none⟩))) (go_keep) (first | (go_at_call 107; refine (RLine_ok a L line _ (HLE.out ▸ (HS.out.step (by repeat (first | exact Below.refl _ _ | apply below_alloc | apply pw_below_drewN | apply below_drew1))).now.2.1) h0 hlt hln).mono ?_; rintro e w6 ⟨rfl, hb⟩; rw [← HX.out]; obtain ⟨hbc, hbf⟩ := bcell hb; have z0 := hbc w5.heap.size 0; have z1 := hbc w5.heap.size 1; have y0 := hbf w5.heap.size 0; have y1 := hbf w5.heap.size 1; have z2 := hbc (w5.heap.size + 1) 0; have z3 := hbc (w5.heap.size + 1) 1; have y2 := hbf (w5.heap.size + 1) 0; have y3 := hbf (w5.heap.size + 1) 1; simp at z0 z1 y0 y1 z2 z3 y2 y3; (try (have za0 := cell_alloc1 z0; have za1 := cell_alloc1 z1; have ya0 := froz_alloc1 z0 y0; have ya1 := froz_alloc1 z1 y1; have q0 := Nat.ne_of_lt (World.block_lt_of_cell? _ _ z0); have q1 := Ne.symm q0)); clear hbc hbf; have HBC := Aside0.mk hb; have HBZ := Aside0.mk hb.size; have m_ := Aside0.mk (HS.out.call (by repeat (first | exact Below.refl _ _ | apply below_alloc | apply pw_below_drewN | apply below_drew1)) hb); clear HS hb ; have HS := m_; clear m_; have cb : w6.cell? ⟨w.heap.size, 0, none⟩ = some (.int .i64 line) := HS.out.now.1.cell 0; have cm : w6.cell? ⟨m, 1, none⟩ = some (.pointer (some ⟨a, 0, none⟩)) := HS.out.now.2.2.2.cell 1; have cb1 := cell_alloc1 cb; have cb2 := cell_alloc2 cb; have cm1 := cell_alloc1 cm; have cm2 := cell_alloc2 cm; have qb := World.block_lt_of_cell? _ _ cb; have qm := World.block_lt_of_cell? _ _ cm; have qb1 := Nat.ne_of_lt qb; have qb2 := Ne.symm qb1; have qb3 := Nat.ne_of_lt (Nat.lt_succ_of_lt qb); have qb4 := Ne.symm qb3; have qm1 := Nat.ne_of_lt qm; have qm2 := Ne.symm qm1; have qm3 := Nat.ne_of_lt (Nat.lt_succ_of_lt qm); have qm4 := Ne.symm qm3))
    all_goals
      have hbz := HBZ.out
      simp at hbz
      clear HBZ HS
      go_wp2
      go_meet
      refine ⟨_, rfl, rfl, ⟨(HS5.out.step ?_).add ⟨?_, ?_⟩ (keeps_sp _ _)⟩⟩
      · repeat' (first | exact below_step (by repeat (first | exact Below.refl _ _ | apply below_alloc | apply pw_below_drewN | apply below_drew1)) HBC.out | apply below_alloc | apply below_drew1 | apply Below.setCell | (simp; done) | (simp; omega))
      · first | (go_simp; done) | (simp [*]; done) | exact (sp_two ((World.cell?_setCell_other _ _ _ _ (by simp)).trans ((World.cell?_setCell_other _ _ _ _ (by simp)).trans (z0 (Nat.lt_succ_of_lt (Nat.lt_succ_self _))))) ((World.cell?_setCell_other _ _ _ _ (by simp)).trans ((World.cell?_setCell_other _ _ _ _ (by simp)).trans (z1 (Nat.lt_succ_of_lt (Nat.lt_succ_self _)))))).1
      · first | (go_simp; done) | (simp [*]; done) | exact (sp_two ((World.cell?_setCell_other _ _ _ _ (by simp)).trans ((World.cell?_setCell_other _ _ _ _ (by simp)).trans (z0 (Nat.lt_succ_of_lt (Nat.lt_succ_self _))))) ((World.cell?_setCell_other _ _ _ _ (by simp)).trans ((World.cell?_setCell_other _ _ _ _ (by simp)).trans (z1 (Nat.lt_succ_of_lt (Nat.lt_succ_self _)))))).2
  case rest =>
    clear cb cm HS
    obtain ⟨b7, rfl, rfl, HS⟩ := hcut
    have cb : wc.cell? ⟨w.heap.size, 1, none⟩ = some (.int .i64 char) := HS.out.now.2.1.cell 1
    have cm : wc.cell? ⟨m, 0, none⟩ = some (.slice A l.length c) := HS.out.now.2.2.2.2.cell 0
    have s0 : wc.cell? ⟨b7, 0, none⟩ = some (.int .i64 x.f0) := HS.out.now.1.1
    have s1 : wc.cell? ⟨b7, 1, none⟩ = some (.int .i64 x.f1) := HS.out.now.1.2
    obtain ⟨B, d, hcut, hsg, hsd⟩ := cut_seg _ A c l x.f0 x.f1 HS.out.now.2.2.2.1 HC.out x0 x1 x2
    rw [← HSEG.out] at hcut hsg hsd
    have HSG := Aside0.mk hsg
    have HSD := Aside0.mk hsd
    clear hsg hsd
    have wr : wrap64 (x.f0 + off r char) = x.f0 + off r char := by unfold wrap64; omega
    go_upto_region 6 with fail
    go_cut [9, 10] from 11 (fun s9 s10 W => s9 = .int .i64 (off r char) ∧ s10 = .int .i64 0 ∧ Aside0 (Sta w W (fun W => SpBox W b7 x ∧ IsBlk W w.heap.size (.cells #[.int .i64 line, .int .i64 char] 25) ∧ RMapAt W m a A c l)))
    case first =>
      go_region_held3 (fun wx => wx.cell? ⟨w.heap.size, 1, none⟩ = some (.int .i64 char) ∧ wx.cell? ⟨m, 0, none⟩ = some (.slice A l.length c) ∧ wx.cell? ⟨b7, 0, none⟩ = some (.int .i64 x.f0) ∧ wx.cell? ⟨b7, 1, none⟩ = some (.int .i64 x.f1)) (go_keep) (first | (go_at_call 110; refine (colophonref02_Offset.calls _ B d sg char _ _ _ (Kd.C_below HSG.out (by repeat (first | exact Below.refl _ _ | apply below_alloc | apply pw_below_drewN | apply below_drew1))) HSD.out HRO.out).mono ?_; rintro e w8 ⟨rfl, hb⟩; have m_ := Aside0.mk (HS.out.call (by repeat (first | exact Below.refl _ _ | apply below_alloc | apply pw_below_drewN | apply below_drew1)) hb); clear HS hb ; have HS := m_; clear m_; have cb : w8.cell? ⟨w.heap.size, 1, none⟩ = some (.int .i64 char) := HS.out.now.2.1.cell 1; have cm : w8.cell? ⟨m, 0, none⟩ = some (.slice A l.length c) := HS.out.now.2.2.2.2.cell 0; have s0 : w8.cell? ⟨b7, 0, none⟩ = some (.int .i64 x.f0) := HS.out.now.1.1; have s1 : w8.cell? ⟨b7, 1, none⟩ = some (.int .i64 x.f1) := HS.out.now.1.2))
      go_wp2
      go_meet
      exact ⟨rfl, rfl, HS⟩
    case rest =>
      clear cb cm s0 s1 HS
      obtain ⟨rfl, rfl, HS⟩ := hcut
      have s0 : wc.cell? ⟨b7, 0, none⟩ = some (.int .i64 x.f0) := HS.out.now.1.1
      go_wp2
      go_ret2
      exact ⟨rfl, HS.out.bel⟩
theorem ROff_is (m : Nat) (l : List Int) (line char : Int) (w : World) (hM : IsRMap w m l) (hs : l.length ≤ 1048576) (hB : Bytes l) (hv : V l) (h0 : 0 ≤ line) (h1 : 0 ≤ char) (h1b : char ≤ 9223372036854775807) :
    Calls Try.prog 84 #[.pointer (some ⟨m, 0, none⟩), .agg #[.int .i64 line, .int .i64 char]] w fun e w' => e = .returned (.tuple #[.int .i64 (poff l line char), .int .i64 0]) ∧ Below w.heap.size w w' := by
  unfold poff
  by_cases h : ((lns l 0 0).length : Int) ≤ line
  · rw [if_pos h]
    exact ROff_far m l line char w hM h0 h1 h
  · rw [if_neg h]
    exact ROff_in m l line char w hM hs hB hv h0 h1 h1b (by omega)
theorem un_le : ∀ {r : List (Int × Int)}, Good r → un r ≤ 2 * sz r
  | [], _ => by simp [un, sz]
  | x :: r, h => by have := h.head; have := un_le h.tail; simp only [un, sz]; omega
theorem pch_range (l : List Int) (hB : Bytes l) (hv : V l) (n : Int) : 0 ≤ pch l n ∧ pch l n ≤ 2 * l.length := by
  have h := (fnd_is l n).1
  obtain ⟨a, b, c, _, g, hsz⟩ := line_is l hB hv _ h
  have h1 := ufl_range (n - (rdLn (lns l 0 0) (fnd l n : Nat)).f0) g
  have h2 := un_le g
  unfold pch
  omega
theorem IsRMap.below {W W1 : World} {m : Nat} {l : List Int} (h : IsRMap W m l) (hb : Below W.heap.size W W1) : IsRMap W1 m l := keeps_rmap m l W W1 h hb
noncomputable def msp (l : List Int) (x0 x1 x2 x3 : Int) : Int × Int × Int :=
  if x0 < 0 ∨ x1 < 0 then (0, 0, 9) else if x2 < 0 ∨ x3 < 0 then (0, 0, 9) else if poff l x2 x3 < poff l x0 x1 then (0, 0, 2) else (poff l x0 x1, poff l x2 x3, 0)
theorem esp_msp (l : List Int) (x0 x1 x2 x3 : Int) : ((msp l x0 x1 x2 x3).2.2 = 2 → esp l false x0 x1 x2 x3 = (0, 0, 150)) ∧ ((msp l x0 x1 x2 x3).2.2 ≠ 2 → esp l false x0 x1 x2 x3 = msp l x0 x1 x2 x3) ∧ ((msp l x0 x1 x2 x3).2.2 ≠ 0 → (msp l x0 x1 x2 x3).1 = 0 ∧ (msp l x0 x1 x2 x3).2.1 = 0) := by
  unfold msp esp
  by_cases c1 : x0 < 0 ∨ x1 < 0
  · simp [c1]
  · by_cases c2 : x2 < 0 ∨ x3 < 0
    · simp [c1, c2]
    · by_cases c3 : poff l x2 x3 < poff l x0 x1 <;> simp [c1, c2, c3]
noncomputable def isPb (l : List Int) (n : Int) : Bool := poff l (fnd l n) (pch l n) == n
theorem isPb_iff (l : List Int) (n : Int) : isPb l n = true ↔ IsP l n := by
  unfold isPb IsP
  exact beq_iff_eq
theorem MSpan_is (m : Nat) (l : List Int) (x0 x1 x2 x3 : Int) (w : World) (hM : IsMap w m l) (hs : l.length ≤ 1048576) (hB : Bytes l) (hv : V l) (h1 : x1 ≤ 9223372036854775807) (h3 : x3 ≤ 9223372036854775807) :
    Calls Try.prog 26 #[.pointer (some ⟨m, 0, none⟩), .agg #[.int .i64 x0, .int .i64 x1, .int .i64 x2, .int .i64 x3]] w fun e w' => e = .returned (.tuple #[.agg #[.int .i64 (msp l x0 x1 x2 x3).1, .int .i64 (msp l x0 x1 x2 x3).2.1], .int .i64 (msp l x0 x1 x2 x3).2.2]) ∧ Below w.heap.size w w' := by
  unfold msp
  by_cases c1 : x0 < 0 ∨ x1 < 0
  · rw [if_pos c1]
    exact MSpan_e1 _ x0 x1 x2 x3 0 9 w (fun W hW => MOffset_neg m l x0 x1 W (IsMap.below hM hW) c1) (by decide)
  · rw [if_neg c1]
    by_cases c2 : x2 < 0 ∨ x3 < 0
    · rw [if_pos c2]
      exact MSpan_e2 _ x0 x1 x2 x3 _ 0 9 w (fun W hW => MOffset_is m l x0 x1 W (IsMap.below hM hW) hs hB hv (by omega) (by omega) h1) (fun W hW => MOffset_neg m l x2 x3 W (IsMap.below hM hW) c2) (by decide)
    · rw [if_neg c2]
      by_cases c3 : poff l x2 x3 < poff l x0 x1
      · rw [if_pos c3]
        exact MSpan_rev _ x0 x1 x2 x3 _ _ w (fun W hW => MOffset_is m l x0 x1 W (IsMap.below hM hW) hs hB hv (by omega) (by omega) h1) (fun W hW => MOffset_is m l x2 x3 W (IsMap.below hM hW) hs hB hv (by omega) (by omega) h3) c3
      · rw [if_neg c3]
        exact MSpan_ok _ x0 x1 x2 x3 _ _ w (fun W hW => MOffset_is m l x0 x1 W (IsMap.below hM hW) hs hB hv (by omega) (by omega) h1) (fun W hW => MOffset_is m l x2 x3 W (IsMap.below hM hW) hs hB hv (by omega) (by omega) h3) (Int.not_lt.1 c3)
theorem RSpan_is (m : Nat) (l : List Int) (x0 x1 x2 x3 : Int) (w : World) (hM : IsRMap w m l) (hs : l.length ≤ 1048576) (hB : Bytes l) (hv : V l) (h1 : x1 ≤ 9223372036854775807) (h3 : x3 ≤ 9223372036854775807) :
    Calls Try.prog 115 #[.pointer (some ⟨m, 0, none⟩), .agg #[.int .i64 x0, .int .i64 x1, .int .i64 x2, .int .i64 x3]] w fun e w' => e = .returned (.tuple #[.agg #[.int .i64 (msp l x0 x1 x2 x3).1, .int .i64 (msp l x0 x1 x2 x3).2.1], .int .i64 (msp l x0 x1 x2 x3).2.2]) ∧ Below w.heap.size w w' := by
  unfold msp
  by_cases c1 : x0 < 0 ∨ x1 < 0
  · rw [if_pos c1]
    exact RSpan_e1 _ x0 x1 x2 x3 0 9 w (fun W hW => ROff_neg _ x0 x1 W c1) (by decide)
  · rw [if_neg c1]
    by_cases c2 : x2 < 0 ∨ x3 < 0
    · rw [if_pos c2]
      exact RSpan_e2 _ x0 x1 x2 x3 _ 0 9 w (fun W hW => ROff_is m l x0 x1 W (IsRMap.below hM hW) hs hB hv (by omega) (by omega) h1) (fun W hW => ROff_neg _ x2 x3 W c2) (by decide)
    · rw [if_neg c2]
      by_cases c3 : poff l x2 x3 < poff l x0 x1
      · rw [if_pos c3]
        exact RSpan_rev _ x0 x1 x2 x3 _ _ w (fun W hW => ROff_is m l x0 x1 W (IsRMap.below hM hW) hs hB hv (by omega) (by omega) h1) (fun W hW => ROff_is m l x2 x3 W (IsRMap.below hM hW) hs hB hv (by omega) (by omega) h3) c3
      · rw [if_neg c3]
        exact RSpan_ok _ x0 x1 x2 x3 _ _ w (fun W hW => ROff_is m l x0 x1 W (IsRMap.below hM hW) hs hB hv (by omega) (by omega) h1) (fun W hW => ROff_is m l x2 x3 W (IsRMap.below hM hW) hs hB hv (by omega) (by omega) h3) (Int.not_lt.1 c3)
theorem MRange_is (m : Nat) (l : List Int) (n k : Int) (w : World) (hM : IsMap w m l) (hs : l.length ≤ 1048576) (hB : Bytes l) (hv : V l) (h0 : 0 ≤ n) (h1 : n ≤ k) (h2 : k ≤ l.length) :
    Calls Try.prog 53 #[.pointer (some ⟨m, 0, none⟩), .agg #[.int .i64 n, .int .i64 k]] w fun e w' => e = .returned (.tuple #[.agg #[.int .i64 (fnd l n), .int .i64 (pch l n), .int .i64 (fnd l k), .int .i64 (pch l k)], .int .i64 0]) ∧ Below w.heap.size w w' :=
  MRange_ok _ n k _ _ _ _ w (fun W hW => MPos_is m l n W (IsMap.below hM hW) hs hB hv h0 (by omega)) (fun W hW => MPos_is m l k W (IsMap.below hM hW) hs hB hv (by omega) h2) h1
set_option maxRecDepth 100000 in
set_option maxHeartbeats 1000000 in
theorem Mis_is (m : Nat) (l : List Int) (n : Int) (w : World) (hM : IsMap w m l) (hs : l.length ≤ 1048576) (hB : Bytes l) (hv : V l) (h0 : 0 ≤ n) (h1 : n ≤ l.length) :
    Calls Try.prog 52 #[.pointer (some ⟨m, 0, none⟩), .int .i64 n] w fun e w' => e = .returned (.bool (isPb l n)) ∧ Below w.heap.size w w' := by
  have HS := Aside0.mk ((Sta.start w).only hM (keeps_map _ _))
  have HBY := Aside0.mk hB
  have HV := Aside0.mk hv
  have hp := pch_range l hB hv n
  have hu : isPb l n = (poff l (fnd l n) (pch l n) == n) := rfl
  obtain ⟨a, ha⟩ : ∃ a : Int, (fnd l n : Int) = a := ⟨_, rfl⟩
  obtain ⟨ca, hca⟩ : ∃ ca, pch l n = ca := ⟨_, rfl⟩
  have a0 : 0 ≤ a := by omega
  rw [ha, hca] at hu
  rw [hca] at hp
  obtain ⟨o, ho⟩ : ∃ o, poff l a ca = o := ⟨_, rfl⟩
  rw [ho] at hu
  rw [hu]
  obtain ⟨ca0, ca2⟩ := hp
  have ca1 : ca ≤ 9223372036854775807 := by omega
  have HA := Aside0.mk ha
  have HCA := Aside0.mk hca
  have HO := Aside0.mk ho
  clear hM hB hv hu ha hca ho
  go_enter Try.func52, Try.ntmps52
  go_wp2_with (first | (go_at_call 80; refine (MPos_is m l n _ (HS.out.step (by repeat (first | exact Below.refl _ _ | apply below_alloc | apply pw_below_drewN | apply below_drew1))).now hs HBY.out HV.out h0 h1).mono ?_; rintro e w1 ⟨rfl, hb⟩; rw [HA.out, HCA.out]; have m_ := Aside0.mk (HS.out.call (by repeat (first | exact Below.refl _ _ | apply below_alloc | apply pw_below_drewN | apply below_drew1)) hb); clear HS hb ; have HS := m_; clear m_) | (go_at_call 62; refine (MOffset_is m l a ca _ (HS.out.step (by repeat (first | exact Below.refl _ _ | apply below_alloc | apply pw_below_drewN | apply below_drew1))).now hs HBY.out HV.out a0 ca0 ca1).mono ?_; rintro e w2 ⟨rfl, hb⟩; rw [HO.out]; have m_ := Aside0.mk (HS.out.call (by repeat (first | exact Below.refl _ _ | apply below_alloc | apply pw_below_drewN | apply below_drew1)) hb); clear HS hb ; have HS := m_; clear m_))
  go_ret
  exact ⟨rfl, (HS.out.step (by repeat (first | exact Below.refl _ _ | apply below_alloc | apply pw_below_drewN | apply below_drew1))).bel⟩
theorem bytes_step {w W : World} {e : TypeId} {s : ByteArray} (h : Below w.heap.size w W) : Below w.heap.size w (Lib.bytesWorld W e s) := bytes_below h h.size e s
theorem bytes_at (W : World) (e : TypeId) (s : ByteArray) (g : Nat) (hg : W.heap.size = g) (hs : s.size ≤ 9223372036854775807) : Kd.C (Kd.int .u8) (Lib.bytesWorld W e s) (some ⟨g, 0, none⟩) s.size (bytesOf s) := by
  subst hg
  exact bytes_C W e s hs
theorem row2_Cm (W : World) (A B : Option Addr) (c d : Nat) (l t : List Int) (m : Nat) (hm : t.length = m) (hr : Kd.C (Kd.int .u8) W A l.length l) (hc : l.length ≤ c) (hr2 : Kd.C (Kd.int .u8) W B m t) (hd : m ≤ d) (o : TypeId) :
    Kd.C (Kd.slice 5 (Kd.int .u8)) (W.alloc (.cells #[.slice A l.length c, .slice B m d] o)) (some ⟨W.heap.size, 0, none⟩) [l, t].length [l, t] := by
  subst hm
  exact row2_C W A B c d l t hr hc hr2 hd o
set_option maxRecDepth 100000 in
set_option maxHeartbeats 2000000 in
theorem change_bad (A : Option Addr) (c : Nat) (l : List Int) (wh : Bool) (x0 x1 x2 x3 : Int) (s : ByteArray) (w : World) (hr : Kd.C (Kd.int .u8) w A l.length l) (hc : l.length ≤ c) (hB : Bytes l) (hs : l.length ≤ 1048576) (hs2 : s.size ≤ 140737488351232) (r : Int) (hk : (if (chk l).2 ≠ 0 then (chk l).2 else (chk (bytesOf s)).2) = r) (hz : r ≠ 0) :
    Calls Try.prog 59 #[.slice A l.length c, .agg #[.bool wh, .int .i64 x0, .int .i64 x1, .int .i64 x2, .int .i64 x3, .string s]] w fun e w' => ∃ v : Value, e = .returned (.tuple #[.agg #[.int .i64 0, .int .i64 0], v, .int .i64 r]) ∧ Kd.R (Kd.int .u8) 5 w' w.heap.size (fun _ => True) v [] ∧ Below w.heap.size w w' := by
  have hb1 := below_alloc (Below.refl _ w) (.cells #[.bool wh, .int .i64 x0, .int .i64 x1, .int .i64 x2, .int .i64 x3, .string s] 29)
  have hb2 : Below (w.alloc (.cells #[.bool wh, .int .i64 x0, .int .i64 x1, .int .i64 x2, .int .i64 x3, .string s] 29)).heap.size (w.alloc (.cells #[.bool wh, .int .i64 x0, .int .i64 x1, .int .i64 x2, .int .i64 x3, .string s] 29)) ((w.alloc (.cells #[.bool wh, .int .i64 x0, .int .i64 x1, .int .i64 x2, .int .i64 x3, .string s] 29)).alloc (.cells #[.int .i64 0, .int .i64 0] 44)) := below_alloc (Below.refl _ _) _
  have hg : IsBlk ((w.alloc (.cells #[.bool wh, .int .i64 x0, .int .i64 x1, .int .i64 x2, .int .i64 x3, .string s] 29)).alloc (.cells #[.int .i64 0, .int .i64 0] 44)) (w.alloc (.cells #[.bool wh, .int .i64 x0, .int .i64 x1, .int .i64 x2, .int .i64 x3, .string s] 29)).heap.size (.cells #[.int .i64 0, .int .i64 0] 44) := blk_new _ _
  rw [World.size_alloc] at hg
  have HS : Aside0 (Sta w ((w.alloc (.cells #[.bool wh, .int .i64 x0, .int .i64 x1, .int .i64 x2, .int .i64 x3, .string s] 29)).alloc (.cells #[.int .i64 0, .int .i64 0] 44)) (fun W => IsBlk W w.heap.size (.cells #[.bool wh, .int .i64 x0, .int .i64 x1, .int .i64 x2, .int .i64 x3, .string s] 29) ∧ IsBlk W (w.heap.size + 1) (.cells #[.int .i64 0, .int .i64 0] 44) ∧ Kd.C (Kd.int .u8) W A l.length l)) := ⟨⟨below_step hb1 hb2, ⟨IsBlk.below (blk_new w _) hb2, hg, Kd.C_below (Kd.C_below hr hb1) hb2⟩, keeps_and (keeps_blk _ _) (keeps_and (keeps_blk _ _) (keeps_C _ _ _ _))⟩⟩
  clear hb1 hb2 hg hr
  have n1 := blk_lt HS.out.now.1
  have n2 := blk_lt HS.out.now.2.1
  have c0 : ((w.alloc (.cells #[.bool wh, .int .i64 x0, .int .i64 x1, .int .i64 x2, .int .i64 x3, .string s] 29)).alloc (.cells #[.int .i64 0, .int .i64 0] 44)).cell? ⟨w.heap.size, 0, none⟩ = some (.bool wh) := HS.out.now.1.cell 0
  have c1 : ((w.alloc (.cells #[.bool wh, .int .i64 x0, .int .i64 x1, .int .i64 x2, .int .i64 x3, .string s] 29)).alloc (.cells #[.int .i64 0, .int .i64 0] 44)).cell? ⟨w.heap.size, 1, none⟩ = some (.int .i64 x0) := HS.out.now.1.cell 1
  have c2 : ((w.alloc (.cells #[.bool wh, .int .i64 x0, .int .i64 x1, .int .i64 x2, .int .i64 x3, .string s] 29)).alloc (.cells #[.int .i64 0, .int .i64 0] 44)).cell? ⟨w.heap.size, 2, none⟩ = some (.int .i64 x1) := HS.out.now.1.cell 2
  have c3 : ((w.alloc (.cells #[.bool wh, .int .i64 x0, .int .i64 x1, .int .i64 x2, .int .i64 x3, .string s] 29)).alloc (.cells #[.int .i64 0, .int .i64 0] 44)).cell? ⟨w.heap.size, 3, none⟩ = some (.int .i64 x2) := HS.out.now.1.cell 3
  have c4 : ((w.alloc (.cells #[.bool wh, .int .i64 x0, .int .i64 x1, .int .i64 x2, .int .i64 x3, .string s] 29)).alloc (.cells #[.int .i64 0, .int .i64 0] 44)).cell? ⟨w.heap.size, 4, none⟩ = some (.int .i64 x3) := HS.out.now.1.cell 4
  have c5 : ((w.alloc (.cells #[.bool wh, .int .i64 x0, .int .i64 x1, .int .i64 x2, .int .i64 x3, .string s] 29)).alloc (.cells #[.int .i64 0, .int .i64 0] 44)).cell? ⟨w.heap.size, 5, none⟩ = some (.string s) := HS.out.now.1.cell 5
  have k0 : ((w.alloc (.cells #[.bool wh, .int .i64 x0, .int .i64 x1, .int .i64 x2, .int .i64 x3, .string s] 29)).alloc (.cells #[.int .i64 0, .int .i64 0] 44)).cell? ⟨w.heap.size + 1, 0, none⟩ = some (.int .i64 0) := HS.out.now.2.1.cell 0
  have f0 := HS.out.now.2.1.frozen 0
  have k1 : ((w.alloc (.cells #[.bool wh, .int .i64 x0, .int .i64 x1, .int .i64 x2, .int .i64 x3, .string s] 29)).alloc (.cells #[.int .i64 0, .int .i64 0] 44)).cell? ⟨w.heap.size + 1, 1, none⟩ = some (.int .i64 0) := HS.out.now.2.1.cell 1
  have f1 := HS.out.now.2.1.frozen 1
  have kb := fun W : World => print_bytes (P := Try.prog) 9 22 5 Try.underlying9 Try.underlying22 Try.underlying5 s W
  have HT := Aside0.mk (texts2_f l (bytesOf s) hB (bytesOf_B s) hs (by rw [bytesOf_length]; exact hs2))
  have HC := Aside0.mk hc
  have HBY := Aside0.mk hB
  clear hc hB
  rw [hk] at HT
  have hz1 : (r != 0) = true := bne_iff_ne.mpr hz
  clear hz hk
  go_enter Try.func59, Try.ntmps59
  go_wp2_with (go_at_call 51; refine (edit_texts.calls _ _ _ [l, bytesOf s] _ _ (row2_Cm _ _ _ _ _ l (bytesOf s) s.size (bytesOf_length s) (HS.out.step (by repeat (first | exact Below.refl _ _ | apply below_alloc | apply pw_below_drewN | apply below_drew1 | apply bytes_step))).now.2.2 HC.out (bytes_at _ _ s _ (by simp) (by omega)) (grownCap_ge _ _ _ _) _) (Nat.le_refl _) HT.out).mono ?_; rintro e w1 ⟨rfl, hd⟩; have hb := hd.below; clear hd; have m_ := Aside0.mk (HS.out.call (by repeat (first | exact Below.refl _ _ | apply below_alloc | apply pw_below_drewN | apply below_drew1 | apply bytes_step)) hb); clear HS hb ; have HS := m_; clear m_; have n1 := blk_lt HS.out.now.1; have n2 := blk_lt HS.out.now.2.1; have c0 : w1.cell? ⟨w.heap.size, 0, none⟩ = some (.bool wh) := HS.out.now.1.cell 0; have c0a := cell_alloc1 c0; have c1 : w1.cell? ⟨w.heap.size, 1, none⟩ = some (.int .i64 x0) := HS.out.now.1.cell 1; have c1a := cell_alloc1 c1; have c2 : w1.cell? ⟨w.heap.size, 2, none⟩ = some (.int .i64 x1) := HS.out.now.1.cell 2; have c2a := cell_alloc1 c2; have c3 : w1.cell? ⟨w.heap.size, 3, none⟩ = some (.int .i64 x2) := HS.out.now.1.cell 3; have c3a := cell_alloc1 c3; have c4 : w1.cell? ⟨w.heap.size, 4, none⟩ = some (.int .i64 x3) := HS.out.now.1.cell 4; have c4a := cell_alloc1 c4; have c5 : w1.cell? ⟨w.heap.size, 5, none⟩ = some (.string s) := HS.out.now.1.cell 5; have c5a := cell_alloc1 c5; have k0 : w1.cell? ⟨w.heap.size + 1, 0, none⟩ = some (.int .i64 0) := HS.out.now.2.1.cell 0; have f0 := HS.out.now.2.1.frozen 0; have k0a := cell_alloc1 k0; have f0a := froz_alloc1 k0 f0; have k1 : w1.cell? ⟨w.heap.size + 1, 1, none⟩ = some (.int .i64 0) := HS.out.now.2.1.cell 1; have f1 := HS.out.now.2.1.frozen 1; have k1a := cell_alloc1 k1; have f1a := froz_alloc1 k1 f1)
  first | rw [Exit.noGoto_ret] | skip
  refine bodyPost_ret (v := .tuple #[.agg #[.int .i64 0, .int .i64 0], .slice none 0 0, .int .i64 r]) (by simp [results, Try.results59, go_sem, *]) rfl ⟨_, rfl, Kd.R_nil _ _ _ _ _, ?_⟩
  have hS := HS.out.bel
  repeat (first | exact hS | apply below_alloc | apply pw_below_drewN | apply below_drew1 | refine Below.setCell ?_ (by simp) _)
theorem r_set {W : World} {e base : Nat} {v : Value} {xs : List Int} (h : Kd.R (Kd.int .u8) e W base (fun _ => True) v xs) {p : Addr} (hp : p.block < base) (u : Value) : Kd.R (Kd.int .u8) e (W.setCell p u) base (fun _ => True) v xs :=
  Kd.R_mono (Kd.R_far (p := p) (Kd.R_bound h) (fun k hk => by have := hk.2.1; omega) u) (fun _ _ => trivial)
set_option maxRecDepth 100000 in
set_option maxHeartbeats 2000000 in
theorem change_whole_no (A : Option Addr) (c : Nat) (l : List Int) (x0 x1 x2 x3 : Int) (s : ByteArray) (w : World) (hr : Kd.C (Kd.int .u8) w A l.length l) (hc : l.length ≤ c) (hB : Bytes l) (hs : l.length ≤ 1048576) (hs2 : s.size ≤ 140737488351232) (hl : (chk l).2 = 0) (ht : (chk (bytesOf s)).2 = 0) (hlim0 : 8192 < s.size) :
    Calls Try.prog 59 #[.slice A l.length c, .agg #[.bool true, .int .i64 x0, .int .i64 x1, .int .i64 x2, .int .i64 x3, .string s]] w fun e w' => ∃ v : Value, e = .returned (.tuple #[.agg #[.int .i64 0, .int .i64 0], v, .int .i64 5]) ∧ Kd.R (Kd.int .u8) 5 w' w.heap.size (fun _ => True) v [] ∧ Below w.heap.size w w' := by
  have hb1 := below_alloc (Below.refl _ w) (.cells #[.bool true, .int .i64 x0, .int .i64 x1, .int .i64 x2, .int .i64 x3, .string s] 29)
  have hb2 : Below (w.alloc (.cells #[.bool true, .int .i64 x0, .int .i64 x1, .int .i64 x2, .int .i64 x3, .string s] 29)).heap.size (w.alloc (.cells #[.bool true, .int .i64 x0, .int .i64 x1, .int .i64 x2, .int .i64 x3, .string s] 29)) ((w.alloc (.cells #[.bool true, .int .i64 x0, .int .i64 x1, .int .i64 x2, .int .i64 x3, .string s] 29)).alloc (.cells #[.int .i64 0, .int .i64 0] 44)) := below_alloc (Below.refl _ _) _
  have hg : IsBlk ((w.alloc (.cells #[.bool true, .int .i64 x0, .int .i64 x1, .int .i64 x2, .int .i64 x3, .string s] 29)).alloc (.cells #[.int .i64 0, .int .i64 0] 44)) (w.alloc (.cells #[.bool true, .int .i64 x0, .int .i64 x1, .int .i64 x2, .int .i64 x3, .string s] 29)).heap.size (.cells #[.int .i64 0, .int .i64 0] 44) := blk_new _ _
  rw [World.size_alloc] at hg
  have HS : Aside0 (Sta w ((w.alloc (.cells #[.bool true, .int .i64 x0, .int .i64 x1, .int .i64 x2, .int .i64 x3, .string s] 29)).alloc (.cells #[.int .i64 0, .int .i64 0] 44)) (fun W => IsBlk W w.heap.size (.cells #[.bool true, .int .i64 x0, .int .i64 x1, .int .i64 x2, .int .i64 x3, .string s] 29) ∧ IsBlk W (w.heap.size + 1) (.cells #[.int .i64 0, .int .i64 0] 44) ∧ Kd.C (Kd.int .u8) W A l.length l)) := ⟨⟨below_step hb1 hb2, ⟨IsBlk.below (blk_new w _) hb2, hg, Kd.C_below (Kd.C_below hr hb1) hb2⟩, keeps_and (keeps_blk _ _) (keeps_and (keeps_blk _ _) (keeps_C _ _ _ _))⟩⟩
  clear hb1 hb2 hg hr
  have n1 := blk_lt HS.out.now.1
  have n2 := blk_lt HS.out.now.2.1
  have c0 : ((w.alloc (.cells #[.bool true, .int .i64 x0, .int .i64 x1, .int .i64 x2, .int .i64 x3, .string s] 29)).alloc (.cells #[.int .i64 0, .int .i64 0] 44)).cell? ⟨w.heap.size, 0, none⟩ = some (.bool true) := HS.out.now.1.cell 0
  have c1 : ((w.alloc (.cells #[.bool true, .int .i64 x0, .int .i64 x1, .int .i64 x2, .int .i64 x3, .string s] 29)).alloc (.cells #[.int .i64 0, .int .i64 0] 44)).cell? ⟨w.heap.size, 1, none⟩ = some (.int .i64 x0) := HS.out.now.1.cell 1
  have c2 : ((w.alloc (.cells #[.bool true, .int .i64 x0, .int .i64 x1, .int .i64 x2, .int .i64 x3, .string s] 29)).alloc (.cells #[.int .i64 0, .int .i64 0] 44)).cell? ⟨w.heap.size, 2, none⟩ = some (.int .i64 x1) := HS.out.now.1.cell 2
  have c3 : ((w.alloc (.cells #[.bool true, .int .i64 x0, .int .i64 x1, .int .i64 x2, .int .i64 x3, .string s] 29)).alloc (.cells #[.int .i64 0, .int .i64 0] 44)).cell? ⟨w.heap.size, 3, none⟩ = some (.int .i64 x2) := HS.out.now.1.cell 3
  have c4 : ((w.alloc (.cells #[.bool true, .int .i64 x0, .int .i64 x1, .int .i64 x2, .int .i64 x3, .string s] 29)).alloc (.cells #[.int .i64 0, .int .i64 0] 44)).cell? ⟨w.heap.size, 4, none⟩ = some (.int .i64 x3) := HS.out.now.1.cell 4
  have c5 : ((w.alloc (.cells #[.bool true, .int .i64 x0, .int .i64 x1, .int .i64 x2, .int .i64 x3, .string s] 29)).alloc (.cells #[.int .i64 0, .int .i64 0] 44)).cell? ⟨w.heap.size, 5, none⟩ = some (.string s) := HS.out.now.1.cell 5
  have k0 : ((w.alloc (.cells #[.bool true, .int .i64 x0, .int .i64 x1, .int .i64 x2, .int .i64 x3, .string s] 29)).alloc (.cells #[.int .i64 0, .int .i64 0] 44)).cell? ⟨w.heap.size + 1, 0, none⟩ = some (.int .i64 0) := HS.out.now.2.1.cell 0
  have f0 := HS.out.now.2.1.frozen 0
  have k1 : ((w.alloc (.cells #[.bool true, .int .i64 x0, .int .i64 x1, .int .i64 x2, .int .i64 x3, .string s] 29)).alloc (.cells #[.int .i64 0, .int .i64 0] 44)).cell? ⟨w.heap.size + 1, 1, none⟩ = some (.int .i64 0) := HS.out.now.2.1.cell 1
  have f1 := HS.out.now.2.1.frozen 1
  have kb := fun W : World => print_bytes (P := Try.prog) 9 22 5 Try.underlying9 Try.underlying22 Try.underlying5 s W
  have HT := Aside0.mk (texts2_f l (bytesOf s) hB (bytesOf_B s) hs (by rw [bytesOf_length]; exact hs2))
  have HC := Aside0.mk hc
  have HBY := Aside0.mk hB
  clear hc hB
  rw [hl, ht, if_neg (by simp)] at HT
  obtain ⟨a, ha⟩ : ∃ a : Int, a = 0 := ⟨_, rfl⟩
  obtain ⟨b, hb⟩ : ∃ b : Int, b = l.length := ⟨_, rfl⟩
  have hlim : 8192 < (l.length : Int) - (b - a) + s.size := by omega
  have ha0 : 0 ≤ a := by omega
  have hab : a ≤ b := by omega
  have hbl : b ≤ l.length := by omega
  have HR0 := Aside0.mk (HS.out.now.2.2)
  go_enter Try.func59, Try.ntmps59
  go_upto_region 14 with (go_at_call 51; refine (edit_texts.calls _ _ _ [l, bytesOf s] _ _ (row2_Cm _ _ _ _ _ l (bytesOf s) s.size (bytesOf_length s) (HS.out.step (by repeat (first | exact Below.refl _ _ | apply below_alloc | apply pw_below_drewN | apply below_drew1 | apply bytes_step))).now.2.2 HC.out (bytes_at _ _ s _ (by simp) (by omega)) (grownCap_ge _ _ _ _) _) (Nat.le_refl _) HT.out).mono ?_; rintro e w1 ⟨rfl, hd⟩; have hb := hd.below; clear hd; have m_ := Aside0.mk (HS.out.call (by repeat (first | exact Below.refl _ _ | apply below_alloc | apply pw_below_drewN | apply below_drew1 | apply bytes_step)) hb); clear HS hb ; have HS := m_; clear m_; have n1 := blk_lt HS.out.now.1; have n2 := blk_lt HS.out.now.2.1; have c0 : w1.cell? ⟨w.heap.size, 0, none⟩ = some (.bool true) := HS.out.now.1.cell 0; have c0a := cell_alloc1 c0; have c1 : w1.cell? ⟨w.heap.size, 1, none⟩ = some (.int .i64 x0) := HS.out.now.1.cell 1; have c1a := cell_alloc1 c1; have c2 : w1.cell? ⟨w.heap.size, 2, none⟩ = some (.int .i64 x1) := HS.out.now.1.cell 2; have c2a := cell_alloc1 c2; have c3 : w1.cell? ⟨w.heap.size, 3, none⟩ = some (.int .i64 x2) := HS.out.now.1.cell 3; have c3a := cell_alloc1 c3; have c4 : w1.cell? ⟨w.heap.size, 4, none⟩ = some (.int .i64 x3) := HS.out.now.1.cell 4; have c4a := cell_alloc1 c4; have c5 : w1.cell? ⟨w.heap.size, 5, none⟩ = some (.string s) := HS.out.now.1.cell 5; have c5a := cell_alloc1 c5; have k0 : w1.cell? ⟨w.heap.size + 1, 0, none⟩ = some (.int .i64 0) := HS.out.now.2.1.cell 0; have f0 := HS.out.now.2.1.frozen 0; have k0a := cell_alloc1 k0; have f0a := froz_alloc1 k0 f0; have k1 : w1.cell? ⟨w.heap.size + 1, 1, none⟩ = some (.int .i64 0) := HS.out.now.2.1.cell 1; have f1 := HS.out.now.2.1.frozen 1; have k1a := cell_alloc1 k1; have f1a := froz_alloc1 k1 f1)
  have b8n : IsBlk (w1.alloc (.cells #[.int .i64 0, .int .i64 l.length] 44)) w1.heap.size (.cells #[.int .i64 a, .int .i64 b] 44 (0, 0)) := by rw [ha, hb]; exact blk_new _ _
  have h9 := HS.out.step (below_alloc (Below.refl w1.heap.size w1) (.cells #[.int .i64 0, .int .i64 l.length] 44))
  have HS9 : Aside0 (Sta w (w1.alloc (.cells #[.int .i64 0, .int .i64 l.length] 44)) (fun W => IsBlk W w.heap.size (.cells #[.bool true, .int .i64 x0, .int .i64 x1, .int .i64 x2, .int .i64 x3, .string s] 29) ∧ IsBlk W (w.heap.size + 1) (.cells #[.int .i64 0, .int .i64 0] 44) ∧ Kd.C (Kd.int .u8) W A l.length l ∧ IsBlk W w1.heap.size (.cells #[.int .i64 a, .int .i64 b] 44 (0, 0)))) := ⟨⟨h9.bel, ⟨h9.now.1, h9.now.2.1, h9.now.2.2, b8n⟩, keeps_and (keeps_blk _ _) (keeps_and (keeps_blk _ _) (keeps_and (keeps_C _ _ _ _) (keeps_blk _ _)))⟩⟩
  have ge8 := n2
  have ge9 : w.heap.size < w1.heap.size := Nat.lt_of_succ_lt n2
  clear HS h9 b8n HT
  clear c0 c0a c1 c1a c2 c2a c3 c3a c4 c4a c5 c5a k0 k1 k0a k1a f0 f1 f0a f1a n1 n2
  generalize w1.alloc (.cells #[.int .i64 0, .int .i64 l.length] 44) = W9 at HS9 ⊢
  generalize w1.heap.size = b8 at HS9 ge8 ge9 ⊢
  have HS := HS9
  clear HS9
  have n1 := blk_lt HS.out.now.1
  have n2 := blk_lt HS.out.now.2.1
  have c0 : W9.cell? ⟨w.heap.size, 0, none⟩ = some (.bool true) := HS.out.now.1.cell 0
  have c1 : W9.cell? ⟨w.heap.size, 1, none⟩ = some (.int .i64 x0) := HS.out.now.1.cell 1
  have c2 : W9.cell? ⟨w.heap.size, 2, none⟩ = some (.int .i64 x1) := HS.out.now.1.cell 2
  have c3 : W9.cell? ⟨w.heap.size, 3, none⟩ = some (.int .i64 x2) := HS.out.now.1.cell 3
  have c4 : W9.cell? ⟨w.heap.size, 4, none⟩ = some (.int .i64 x3) := HS.out.now.1.cell 4
  have c5 : W9.cell? ⟨w.heap.size, 5, none⟩ = some (.string s) := HS.out.now.1.cell 5
  have k0 : W9.cell? ⟨w.heap.size + 1, 0, none⟩ = some (.int .i64 0) := HS.out.now.2.1.cell 0
  have f0 := HS.out.now.2.1.frozen 0
  have k1 : W9.cell? ⟨w.heap.size + 1, 1, none⟩ = some (.int .i64 0) := HS.out.now.2.1.cell 1
  have f1 := HS.out.now.2.1.frozen 1
  have q0 : W9.cell? ⟨b8, 0, none⟩ = some (.int .i64 a) := HS.out.now.2.2.2.cell 0
  have q1 : W9.cell? ⟨b8, 1, none⟩ = some (.int .i64 b) := HS.out.now.2.2.2.cell 1
  have g9 : decide (8192 < (l.length : Int) - (b - a) + s.size) = true := decide_eq_true (by omega)
  clear ha hb
  go_wp2
  first | rw [Exit.noGoto_ret] | skip
  refine bodyPost_ret (v := .tuple #[.agg #[.int .i64 0, .int .i64 0], .slice none 0 0, .int .i64 5]) (by simp [results, Try.results59, go_sem, *]) rfl ⟨_, rfl, Kd.R_nil _ _ _ _ _, ?_⟩
  have hS := HS.out.bel
  repeat (first | exact hS | apply below_alloc | apply pw_below_drewN | apply below_drew1 | refine Below.setCell ?_ (by simp) _)
set_option maxRecDepth 100000 in
set_option maxHeartbeats 2000000 in
theorem change_whole_ok (A : Option Addr) (c : Nat) (l : List Int) (x0 x1 x2 x3 : Int) (s : ByteArray) (w : World) (hr : Kd.C (Kd.int .u8) w A l.length l) (hc : l.length ≤ c) (hB : Bytes l) (hs : l.length ≤ 1048576) (hs2 : s.size ≤ 140737488351232) (hl : (chk l).2 = 0) (ht : (chk (bytesOf s)).2 = 0) (hlim0 : ¬ 8192 < s.size) (a b : Int) (ha : a = 0) (hb : b = l.length) :
    Calls Try.prog 59 #[.slice A l.length c, .agg #[.bool true, .int .i64 x0, .int .i64 x1, .int .i64 x2, .int .i64 x3, .string s]] w fun e w' => ∃ v : Value, e = .returned (.tuple #[.agg #[.int .i64 a, .int .i64 b], v, .int .i64 0]) ∧ Kd.R (Kd.int .u8) 5 w' w.heap.size (fun _ => True) v (l.take a.toNat ++ bytesOf s ++ l.drop b.toNat) ∧ Below w.heap.size w w' := by
  have hb1 := below_alloc (Below.refl _ w) (.cells #[.bool true, .int .i64 x0, .int .i64 x1, .int .i64 x2, .int .i64 x3, .string s] 29)
  have hb2 : Below (w.alloc (.cells #[.bool true, .int .i64 x0, .int .i64 x1, .int .i64 x2, .int .i64 x3, .string s] 29)).heap.size (w.alloc (.cells #[.bool true, .int .i64 x0, .int .i64 x1, .int .i64 x2, .int .i64 x3, .string s] 29)) ((w.alloc (.cells #[.bool true, .int .i64 x0, .int .i64 x1, .int .i64 x2, .int .i64 x3, .string s] 29)).alloc (.cells #[.int .i64 0, .int .i64 0] 44)) := below_alloc (Below.refl _ _) _
  have hg : IsBlk ((w.alloc (.cells #[.bool true, .int .i64 x0, .int .i64 x1, .int .i64 x2, .int .i64 x3, .string s] 29)).alloc (.cells #[.int .i64 0, .int .i64 0] 44)) (w.alloc (.cells #[.bool true, .int .i64 x0, .int .i64 x1, .int .i64 x2, .int .i64 x3, .string s] 29)).heap.size (.cells #[.int .i64 0, .int .i64 0] 44) := blk_new _ _
  rw [World.size_alloc] at hg
  have HS : Aside0 (Sta w ((w.alloc (.cells #[.bool true, .int .i64 x0, .int .i64 x1, .int .i64 x2, .int .i64 x3, .string s] 29)).alloc (.cells #[.int .i64 0, .int .i64 0] 44)) (fun W => IsBlk W w.heap.size (.cells #[.bool true, .int .i64 x0, .int .i64 x1, .int .i64 x2, .int .i64 x3, .string s] 29) ∧ IsBlk W (w.heap.size + 1) (.cells #[.int .i64 0, .int .i64 0] 44) ∧ Kd.C (Kd.int .u8) W A l.length l)) := ⟨⟨below_step hb1 hb2, ⟨IsBlk.below (blk_new w _) hb2, hg, Kd.C_below (Kd.C_below hr hb1) hb2⟩, keeps_and (keeps_blk _ _) (keeps_and (keeps_blk _ _) (keeps_C _ _ _ _))⟩⟩
  clear hb1 hb2 hg hr
  have n1 := blk_lt HS.out.now.1
  have n2 := blk_lt HS.out.now.2.1
  have c0 : ((w.alloc (.cells #[.bool true, .int .i64 x0, .int .i64 x1, .int .i64 x2, .int .i64 x3, .string s] 29)).alloc (.cells #[.int .i64 0, .int .i64 0] 44)).cell? ⟨w.heap.size, 0, none⟩ = some (.bool true) := HS.out.now.1.cell 0
  have c1 : ((w.alloc (.cells #[.bool true, .int .i64 x0, .int .i64 x1, .int .i64 x2, .int .i64 x3, .string s] 29)).alloc (.cells #[.int .i64 0, .int .i64 0] 44)).cell? ⟨w.heap.size, 1, none⟩ = some (.int .i64 x0) := HS.out.now.1.cell 1
  have c2 : ((w.alloc (.cells #[.bool true, .int .i64 x0, .int .i64 x1, .int .i64 x2, .int .i64 x3, .string s] 29)).alloc (.cells #[.int .i64 0, .int .i64 0] 44)).cell? ⟨w.heap.size, 2, none⟩ = some (.int .i64 x1) := HS.out.now.1.cell 2
  have c3 : ((w.alloc (.cells #[.bool true, .int .i64 x0, .int .i64 x1, .int .i64 x2, .int .i64 x3, .string s] 29)).alloc (.cells #[.int .i64 0, .int .i64 0] 44)).cell? ⟨w.heap.size, 3, none⟩ = some (.int .i64 x2) := HS.out.now.1.cell 3
  have c4 : ((w.alloc (.cells #[.bool true, .int .i64 x0, .int .i64 x1, .int .i64 x2, .int .i64 x3, .string s] 29)).alloc (.cells #[.int .i64 0, .int .i64 0] 44)).cell? ⟨w.heap.size, 4, none⟩ = some (.int .i64 x3) := HS.out.now.1.cell 4
  have c5 : ((w.alloc (.cells #[.bool true, .int .i64 x0, .int .i64 x1, .int .i64 x2, .int .i64 x3, .string s] 29)).alloc (.cells #[.int .i64 0, .int .i64 0] 44)).cell? ⟨w.heap.size, 5, none⟩ = some (.string s) := HS.out.now.1.cell 5
  have k0 : ((w.alloc (.cells #[.bool true, .int .i64 x0, .int .i64 x1, .int .i64 x2, .int .i64 x3, .string s] 29)).alloc (.cells #[.int .i64 0, .int .i64 0] 44)).cell? ⟨w.heap.size + 1, 0, none⟩ = some (.int .i64 0) := HS.out.now.2.1.cell 0
  have f0 := HS.out.now.2.1.frozen 0
  have k1 : ((w.alloc (.cells #[.bool true, .int .i64 x0, .int .i64 x1, .int .i64 x2, .int .i64 x3, .string s] 29)).alloc (.cells #[.int .i64 0, .int .i64 0] 44)).cell? ⟨w.heap.size + 1, 1, none⟩ = some (.int .i64 0) := HS.out.now.2.1.cell 1
  have f1 := HS.out.now.2.1.frozen 1
  have kb := fun W : World => print_bytes (P := Try.prog) 9 22 5 Try.underlying9 Try.underlying22 Try.underlying5 s W
  have HT := Aside0.mk (texts2_f l (bytesOf s) hB (bytesOf_B s) hs (by rw [bytesOf_length]; exact hs2))
  have HC := Aside0.mk hc
  have HBY := Aside0.mk hB
  clear hc hB
  rw [hl, ht, if_neg (by simp)] at HT
  have hlim : ¬ 8192 < (l.length : Int) - (b - a) + s.size := by omega
  have ha0 : 0 ≤ a := by omega
  have hab : a ≤ b := by omega
  have hbl : b ≤ l.length := by omega
  have HR0 := Aside0.mk (HS.out.now.2.2)
  go_enter Try.func59, Try.ntmps59
  go_upto_region 14 with (go_at_call 51; refine (edit_texts.calls _ _ _ [l, bytesOf s] _ _ (row2_Cm _ _ _ _ _ l (bytesOf s) s.size (bytesOf_length s) (HS.out.step (by repeat (first | exact Below.refl _ _ | apply below_alloc | apply pw_below_drewN | apply below_drew1 | apply bytes_step))).now.2.2 HC.out (bytes_at _ _ s _ (by simp) (by omega)) (grownCap_ge _ _ _ _) _) (Nat.le_refl _) HT.out).mono ?_; rintro e w1 ⟨rfl, hd⟩; have hb := hd.below; clear hd; have m_ := Aside0.mk (HS.out.call (by repeat (first | exact Below.refl _ _ | apply below_alloc | apply pw_below_drewN | apply below_drew1 | apply bytes_step)) hb); clear HS hb ; have HS := m_; clear m_; have n1 := blk_lt HS.out.now.1; have n2 := blk_lt HS.out.now.2.1; have c0 : w1.cell? ⟨w.heap.size, 0, none⟩ = some (.bool true) := HS.out.now.1.cell 0; have c0a := cell_alloc1 c0; have c1 : w1.cell? ⟨w.heap.size, 1, none⟩ = some (.int .i64 x0) := HS.out.now.1.cell 1; have c1a := cell_alloc1 c1; have c2 : w1.cell? ⟨w.heap.size, 2, none⟩ = some (.int .i64 x1) := HS.out.now.1.cell 2; have c2a := cell_alloc1 c2; have c3 : w1.cell? ⟨w.heap.size, 3, none⟩ = some (.int .i64 x2) := HS.out.now.1.cell 3; have c3a := cell_alloc1 c3; have c4 : w1.cell? ⟨w.heap.size, 4, none⟩ = some (.int .i64 x3) := HS.out.now.1.cell 4; have c4a := cell_alloc1 c4; have c5 : w1.cell? ⟨w.heap.size, 5, none⟩ = some (.string s) := HS.out.now.1.cell 5; have c5a := cell_alloc1 c5; have k0 : w1.cell? ⟨w.heap.size + 1, 0, none⟩ = some (.int .i64 0) := HS.out.now.2.1.cell 0; have f0 := HS.out.now.2.1.frozen 0; have k0a := cell_alloc1 k0; have f0a := froz_alloc1 k0 f0; have k1 : w1.cell? ⟨w.heap.size + 1, 1, none⟩ = some (.int .i64 0) := HS.out.now.2.1.cell 1; have f1 := HS.out.now.2.1.frozen 1; have k1a := cell_alloc1 k1; have f1a := froz_alloc1 k1 f1)
  have b8n : IsBlk (w1.alloc (.cells #[.int .i64 0, .int .i64 l.length] 44)) w1.heap.size (.cells #[.int .i64 a, .int .i64 b] 44 (0, 0)) := by rw [ha, hb]; exact blk_new _ _
  have h9 := HS.out.step (below_alloc (Below.refl w1.heap.size w1) (.cells #[.int .i64 0, .int .i64 l.length] 44))
  have HS9 : Aside0 (Sta w (w1.alloc (.cells #[.int .i64 0, .int .i64 l.length] 44)) (fun W => IsBlk W w.heap.size (.cells #[.bool true, .int .i64 x0, .int .i64 x1, .int .i64 x2, .int .i64 x3, .string s] 29) ∧ IsBlk W (w.heap.size + 1) (.cells #[.int .i64 0, .int .i64 0] 44) ∧ Kd.C (Kd.int .u8) W A l.length l ∧ IsBlk W w1.heap.size (.cells #[.int .i64 a, .int .i64 b] 44 (0, 0)))) := ⟨⟨h9.bel, ⟨h9.now.1, h9.now.2.1, h9.now.2.2, b8n⟩, keeps_and (keeps_blk _ _) (keeps_and (keeps_blk _ _) (keeps_and (keeps_C _ _ _ _) (keeps_blk _ _)))⟩⟩
  have ge8 := n2
  have ge9 : w.heap.size < w1.heap.size := Nat.lt_of_succ_lt n2
  clear HS h9 b8n HT
  clear c0 c0a c1 c1a c2 c2a c3 c3a c4 c4a c5 c5a k0 k1 k0a k1a f0 f1 f0a f1a n1 n2
  generalize w1.alloc (.cells #[.int .i64 0, .int .i64 l.length] 44) = W9 at HS9 ⊢
  generalize w1.heap.size = b8 at HS9 ge8 ge9 ⊢
  have HS := HS9
  clear HS9
  have n1 := blk_lt HS.out.now.1
  have n2 := blk_lt HS.out.now.2.1
  have c0 : W9.cell? ⟨w.heap.size, 0, none⟩ = some (.bool true) := HS.out.now.1.cell 0
  have c1 : W9.cell? ⟨w.heap.size, 1, none⟩ = some (.int .i64 x0) := HS.out.now.1.cell 1
  have c2 : W9.cell? ⟨w.heap.size, 2, none⟩ = some (.int .i64 x1) := HS.out.now.1.cell 2
  have c3 : W9.cell? ⟨w.heap.size, 3, none⟩ = some (.int .i64 x2) := HS.out.now.1.cell 3
  have c4 : W9.cell? ⟨w.heap.size, 4, none⟩ = some (.int .i64 x3) := HS.out.now.1.cell 4
  have c5 : W9.cell? ⟨w.heap.size, 5, none⟩ = some (.string s) := HS.out.now.1.cell 5
  have k0 : W9.cell? ⟨w.heap.size + 1, 0, none⟩ = some (.int .i64 0) := HS.out.now.2.1.cell 0
  have f0 := HS.out.now.2.1.frozen 0
  have k1 : W9.cell? ⟨w.heap.size + 1, 1, none⟩ = some (.int .i64 0) := HS.out.now.2.1.cell 1
  have f1 := HS.out.now.2.1.frozen 1
  have q0 : W9.cell? ⟨b8, 0, none⟩ = some (.int .i64 a) := HS.out.now.2.2.2.cell 0
  have q1 : W9.cell? ⟨b8, 1, none⟩ = some (.int .i64 b) := HS.out.now.2.2.2.cell 1
  have g9 : decide (8192 < (l.length : Int) - (b - a) + s.size) = false := decide_eq_false (by omega)
  clear ha hb
  have e1 := Nat.ne_of_lt ge8
  have e2 := Ne.symm e1
  have e3 := Nat.ne_of_lt ge9
  have e4 := Ne.symm e3
  go_upto_region 16 with (fail)
  go_region_held3 (fun wx => wx.cell? ⟨b8, 0, none⟩ = some (.int .i64 a) ∧ wx.cell? ⟨b8, 1, none⟩ = some (.int .i64 b) ∧ wx.cell? ⟨w.heap.size, 5, none⟩ = some (.string s)) (go_keep) ((go_at_call 86; refine (joined_ok A c l a b s _ (HS.out.step (by repeat (first | exact Below.refl _ _ | apply below_alloc | apply pw_below_drewN | apply below_drew1 | apply bytes_step))).now.2.2.1 HC.out ha0 hab hbl (by omega)).mono ?_; rintro e w5 ⟨v, rfl, hR, hb⟩; have HRR := Aside0.mk (Kd.R_lower hR (blk_lt (HS.out.step (by repeat (first | exact Below.refl _ _ | apply below_alloc | apply pw_below_drewN | apply below_drew1 | apply bytes_step))).now.2.1)); clear hR; have m_ := Aside0.mk (HS.out.call (by repeat (first | exact Below.refl _ _ | apply below_alloc | apply pw_below_drewN | apply below_drew1 | apply bytes_step)) hb); clear HS hb ; have HS := m_; clear m_; have n1 := blk_lt HS.out.now.1; have n2 := blk_lt HS.out.now.2.1; have c0 : w5.cell? ⟨w.heap.size, 0, none⟩ = some (.bool true) := HS.out.now.1.cell 0; have c1 : w5.cell? ⟨w.heap.size, 1, none⟩ = some (.int .i64 x0) := HS.out.now.1.cell 1; have c2 : w5.cell? ⟨w.heap.size, 2, none⟩ = some (.int .i64 x1) := HS.out.now.1.cell 2; have c3 : w5.cell? ⟨w.heap.size, 3, none⟩ = some (.int .i64 x2) := HS.out.now.1.cell 3; have c4 : w5.cell? ⟨w.heap.size, 4, none⟩ = some (.int .i64 x3) := HS.out.now.1.cell 4; have c5 : w5.cell? ⟨w.heap.size, 5, none⟩ = some (.string s) := HS.out.now.1.cell 5; have k0 : w5.cell? ⟨w.heap.size + 1, 0, none⟩ = some (.int .i64 0) := HS.out.now.2.1.cell 0; have f0 := HS.out.now.2.1.frozen 0; have k1 : w5.cell? ⟨w.heap.size + 1, 1, none⟩ = some (.int .i64 0) := HS.out.now.2.1.cell 1; have f1 := HS.out.now.2.1.frozen 1; have q0 : w5.cell? ⟨b8, 0, none⟩ = some (.int .i64 a) := HS.out.now.2.2.2.cell 0; have q1 : w5.cell? ⟨b8, 1, none⟩ = some (.int .i64 b) := HS.out.now.2.2.2.cell 1))
  all_goals
    go_wp2
    first | rw [Exit.noGoto_ret] | skip
    refine bodyPost_ret (v := .tuple #[.agg #[.int .i64 a, .int .i64 b], v, .int .i64 0]) (by simp [results, Try.results59, go_sem, *]) rfl ⟨v, rfl, Kd.R_lower (r_set (r_set HRR.out (by simp) _) (by simp) _) (by omega), ?_⟩
    have hS := HS.out.bel
    repeat (first | exact hS | apply below_alloc | apply pw_below_drewN | apply below_drew1 | refine Below.setCell ?_ (by simp) _)
theorem blk2 {W : World} {b : Nat} {z z1 : Value} {t : TypeId} (h : IsBlk W b (.cells #[z, z1] t (0, 0))) (u0 u1 : Value) :
    IsBlk ((W.setCell ⟨b, 0, none⟩ u0).setCell ⟨b, 1, none⟩ u1) b (.cells #[u0, u1] t (0, 0)) :=
  (blk_set (blk_set h 0 u0) 1 u1).trans rfl
set_option maxRecDepth 100000 in
set_option maxHeartbeats 2000000 in
theorem change_span_bad (A : Option Addr) (c : Nat) (l : List Int) (x0 x1 x2 x3 : Int) (s : ByteArray) (w : World) (hr : Kd.C (Kd.int .u8) w A l.length l) (hc : l.length ≤ c) (hB : Bytes l) (hs : l.length ≤ 1048576) (hs2 : s.size ≤ 140737488351232) (hn : A = none → c = 0) (hx1 : x1 ≤ 9223372036854775807) (hx3 : x3 ≤ 9223372036854775807) (hl : (chk l).2 = 0) (ht : (chk (bytesOf s)).2 = 0) (a b er : Int) (hma : (msp l x0 x1 x2 x3).1 = a) (hmb : (msp l x0 x1 x2 x3).2.1 = b) (hme : (msp l x0 x1 x2 x3).2.2 = er) (hz : er ≠ 0) (ew : Int) (hew : ew = if er = 2 then 150 else er) :
    Calls Try.prog 59 #[.slice A l.length c, .agg #[.bool false, .int .i64 x0, .int .i64 x1, .int .i64 x2, .int .i64 x3, .string s]] w fun e w' => ∃ v : Value, e = .returned (.tuple #[.agg #[.int .i64 0, .int .i64 0], v, .int .i64 ew]) ∧ Kd.R (Kd.int .u8) 5 w' w.heap.size (fun _ => True) v [] ∧ Below w.heap.size w w' := by
  have HRW := Aside0.mk hr
  have hb1 := below_alloc (Below.refl _ w) (.cells #[.bool false, .int .i64 x0, .int .i64 x1, .int .i64 x2, .int .i64 x3, .string s] 29)
  have hb2 : Below (w.alloc (.cells #[.bool false, .int .i64 x0, .int .i64 x1, .int .i64 x2, .int .i64 x3, .string s] 29)).heap.size (w.alloc (.cells #[.bool false, .int .i64 x0, .int .i64 x1, .int .i64 x2, .int .i64 x3, .string s] 29)) ((w.alloc (.cells #[.bool false, .int .i64 x0, .int .i64 x1, .int .i64 x2, .int .i64 x3, .string s] 29)).alloc (.cells #[.int .i64 0, .int .i64 0] 44)) := below_alloc (Below.refl _ _) _
  have hg : IsBlk ((w.alloc (.cells #[.bool false, .int .i64 x0, .int .i64 x1, .int .i64 x2, .int .i64 x3, .string s] 29)).alloc (.cells #[.int .i64 0, .int .i64 0] 44)) (w.alloc (.cells #[.bool false, .int .i64 x0, .int .i64 x1, .int .i64 x2, .int .i64 x3, .string s] 29)).heap.size (.cells #[.int .i64 0, .int .i64 0] 44) := blk_new _ _
  rw [World.size_alloc] at hg
  have HS : Aside0 (Sta w ((w.alloc (.cells #[.bool false, .int .i64 x0, .int .i64 x1, .int .i64 x2, .int .i64 x3, .string s] 29)).alloc (.cells #[.int .i64 0, .int .i64 0] 44)) (fun W => IsBlk W w.heap.size (.cells #[.bool false, .int .i64 x0, .int .i64 x1, .int .i64 x2, .int .i64 x3, .string s] 29) ∧ IsBlk W (w.heap.size + 1) (.cells #[.int .i64 0, .int .i64 0] 44) ∧ Kd.C (Kd.int .u8) W A l.length l)) := ⟨⟨below_step hb1 hb2, ⟨IsBlk.below (blk_new w _) hb2, hg, Kd.C_below (Kd.C_below hr hb1) hb2⟩, keeps_and (keeps_blk _ _) (keeps_and (keeps_blk _ _) (keeps_C _ _ _ _))⟩⟩
  clear hb1 hb2 hg hr
  have n1 := blk_lt HS.out.now.1
  have n2 := blk_lt HS.out.now.2.1
  have c0 : ((w.alloc (.cells #[.bool false, .int .i64 x0, .int .i64 x1, .int .i64 x2, .int .i64 x3, .string s] 29)).alloc (.cells #[.int .i64 0, .int .i64 0] 44)).cell? ⟨w.heap.size, 0, none⟩ = some (.bool false) := HS.out.now.1.cell 0
  have c1 : ((w.alloc (.cells #[.bool false, .int .i64 x0, .int .i64 x1, .int .i64 x2, .int .i64 x3, .string s] 29)).alloc (.cells #[.int .i64 0, .int .i64 0] 44)).cell? ⟨w.heap.size, 1, none⟩ = some (.int .i64 x0) := HS.out.now.1.cell 1
  have c2 : ((w.alloc (.cells #[.bool false, .int .i64 x0, .int .i64 x1, .int .i64 x2, .int .i64 x3, .string s] 29)).alloc (.cells #[.int .i64 0, .int .i64 0] 44)).cell? ⟨w.heap.size, 2, none⟩ = some (.int .i64 x1) := HS.out.now.1.cell 2
  have c3 : ((w.alloc (.cells #[.bool false, .int .i64 x0, .int .i64 x1, .int .i64 x2, .int .i64 x3, .string s] 29)).alloc (.cells #[.int .i64 0, .int .i64 0] 44)).cell? ⟨w.heap.size, 3, none⟩ = some (.int .i64 x2) := HS.out.now.1.cell 3
  have c4 : ((w.alloc (.cells #[.bool false, .int .i64 x0, .int .i64 x1, .int .i64 x2, .int .i64 x3, .string s] 29)).alloc (.cells #[.int .i64 0, .int .i64 0] 44)).cell? ⟨w.heap.size, 4, none⟩ = some (.int .i64 x3) := HS.out.now.1.cell 4
  have c5 : ((w.alloc (.cells #[.bool false, .int .i64 x0, .int .i64 x1, .int .i64 x2, .int .i64 x3, .string s] 29)).alloc (.cells #[.int .i64 0, .int .i64 0] 44)).cell? ⟨w.heap.size, 5, none⟩ = some (.string s) := HS.out.now.1.cell 5
  have k0 : ((w.alloc (.cells #[.bool false, .int .i64 x0, .int .i64 x1, .int .i64 x2, .int .i64 x3, .string s] 29)).alloc (.cells #[.int .i64 0, .int .i64 0] 44)).cell? ⟨w.heap.size + 1, 0, none⟩ = some (.int .i64 0) := HS.out.now.2.1.cell 0
  have f0 := HS.out.now.2.1.frozen 0
  have k1 : ((w.alloc (.cells #[.bool false, .int .i64 x0, .int .i64 x1, .int .i64 x2, .int .i64 x3, .string s] 29)).alloc (.cells #[.int .i64 0, .int .i64 0] 44)).cell? ⟨w.heap.size + 1, 1, none⟩ = some (.int .i64 0) := HS.out.now.2.1.cell 1
  have f1 := HS.out.now.2.1.frozen 1
  have kb := fun W : World => print_bytes (P := Try.prog) 9 22 5 Try.underlying9 Try.underlying22 Try.underlying5 s W
  have HT := Aside0.mk (texts2_f l (bytesOf s) hB (bytesOf_B s) hs (by rw [bytesOf_length]; exact hs2))
  have HC := Aside0.mk hc
  have HBY := Aside0.mk hB
  clear hc hB
  have hkk := Check_f l HBY.out hs (Nat.lt_succ_self _)
  have hv := (chk_V HBY.out).1 hl
  rw [show chk l = ((chk l).1, 0) from Prod.ext rfl hl] at hkk
  rw [hl, ht, if_neg (by simp)] at HT
  have HV := Aside0.mk hv
  have HK := Aside0.mk hkk
  have HMA := Aside0.mk hma
  have HMB := Aside0.mk hmb
  have HME := Aside0.mk hme
  clear hkk hv hma hmb hme hl ht
  have z9 : (er == 0) = false := beq_eq_false_iff_ne.mpr hz
  clear hz
  go_enter Try.func59, Try.ntmps59
  go_upto_region 9 with (first | (go_at_call 51; refine (edit_texts.calls _ _ _ [l, bytesOf s] _ _ (row2_Cm _ _ _ _ _ l (bytesOf s) s.size (bytesOf_length s) (HS.out.step (by repeat (first | exact Below.refl _ _ | apply below_alloc | apply pw_below_drewN | apply below_drew1 | apply bytes_step))).now.2.2 HC.out (bytes_at _ _ s _ (by simp) (by omega)) (grownCap_ge _ _ _ _) _) (Nat.le_refl _) HT.out).mono ?_; rintro e w1 ⟨rfl, hd⟩; have hb := hd.below; clear hd; have m_ := Aside0.mk (HS.out.call (by repeat (first | exact Below.refl _ _ | apply below_alloc | apply pw_below_drewN | apply below_drew1 | apply bytes_step)) hb); clear HS hb ; have HS := m_; clear m_; have n1 := blk_lt HS.out.now.1; have n2 := blk_lt HS.out.now.2.1; have c0 : w1.cell? ⟨w.heap.size, 0, none⟩ = some (.bool false) := HS.out.now.1.cell 0; have c0a := cell_alloc1 c0; have c1 : w1.cell? ⟨w.heap.size, 1, none⟩ = some (.int .i64 x0) := HS.out.now.1.cell 1; have c1a := cell_alloc1 c1; have c2 : w1.cell? ⟨w.heap.size, 2, none⟩ = some (.int .i64 x1) := HS.out.now.1.cell 2; have c2a := cell_alloc1 c2; have c3 : w1.cell? ⟨w.heap.size, 3, none⟩ = some (.int .i64 x2) := HS.out.now.1.cell 3; have c3a := cell_alloc1 c3; have c4 : w1.cell? ⟨w.heap.size, 4, none⟩ = some (.int .i64 x3) := HS.out.now.1.cell 4; have c4a := cell_alloc1 c4; have c5 : w1.cell? ⟨w.heap.size, 5, none⟩ = some (.string s) := HS.out.now.1.cell 5; have c5a := cell_alloc1 c5; have k0 : w1.cell? ⟨w.heap.size + 1, 0, none⟩ = some (.int .i64 0) := HS.out.now.2.1.cell 0; have f0 := HS.out.now.2.1.frozen 0; have k0a := cell_alloc1 k0; have f0a := froz_alloc1 k0 f0; have k1 : w1.cell? ⟨w.heap.size + 1, 1, none⟩ = some (.int .i64 0) := HS.out.now.2.1.cell 1; have f1 := HS.out.now.2.1.frozen 1; have k1a := cell_alloc1 k1; have f1a := froz_alloc1 k1 f1; have HGE := Aside0.mk n2) | (go_at_call 25; refine (MNew_ok _ A c l _ _ (HS.out.step (by repeat (first | exact Below.refl _ _ | apply below_alloc | apply pw_below_drewN | apply below_drew1 | apply bytes_step))).now.2.2 HC.out hn HK.out hs).mono ?_; rintro e w2 ⟨m, rfl, hM, hb⟩; have hbx := IsBlk.below (blk_new w1 (.cells #[.int .i64 0, .int .i64 l.length] 44)) hb; have m_ := Aside0.mk (((HS.out.call (by repeat (first | exact Below.refl _ _ | apply below_alloc | apply pw_below_drewN | apply below_drew1 | apply bytes_step)) hb).add hbx (keeps_blk _ _)).add hM (keeps_map _ _)); clear HS hb hbx hM; have HS := m_; clear m_; have n1 := blk_lt HS.out.now.2.2.1; have n2 := blk_lt HS.out.now.2.2.2.1; have c0 : w2.cell? ⟨w.heap.size, 0, none⟩ = some (.bool false) := HS.out.now.2.2.1.cell 0; have c1 : w2.cell? ⟨w.heap.size, 1, none⟩ = some (.int .i64 x0) := HS.out.now.2.2.1.cell 1; have c2 : w2.cell? ⟨w.heap.size, 2, none⟩ = some (.int .i64 x1) := HS.out.now.2.2.1.cell 2; have c3 : w2.cell? ⟨w.heap.size, 3, none⟩ = some (.int .i64 x2) := HS.out.now.2.2.1.cell 3; have c4 : w2.cell? ⟨w.heap.size, 4, none⟩ = some (.int .i64 x3) := HS.out.now.2.2.1.cell 4; have c5 : w2.cell? ⟨w.heap.size, 5, none⟩ = some (.string s) := HS.out.now.2.2.1.cell 5; have k0 : w2.cell? ⟨w.heap.size + 1, 0, none⟩ = some (.int .i64 0) := HS.out.now.2.2.2.1.cell 0; have f0 := HS.out.now.2.2.2.1.frozen 0; have k1 : w2.cell? ⟨w.heap.size + 1, 1, none⟩ = some (.int .i64 0) := HS.out.now.2.2.2.1.cell 1; have f1 := HS.out.now.2.2.2.1.frozen 1) | (go_at_call 26; refine (MSpan_is m l x0 x1 x2 x3 _ (HS.out.step (by repeat (first | exact Below.refl _ _ | apply below_alloc | apply pw_below_drewN | apply below_drew1 | apply bytes_step))).now.1 hs HBY.out HV.out hx1 hx3).mono ?_; rintro e w3 ⟨rfl, hb⟩; rw [HMA.out, HMB.out, HME.out]; have m_ := Aside0.mk (HS.out.call (by repeat (first | exact Below.refl _ _ | apply below_alloc | apply pw_below_drewN | apply below_drew1 | apply bytes_step)) hb); clear HS hb ; have HS := m_; clear m_; have n1 := blk_lt HS.out.now.2.2.1; have n2 := blk_lt HS.out.now.2.2.2.1; have c0 : w3.cell? ⟨w.heap.size, 0, none⟩ = some (.bool false) := HS.out.now.2.2.1.cell 0; have c1 : w3.cell? ⟨w.heap.size, 1, none⟩ = some (.int .i64 x0) := HS.out.now.2.2.1.cell 1; have c2 : w3.cell? ⟨w.heap.size, 2, none⟩ = some (.int .i64 x1) := HS.out.now.2.2.1.cell 2; have c3 : w3.cell? ⟨w.heap.size, 3, none⟩ = some (.int .i64 x2) := HS.out.now.2.2.1.cell 3; have c4 : w3.cell? ⟨w.heap.size, 4, none⟩ = some (.int .i64 x3) := HS.out.now.2.2.1.cell 4; have c5 : w3.cell? ⟨w.heap.size, 5, none⟩ = some (.string s) := HS.out.now.2.2.1.cell 5; have k0 : w3.cell? ⟨w.heap.size + 1, 0, none⟩ = some (.int .i64 0) := HS.out.now.2.2.2.1.cell 0; have f0 := HS.out.now.2.2.2.1.frozen 0; have k1 : w3.cell? ⟨w.heap.size + 1, 1, none⟩ = some (.int .i64 0) := HS.out.now.2.2.2.1.cell 1; have f1 := HS.out.now.2.2.2.1.frozen 1; have z0 : w3.cell? ⟨w1.heap.size, 0, none⟩ = some (.int .i64 0) := HS.out.now.2.1.cell 0; have z1 : w3.cell? ⟨w1.heap.size, 1, none⟩ = some (.int .i64 l.length) := HS.out.now.2.1.cell 1; have zf0 := HS.out.now.2.1.frozen 0; have zf1 := HS.out.now.2.1.frozen 1))
  have ge8 : w.heap.size + 1 < w1.heap.size := HGE.out
  have ge9 : w.heap.size < w1.heap.size := Nat.lt_of_succ_lt ge8
  have q9 : Below w.heap.size w ((w3.setCell ⟨w1.heap.size, 0, none⟩ (.int .i64 a)).setCell ⟨w1.heap.size, 1, none⟩ (.int .i64 b)) := (HS.out.bel.setCell (Nat.le_of_lt ge9) _).setCell (Nat.le_of_lt ge9) _
  have HS9 : Aside0 (Sta w ((w3.setCell ⟨w1.heap.size, 0, none⟩ (.int .i64 a)).setCell ⟨w1.heap.size, 1, none⟩ (.int .i64 b)) (fun W => IsBlk W w.heap.size (.cells #[.bool false, .int .i64 x0, .int .i64 x1, .int .i64 x2, .int .i64 x3, .string s] 29) ∧ IsBlk W (w.heap.size + 1) (.cells #[.int .i64 0, .int .i64 0] 44) ∧ Kd.C (Kd.int .u8) W A l.length l ∧ IsBlk W w1.heap.size (.cells #[.int .i64 a, .int .i64 b] 44 (0, 0)))) := ⟨⟨q9, ⟨(HS.out.now.2.2.1.other (Nat.ne_of_lt ge9) _).other (Nat.ne_of_lt ge9) _, (HS.out.now.2.2.2.1.other (Nat.ne_of_lt ge8) _).other (Nat.ne_of_lt ge8) _, Kd.C_below HRW.out q9, blk2 HS.out.now.2.1 _ _⟩, keeps_and (keeps_blk _ _) (keeps_and (keeps_blk _ _) (keeps_and (keeps_C _ _ _ _) (keeps_blk _ _)))⟩⟩
  clear HS q9 HT
  clear c0 c1 c2 c3 c4 c5 k0 k1 f0 f1 n1 n2 z0 z1 zf0 zf1 HRW HGE
  generalize ((w3.setCell ⟨w1.heap.size, 0, none⟩ (.int .i64 a)).setCell ⟨w1.heap.size, 1, none⟩ (.int .i64 b)) = W9 at HS9 ⊢
  generalize w1.heap.size = b8 at HS9 ge8 ge9 ⊢
  have HS := HS9
  clear HS9
  have n1 := blk_lt HS.out.now.1
  have n2 := blk_lt HS.out.now.2.1
  have c0 : W9.cell? ⟨w.heap.size, 0, none⟩ = some (.bool false) := HS.out.now.1.cell 0
  have c1 : W9.cell? ⟨w.heap.size, 1, none⟩ = some (.int .i64 x0) := HS.out.now.1.cell 1
  have c2 : W9.cell? ⟨w.heap.size, 2, none⟩ = some (.int .i64 x1) := HS.out.now.1.cell 2
  have c3 : W9.cell? ⟨w.heap.size, 3, none⟩ = some (.int .i64 x2) := HS.out.now.1.cell 3
  have c4 : W9.cell? ⟨w.heap.size, 4, none⟩ = some (.int .i64 x3) := HS.out.now.1.cell 4
  have c5 : W9.cell? ⟨w.heap.size, 5, none⟩ = some (.string s) := HS.out.now.1.cell 5
  have k0 : W9.cell? ⟨w.heap.size + 1, 0, none⟩ = some (.int .i64 0) := HS.out.now.2.1.cell 0
  have f0 := HS.out.now.2.1.frozen 0
  have k1 : W9.cell? ⟨w.heap.size + 1, 1, none⟩ = some (.int .i64 0) := HS.out.now.2.1.cell 1
  have f1 := HS.out.now.2.1.frozen 1
  by_cases h2 : er = 2
  · obtain rfl : ew = 150 := by rw [hew, if_pos h2]
    subst h2
    clear hew
    go_wp2
    all_goals try (go_step3; go_wp2)
    first | rw [Exit.noGoto_ret] | skip
    refine bodyPost_ret (v := .tuple #[.agg #[.int .i64 0, .int .i64 0], .slice none 0 0, .int .i64 150]) (by simp [results, Try.results59, go_sem, *]) rfl ⟨_, rfl, Kd.R_nil _ _ _ _ _, ?_⟩
    have hS := HS.out.bel
    repeat (first | exact hS | apply below_alloc | apply pw_below_drewN | apply below_drew1 | refine Below.setCell ?_ (by simp) _)
  · obtain rfl : ew = er := by rw [hew, if_neg h2]
    have z2 : (ew == 2) = false := beq_eq_false_iff_ne.mpr h2
    clear hew h2
    go_wp2
    all_goals try (go_step3; go_wp2)
    first | rw [Exit.noGoto_ret] | skip
    refine bodyPost_ret (v := .tuple #[.agg #[.int .i64 0, .int .i64 0], .slice none 0 0, .int .i64 ew]) (by simp [results, Try.results59, go_sem, *]) rfl ⟨_, rfl, Kd.R_nil _ _ _ _ _, ?_⟩
    have hS := HS.out.bel
    repeat (first | exact hS | apply below_alloc | apply pw_below_drewN | apply below_drew1 | refine Below.setCell ?_ (by simp) _)
set_option maxRecDepth 100000 in
set_option maxHeartbeats 2000000 in
theorem change_range_no (A : Option Addr) (c : Nat) (l : List Int) (x0 x1 x2 x3 : Int) (s : ByteArray) (w : World) (hr : Kd.C (Kd.int .u8) w A l.length l) (hc : l.length ≤ c) (hB : Bytes l) (hs : l.length ≤ 1048576) (hs2 : s.size ≤ 140737488351232) (hn : A = none → c = 0) (hx1 : x1 ≤ 9223372036854775807) (hx3 : x3 ≤ 9223372036854775807) (hl : (chk l).2 = 0) (ht : (chk (bytesOf s)).2 = 0) (a b : Int) (hma : (msp l x0 x1 x2 x3).1 = a) (hmb : (msp l x0 x1 x2 x3).2.1 = b) (hme : (msp l x0 x1 x2 x3).2.2 = 0) (ha0 : 0 ≤ a) (hab : a ≤ b) (hbl : b ≤ l.length) (hlim : 8192 < (l.length : Int) - (b - a) + s.size) :
    Calls Try.prog 59 #[.slice A l.length c, .agg #[.bool false, .int .i64 x0, .int .i64 x1, .int .i64 x2, .int .i64 x3, .string s]] w fun e w' => ∃ v : Value, e = .returned (.tuple #[.agg #[.int .i64 0, .int .i64 0], v, .int .i64 5]) ∧ Kd.R (Kd.int .u8) 5 w' w.heap.size (fun _ => True) v [] ∧ Below w.heap.size w w' := by
  have HRW := Aside0.mk hr
  have hb1 := below_alloc (Below.refl _ w) (.cells #[.bool false, .int .i64 x0, .int .i64 x1, .int .i64 x2, .int .i64 x3, .string s] 29)
  have hb2 : Below (w.alloc (.cells #[.bool false, .int .i64 x0, .int .i64 x1, .int .i64 x2, .int .i64 x3, .string s] 29)).heap.size (w.alloc (.cells #[.bool false, .int .i64 x0, .int .i64 x1, .int .i64 x2, .int .i64 x3, .string s] 29)) ((w.alloc (.cells #[.bool false, .int .i64 x0, .int .i64 x1, .int .i64 x2, .int .i64 x3, .string s] 29)).alloc (.cells #[.int .i64 0, .int .i64 0] 44)) := below_alloc (Below.refl _ _) _
  have hg : IsBlk ((w.alloc (.cells #[.bool false, .int .i64 x0, .int .i64 x1, .int .i64 x2, .int .i64 x3, .string s] 29)).alloc (.cells #[.int .i64 0, .int .i64 0] 44)) (w.alloc (.cells #[.bool false, .int .i64 x0, .int .i64 x1, .int .i64 x2, .int .i64 x3, .string s] 29)).heap.size (.cells #[.int .i64 0, .int .i64 0] 44) := blk_new _ _
  rw [World.size_alloc] at hg
  have HS : Aside0 (Sta w ((w.alloc (.cells #[.bool false, .int .i64 x0, .int .i64 x1, .int .i64 x2, .int .i64 x3, .string s] 29)).alloc (.cells #[.int .i64 0, .int .i64 0] 44)) (fun W => IsBlk W w.heap.size (.cells #[.bool false, .int .i64 x0, .int .i64 x1, .int .i64 x2, .int .i64 x3, .string s] 29) ∧ IsBlk W (w.heap.size + 1) (.cells #[.int .i64 0, .int .i64 0] 44) ∧ Kd.C (Kd.int .u8) W A l.length l)) := ⟨⟨below_step hb1 hb2, ⟨IsBlk.below (blk_new w _) hb2, hg, Kd.C_below (Kd.C_below hr hb1) hb2⟩, keeps_and (keeps_blk _ _) (keeps_and (keeps_blk _ _) (keeps_C _ _ _ _))⟩⟩
  clear hb1 hb2 hg hr
  have n1 := blk_lt HS.out.now.1
  have n2 := blk_lt HS.out.now.2.1
  have c0 : ((w.alloc (.cells #[.bool false, .int .i64 x0, .int .i64 x1, .int .i64 x2, .int .i64 x3, .string s] 29)).alloc (.cells #[.int .i64 0, .int .i64 0] 44)).cell? ⟨w.heap.size, 0, none⟩ = some (.bool false) := HS.out.now.1.cell 0
  have c1 : ((w.alloc (.cells #[.bool false, .int .i64 x0, .int .i64 x1, .int .i64 x2, .int .i64 x3, .string s] 29)).alloc (.cells #[.int .i64 0, .int .i64 0] 44)).cell? ⟨w.heap.size, 1, none⟩ = some (.int .i64 x0) := HS.out.now.1.cell 1
  have c2 : ((w.alloc (.cells #[.bool false, .int .i64 x0, .int .i64 x1, .int .i64 x2, .int .i64 x3, .string s] 29)).alloc (.cells #[.int .i64 0, .int .i64 0] 44)).cell? ⟨w.heap.size, 2, none⟩ = some (.int .i64 x1) := HS.out.now.1.cell 2
  have c3 : ((w.alloc (.cells #[.bool false, .int .i64 x0, .int .i64 x1, .int .i64 x2, .int .i64 x3, .string s] 29)).alloc (.cells #[.int .i64 0, .int .i64 0] 44)).cell? ⟨w.heap.size, 3, none⟩ = some (.int .i64 x2) := HS.out.now.1.cell 3
  have c4 : ((w.alloc (.cells #[.bool false, .int .i64 x0, .int .i64 x1, .int .i64 x2, .int .i64 x3, .string s] 29)).alloc (.cells #[.int .i64 0, .int .i64 0] 44)).cell? ⟨w.heap.size, 4, none⟩ = some (.int .i64 x3) := HS.out.now.1.cell 4
  have c5 : ((w.alloc (.cells #[.bool false, .int .i64 x0, .int .i64 x1, .int .i64 x2, .int .i64 x3, .string s] 29)).alloc (.cells #[.int .i64 0, .int .i64 0] 44)).cell? ⟨w.heap.size, 5, none⟩ = some (.string s) := HS.out.now.1.cell 5
  have k0 : ((w.alloc (.cells #[.bool false, .int .i64 x0, .int .i64 x1, .int .i64 x2, .int .i64 x3, .string s] 29)).alloc (.cells #[.int .i64 0, .int .i64 0] 44)).cell? ⟨w.heap.size + 1, 0, none⟩ = some (.int .i64 0) := HS.out.now.2.1.cell 0
  have f0 := HS.out.now.2.1.frozen 0
  have k1 : ((w.alloc (.cells #[.bool false, .int .i64 x0, .int .i64 x1, .int .i64 x2, .int .i64 x3, .string s] 29)).alloc (.cells #[.int .i64 0, .int .i64 0] 44)).cell? ⟨w.heap.size + 1, 1, none⟩ = some (.int .i64 0) := HS.out.now.2.1.cell 1
  have f1 := HS.out.now.2.1.frozen 1
  have kb := fun W : World => print_bytes (P := Try.prog) 9 22 5 Try.underlying9 Try.underlying22 Try.underlying5 s W
  have HT := Aside0.mk (texts2_f l (bytesOf s) hB (bytesOf_B s) hs (by rw [bytesOf_length]; exact hs2))
  have HC := Aside0.mk hc
  have HBY := Aside0.mk hB
  clear hc hB
  have hkk := Check_f l HBY.out hs (Nat.lt_succ_self _)
  have hv := (chk_V HBY.out).1 hl
  rw [show chk l = ((chk l).1, 0) from Prod.ext rfl hl] at hkk
  rw [hl, ht, if_neg (by simp)] at HT
  have HV := Aside0.mk hv
  have HK := Aside0.mk hkk
  have HMA := Aside0.mk hma
  have HMB := Aside0.mk hmb
  have HME := Aside0.mk hme
  clear hkk hv hma hmb hme hl ht
  go_enter Try.func59, Try.ntmps59
  go_upto_region 9 with (first | (go_at_call 51; refine (edit_texts.calls _ _ _ [l, bytesOf s] _ _ (row2_Cm _ _ _ _ _ l (bytesOf s) s.size (bytesOf_length s) (HS.out.step (by repeat (first | exact Below.refl _ _ | apply below_alloc | apply pw_below_drewN | apply below_drew1 | apply bytes_step))).now.2.2 HC.out (bytes_at _ _ s _ (by simp) (by omega)) (grownCap_ge _ _ _ _) _) (Nat.le_refl _) HT.out).mono ?_; rintro e w1 ⟨rfl, hd⟩; have hb := hd.below; clear hd; have m_ := Aside0.mk (HS.out.call (by repeat (first | exact Below.refl _ _ | apply below_alloc | apply pw_below_drewN | apply below_drew1 | apply bytes_step)) hb); clear HS hb ; have HS := m_; clear m_; have n1 := blk_lt HS.out.now.1; have n2 := blk_lt HS.out.now.2.1; have c0 : w1.cell? ⟨w.heap.size, 0, none⟩ = some (.bool false) := HS.out.now.1.cell 0; have c0a := cell_alloc1 c0; have c1 : w1.cell? ⟨w.heap.size, 1, none⟩ = some (.int .i64 x0) := HS.out.now.1.cell 1; have c1a := cell_alloc1 c1; have c2 : w1.cell? ⟨w.heap.size, 2, none⟩ = some (.int .i64 x1) := HS.out.now.1.cell 2; have c2a := cell_alloc1 c2; have c3 : w1.cell? ⟨w.heap.size, 3, none⟩ = some (.int .i64 x2) := HS.out.now.1.cell 3; have c3a := cell_alloc1 c3; have c4 : w1.cell? ⟨w.heap.size, 4, none⟩ = some (.int .i64 x3) := HS.out.now.1.cell 4; have c4a := cell_alloc1 c4; have c5 : w1.cell? ⟨w.heap.size, 5, none⟩ = some (.string s) := HS.out.now.1.cell 5; have c5a := cell_alloc1 c5; have k0 : w1.cell? ⟨w.heap.size + 1, 0, none⟩ = some (.int .i64 0) := HS.out.now.2.1.cell 0; have f0 := HS.out.now.2.1.frozen 0; have k0a := cell_alloc1 k0; have f0a := froz_alloc1 k0 f0; have k1 : w1.cell? ⟨w.heap.size + 1, 1, none⟩ = some (.int .i64 0) := HS.out.now.2.1.cell 1; have f1 := HS.out.now.2.1.frozen 1; have k1a := cell_alloc1 k1; have f1a := froz_alloc1 k1 f1; have HGE := Aside0.mk n2) | (go_at_call 25; refine (MNew_ok _ A c l _ _ (HS.out.step (by repeat (first | exact Below.refl _ _ | apply below_alloc | apply pw_below_drewN | apply below_drew1 | apply bytes_step))).now.2.2 HC.out hn HK.out hs).mono ?_; rintro e w2 ⟨m, rfl, hM, hb⟩; have hbx := IsBlk.below (blk_new w1 (.cells #[.int .i64 0, .int .i64 l.length] 44)) hb; have m_ := Aside0.mk (((HS.out.call (by repeat (first | exact Below.refl _ _ | apply below_alloc | apply pw_below_drewN | apply below_drew1 | apply bytes_step)) hb).add hbx (keeps_blk _ _)).add hM (keeps_map _ _)); clear HS hb hbx hM; have HS := m_; clear m_; have n1 := blk_lt HS.out.now.2.2.1; have n2 := blk_lt HS.out.now.2.2.2.1; have c0 : w2.cell? ⟨w.heap.size, 0, none⟩ = some (.bool false) := HS.out.now.2.2.1.cell 0; have c1 : w2.cell? ⟨w.heap.size, 1, none⟩ = some (.int .i64 x0) := HS.out.now.2.2.1.cell 1; have c2 : w2.cell? ⟨w.heap.size, 2, none⟩ = some (.int .i64 x1) := HS.out.now.2.2.1.cell 2; have c3 : w2.cell? ⟨w.heap.size, 3, none⟩ = some (.int .i64 x2) := HS.out.now.2.2.1.cell 3; have c4 : w2.cell? ⟨w.heap.size, 4, none⟩ = some (.int .i64 x3) := HS.out.now.2.2.1.cell 4; have c5 : w2.cell? ⟨w.heap.size, 5, none⟩ = some (.string s) := HS.out.now.2.2.1.cell 5; have k0 : w2.cell? ⟨w.heap.size + 1, 0, none⟩ = some (.int .i64 0) := HS.out.now.2.2.2.1.cell 0; have f0 := HS.out.now.2.2.2.1.frozen 0; have k1 : w2.cell? ⟨w.heap.size + 1, 1, none⟩ = some (.int .i64 0) := HS.out.now.2.2.2.1.cell 1; have f1 := HS.out.now.2.2.2.1.frozen 1) | (go_at_call 26; refine (MSpan_is m l x0 x1 x2 x3 _ (HS.out.step (by repeat (first | exact Below.refl _ _ | apply below_alloc | apply pw_below_drewN | apply below_drew1 | apply bytes_step))).now.1 hs HBY.out HV.out hx1 hx3).mono ?_; rintro e w3 ⟨rfl, hb⟩; rw [HMA.out, HMB.out, HME.out]; have m_ := Aside0.mk (HS.out.call (by repeat (first | exact Below.refl _ _ | apply below_alloc | apply pw_below_drewN | apply below_drew1 | apply bytes_step)) hb); clear HS hb ; have HS := m_; clear m_; have n1 := blk_lt HS.out.now.2.2.1; have n2 := blk_lt HS.out.now.2.2.2.1; have c0 : w3.cell? ⟨w.heap.size, 0, none⟩ = some (.bool false) := HS.out.now.2.2.1.cell 0; have c1 : w3.cell? ⟨w.heap.size, 1, none⟩ = some (.int .i64 x0) := HS.out.now.2.2.1.cell 1; have c2 : w3.cell? ⟨w.heap.size, 2, none⟩ = some (.int .i64 x1) := HS.out.now.2.2.1.cell 2; have c3 : w3.cell? ⟨w.heap.size, 3, none⟩ = some (.int .i64 x2) := HS.out.now.2.2.1.cell 3; have c4 : w3.cell? ⟨w.heap.size, 4, none⟩ = some (.int .i64 x3) := HS.out.now.2.2.1.cell 4; have c5 : w3.cell? ⟨w.heap.size, 5, none⟩ = some (.string s) := HS.out.now.2.2.1.cell 5; have k0 : w3.cell? ⟨w.heap.size + 1, 0, none⟩ = some (.int .i64 0) := HS.out.now.2.2.2.1.cell 0; have f0 := HS.out.now.2.2.2.1.frozen 0; have k1 : w3.cell? ⟨w.heap.size + 1, 1, none⟩ = some (.int .i64 0) := HS.out.now.2.2.2.1.cell 1; have f1 := HS.out.now.2.2.2.1.frozen 1; have z0 : w3.cell? ⟨w1.heap.size, 0, none⟩ = some (.int .i64 0) := HS.out.now.2.1.cell 0; have z1 : w3.cell? ⟨w1.heap.size, 1, none⟩ = some (.int .i64 l.length) := HS.out.now.2.1.cell 1; have zf0 := HS.out.now.2.1.frozen 0; have zf1 := HS.out.now.2.1.frozen 1))
  have ge8 : w.heap.size + 1 < w1.heap.size := HGE.out
  have ge9 : w.heap.size < w1.heap.size := Nat.lt_of_succ_lt ge8
  have q9 : Below w.heap.size w ((w3.setCell ⟨w1.heap.size, 0, none⟩ (.int .i64 a)).setCell ⟨w1.heap.size, 1, none⟩ (.int .i64 b)) := (HS.out.bel.setCell (Nat.le_of_lt ge9) _).setCell (Nat.le_of_lt ge9) _
  have HS9 : Aside0 (Sta w ((w3.setCell ⟨w1.heap.size, 0, none⟩ (.int .i64 a)).setCell ⟨w1.heap.size, 1, none⟩ (.int .i64 b)) (fun W => IsBlk W w.heap.size (.cells #[.bool false, .int .i64 x0, .int .i64 x1, .int .i64 x2, .int .i64 x3, .string s] 29) ∧ IsBlk W (w.heap.size + 1) (.cells #[.int .i64 0, .int .i64 0] 44) ∧ Kd.C (Kd.int .u8) W A l.length l ∧ IsBlk W w1.heap.size (.cells #[.int .i64 a, .int .i64 b] 44 (0, 0)))) := ⟨⟨q9, ⟨(HS.out.now.2.2.1.other (Nat.ne_of_lt ge9) _).other (Nat.ne_of_lt ge9) _, (HS.out.now.2.2.2.1.other (Nat.ne_of_lt ge8) _).other (Nat.ne_of_lt ge8) _, Kd.C_below HRW.out q9, blk2 HS.out.now.2.1 _ _⟩, keeps_and (keeps_blk _ _) (keeps_and (keeps_blk _ _) (keeps_and (keeps_C _ _ _ _) (keeps_blk _ _)))⟩⟩
  clear HS q9 HT
  clear c0 c1 c2 c3 c4 c5 k0 k1 f0 f1 n1 n2 z0 z1 zf0 zf1 HRW HGE
  generalize ((w3.setCell ⟨w1.heap.size, 0, none⟩ (.int .i64 a)).setCell ⟨w1.heap.size, 1, none⟩ (.int .i64 b)) = W9 at HS9 ⊢
  generalize w1.heap.size = b8 at HS9 ge8 ge9 ⊢
  have HS := HS9
  clear HS9
  have n1 := blk_lt HS.out.now.1
  have n2 := blk_lt HS.out.now.2.1
  have c0 : W9.cell? ⟨w.heap.size, 0, none⟩ = some (.bool false) := HS.out.now.1.cell 0
  have c1 : W9.cell? ⟨w.heap.size, 1, none⟩ = some (.int .i64 x0) := HS.out.now.1.cell 1
  have c2 : W9.cell? ⟨w.heap.size, 2, none⟩ = some (.int .i64 x1) := HS.out.now.1.cell 2
  have c3 : W9.cell? ⟨w.heap.size, 3, none⟩ = some (.int .i64 x2) := HS.out.now.1.cell 3
  have c4 : W9.cell? ⟨w.heap.size, 4, none⟩ = some (.int .i64 x3) := HS.out.now.1.cell 4
  have c5 : W9.cell? ⟨w.heap.size, 5, none⟩ = some (.string s) := HS.out.now.1.cell 5
  have k0 : W9.cell? ⟨w.heap.size + 1, 0, none⟩ = some (.int .i64 0) := HS.out.now.2.1.cell 0
  have f0 := HS.out.now.2.1.frozen 0
  have k1 : W9.cell? ⟨w.heap.size + 1, 1, none⟩ = some (.int .i64 0) := HS.out.now.2.1.cell 1
  have f1 := HS.out.now.2.1.frozen 1
  have q0 : W9.cell? ⟨b8, 0, none⟩ = some (.int .i64 a) := HS.out.now.2.2.2.cell 0
  have q1 : W9.cell? ⟨b8, 1, none⟩ = some (.int .i64 b) := HS.out.now.2.2.2.cell 1
  have g9 : decide (8192 < (l.length : Int) - (b - a) + s.size) = true := decide_eq_true (by omega)
  go_wp2
  all_goals try (go_step3; go_wp2)
  first | rw [Exit.noGoto_ret] | skip
  refine bodyPost_ret (v := .tuple #[.agg #[.int .i64 0, .int .i64 0], .slice none 0 0, .int .i64 5]) (by simp [results, Try.results59, go_sem, *]) rfl ⟨_, rfl, Kd.R_nil _ _ _ _ _, ?_⟩
  have hS := HS.out.bel
  repeat (first | exact hS | apply below_alloc | apply pw_below_drewN | apply below_drew1 | refine Below.setCell ?_ (by simp) _)
set_option maxRecDepth 100000 in
set_option maxHeartbeats 2000000 in
theorem change_range_ok (A : Option Addr) (c : Nat) (l : List Int) (x0 x1 x2 x3 : Int) (s : ByteArray) (w : World) (hr : Kd.C (Kd.int .u8) w A l.length l) (hc : l.length ≤ c) (hB : Bytes l) (hs : l.length ≤ 1048576) (hs2 : s.size ≤ 140737488351232) (hn : A = none → c = 0) (hx1 : x1 ≤ 9223372036854775807) (hx3 : x3 ≤ 9223372036854775807) (hl : (chk l).2 = 0) (ht : (chk (bytesOf s)).2 = 0) (a b : Int) (hma : (msp l x0 x1 x2 x3).1 = a) (hmb : (msp l x0 x1 x2 x3).2.1 = b) (hme : (msp l x0 x1 x2 x3).2.2 = 0) (ha0 : 0 ≤ a) (hab : a ≤ b) (hbl : b ≤ l.length) (hlim : ¬ 8192 < (l.length : Int) - (b - a) + s.size) :
    Calls Try.prog 59 #[.slice A l.length c, .agg #[.bool false, .int .i64 x0, .int .i64 x1, .int .i64 x2, .int .i64 x3, .string s]] w fun e w' => ∃ v : Value, e = .returned (.tuple #[.agg #[.int .i64 a, .int .i64 b], v, .int .i64 0]) ∧ Kd.R (Kd.int .u8) 5 w' w.heap.size (fun _ => True) v (l.take a.toNat ++ bytesOf s ++ l.drop b.toNat) ∧ Below w.heap.size w w' := by
  have HRW := Aside0.mk hr
  have hb1 := below_alloc (Below.refl _ w) (.cells #[.bool false, .int .i64 x0, .int .i64 x1, .int .i64 x2, .int .i64 x3, .string s] 29)
  have hb2 : Below (w.alloc (.cells #[.bool false, .int .i64 x0, .int .i64 x1, .int .i64 x2, .int .i64 x3, .string s] 29)).heap.size (w.alloc (.cells #[.bool false, .int .i64 x0, .int .i64 x1, .int .i64 x2, .int .i64 x3, .string s] 29)) ((w.alloc (.cells #[.bool false, .int .i64 x0, .int .i64 x1, .int .i64 x2, .int .i64 x3, .string s] 29)).alloc (.cells #[.int .i64 0, .int .i64 0] 44)) := below_alloc (Below.refl _ _) _
  have hg : IsBlk ((w.alloc (.cells #[.bool false, .int .i64 x0, .int .i64 x1, .int .i64 x2, .int .i64 x3, .string s] 29)).alloc (.cells #[.int .i64 0, .int .i64 0] 44)) (w.alloc (.cells #[.bool false, .int .i64 x0, .int .i64 x1, .int .i64 x2, .int .i64 x3, .string s] 29)).heap.size (.cells #[.int .i64 0, .int .i64 0] 44) := blk_new _ _
  rw [World.size_alloc] at hg
  have HS : Aside0 (Sta w ((w.alloc (.cells #[.bool false, .int .i64 x0, .int .i64 x1, .int .i64 x2, .int .i64 x3, .string s] 29)).alloc (.cells #[.int .i64 0, .int .i64 0] 44)) (fun W => IsBlk W w.heap.size (.cells #[.bool false, .int .i64 x0, .int .i64 x1, .int .i64 x2, .int .i64 x3, .string s] 29) ∧ IsBlk W (w.heap.size + 1) (.cells #[.int .i64 0, .int .i64 0] 44) ∧ Kd.C (Kd.int .u8) W A l.length l)) := ⟨⟨below_step hb1 hb2, ⟨IsBlk.below (blk_new w _) hb2, hg, Kd.C_below (Kd.C_below hr hb1) hb2⟩, keeps_and (keeps_blk _ _) (keeps_and (keeps_blk _ _) (keeps_C _ _ _ _))⟩⟩
  clear hb1 hb2 hg hr
  have n1 := blk_lt HS.out.now.1
  have n2 := blk_lt HS.out.now.2.1
  have c0 : ((w.alloc (.cells #[.bool false, .int .i64 x0, .int .i64 x1, .int .i64 x2, .int .i64 x3, .string s] 29)).alloc (.cells #[.int .i64 0, .int .i64 0] 44)).cell? ⟨w.heap.size, 0, none⟩ = some (.bool false) := HS.out.now.1.cell 0
  have c1 : ((w.alloc (.cells #[.bool false, .int .i64 x0, .int .i64 x1, .int .i64 x2, .int .i64 x3, .string s] 29)).alloc (.cells #[.int .i64 0, .int .i64 0] 44)).cell? ⟨w.heap.size, 1, none⟩ = some (.int .i64 x0) := HS.out.now.1.cell 1
  have c2 : ((w.alloc (.cells #[.bool false, .int .i64 x0, .int .i64 x1, .int .i64 x2, .int .i64 x3, .string s] 29)).alloc (.cells #[.int .i64 0, .int .i64 0] 44)).cell? ⟨w.heap.size, 2, none⟩ = some (.int .i64 x1) := HS.out.now.1.cell 2
  have c3 : ((w.alloc (.cells #[.bool false, .int .i64 x0, .int .i64 x1, .int .i64 x2, .int .i64 x3, .string s] 29)).alloc (.cells #[.int .i64 0, .int .i64 0] 44)).cell? ⟨w.heap.size, 3, none⟩ = some (.int .i64 x2) := HS.out.now.1.cell 3
  have c4 : ((w.alloc (.cells #[.bool false, .int .i64 x0, .int .i64 x1, .int .i64 x2, .int .i64 x3, .string s] 29)).alloc (.cells #[.int .i64 0, .int .i64 0] 44)).cell? ⟨w.heap.size, 4, none⟩ = some (.int .i64 x3) := HS.out.now.1.cell 4
  have c5 : ((w.alloc (.cells #[.bool false, .int .i64 x0, .int .i64 x1, .int .i64 x2, .int .i64 x3, .string s] 29)).alloc (.cells #[.int .i64 0, .int .i64 0] 44)).cell? ⟨w.heap.size, 5, none⟩ = some (.string s) := HS.out.now.1.cell 5
  have k0 : ((w.alloc (.cells #[.bool false, .int .i64 x0, .int .i64 x1, .int .i64 x2, .int .i64 x3, .string s] 29)).alloc (.cells #[.int .i64 0, .int .i64 0] 44)).cell? ⟨w.heap.size + 1, 0, none⟩ = some (.int .i64 0) := HS.out.now.2.1.cell 0
  have f0 := HS.out.now.2.1.frozen 0
  have k1 : ((w.alloc (.cells #[.bool false, .int .i64 x0, .int .i64 x1, .int .i64 x2, .int .i64 x3, .string s] 29)).alloc (.cells #[.int .i64 0, .int .i64 0] 44)).cell? ⟨w.heap.size + 1, 1, none⟩ = some (.int .i64 0) := HS.out.now.2.1.cell 1
  have f1 := HS.out.now.2.1.frozen 1
  have kb := fun W : World => print_bytes (P := Try.prog) 9 22 5 Try.underlying9 Try.underlying22 Try.underlying5 s W
  have HT := Aside0.mk (texts2_f l (bytesOf s) hB (bytesOf_B s) hs (by rw [bytesOf_length]; exact hs2))
  have HC := Aside0.mk hc
  have HBY := Aside0.mk hB
  clear hc hB
  have hkk := Check_f l HBY.out hs (Nat.lt_succ_self _)
  have hv := (chk_V HBY.out).1 hl
  rw [show chk l = ((chk l).1, 0) from Prod.ext rfl hl] at hkk
  rw [hl, ht, if_neg (by simp)] at HT
  have HV := Aside0.mk hv
  have HK := Aside0.mk hkk
  have HMA := Aside0.mk hma
  have HMB := Aside0.mk hmb
  have HME := Aside0.mk hme
  clear hkk hv hma hmb hme hl ht
  go_enter Try.func59, Try.ntmps59
  go_upto_region 9 with (first | (go_at_call 51; refine (edit_texts.calls _ _ _ [l, bytesOf s] _ _ (row2_Cm _ _ _ _ _ l (bytesOf s) s.size (bytesOf_length s) (HS.out.step (by repeat (first | exact Below.refl _ _ | apply below_alloc | apply pw_below_drewN | apply below_drew1 | apply bytes_step))).now.2.2 HC.out (bytes_at _ _ s _ (by simp) (by omega)) (grownCap_ge _ _ _ _) _) (Nat.le_refl _) HT.out).mono ?_; rintro e w1 ⟨rfl, hd⟩; have hb := hd.below; clear hd; have m_ := Aside0.mk (HS.out.call (by repeat (first | exact Below.refl _ _ | apply below_alloc | apply pw_below_drewN | apply below_drew1 | apply bytes_step)) hb); clear HS hb ; have HS := m_; clear m_; have n1 := blk_lt HS.out.now.1; have n2 := blk_lt HS.out.now.2.1; have c0 : w1.cell? ⟨w.heap.size, 0, none⟩ = some (.bool false) := HS.out.now.1.cell 0; have c0a := cell_alloc1 c0; have c1 : w1.cell? ⟨w.heap.size, 1, none⟩ = some (.int .i64 x0) := HS.out.now.1.cell 1; have c1a := cell_alloc1 c1; have c2 : w1.cell? ⟨w.heap.size, 2, none⟩ = some (.int .i64 x1) := HS.out.now.1.cell 2; have c2a := cell_alloc1 c2; have c3 : w1.cell? ⟨w.heap.size, 3, none⟩ = some (.int .i64 x2) := HS.out.now.1.cell 3; have c3a := cell_alloc1 c3; have c4 : w1.cell? ⟨w.heap.size, 4, none⟩ = some (.int .i64 x3) := HS.out.now.1.cell 4; have c4a := cell_alloc1 c4; have c5 : w1.cell? ⟨w.heap.size, 5, none⟩ = some (.string s) := HS.out.now.1.cell 5; have c5a := cell_alloc1 c5; have k0 : w1.cell? ⟨w.heap.size + 1, 0, none⟩ = some (.int .i64 0) := HS.out.now.2.1.cell 0; have f0 := HS.out.now.2.1.frozen 0; have k0a := cell_alloc1 k0; have f0a := froz_alloc1 k0 f0; have k1 : w1.cell? ⟨w.heap.size + 1, 1, none⟩ = some (.int .i64 0) := HS.out.now.2.1.cell 1; have f1 := HS.out.now.2.1.frozen 1; have k1a := cell_alloc1 k1; have f1a := froz_alloc1 k1 f1; have HGE := Aside0.mk n2) | (go_at_call 25; refine (MNew_ok _ A c l _ _ (HS.out.step (by repeat (first | exact Below.refl _ _ | apply below_alloc | apply pw_below_drewN | apply below_drew1 | apply bytes_step))).now.2.2 HC.out hn HK.out hs).mono ?_; rintro e w2 ⟨m, rfl, hM, hb⟩; have hbx := IsBlk.below (blk_new w1 (.cells #[.int .i64 0, .int .i64 l.length] 44)) hb; have m_ := Aside0.mk (((HS.out.call (by repeat (first | exact Below.refl _ _ | apply below_alloc | apply pw_below_drewN | apply below_drew1 | apply bytes_step)) hb).add hbx (keeps_blk _ _)).add hM (keeps_map _ _)); clear HS hb hbx hM; have HS := m_; clear m_; have n1 := blk_lt HS.out.now.2.2.1; have n2 := blk_lt HS.out.now.2.2.2.1; have c0 : w2.cell? ⟨w.heap.size, 0, none⟩ = some (.bool false) := HS.out.now.2.2.1.cell 0; have c1 : w2.cell? ⟨w.heap.size, 1, none⟩ = some (.int .i64 x0) := HS.out.now.2.2.1.cell 1; have c2 : w2.cell? ⟨w.heap.size, 2, none⟩ = some (.int .i64 x1) := HS.out.now.2.2.1.cell 2; have c3 : w2.cell? ⟨w.heap.size, 3, none⟩ = some (.int .i64 x2) := HS.out.now.2.2.1.cell 3; have c4 : w2.cell? ⟨w.heap.size, 4, none⟩ = some (.int .i64 x3) := HS.out.now.2.2.1.cell 4; have c5 : w2.cell? ⟨w.heap.size, 5, none⟩ = some (.string s) := HS.out.now.2.2.1.cell 5; have k0 : w2.cell? ⟨w.heap.size + 1, 0, none⟩ = some (.int .i64 0) := HS.out.now.2.2.2.1.cell 0; have f0 := HS.out.now.2.2.2.1.frozen 0; have k1 : w2.cell? ⟨w.heap.size + 1, 1, none⟩ = some (.int .i64 0) := HS.out.now.2.2.2.1.cell 1; have f1 := HS.out.now.2.2.2.1.frozen 1) | (go_at_call 26; refine (MSpan_is m l x0 x1 x2 x3 _ (HS.out.step (by repeat (first | exact Below.refl _ _ | apply below_alloc | apply pw_below_drewN | apply below_drew1 | apply bytes_step))).now.1 hs HBY.out HV.out hx1 hx3).mono ?_; rintro e w3 ⟨rfl, hb⟩; rw [HMA.out, HMB.out, HME.out]; have m_ := Aside0.mk (HS.out.call (by repeat (first | exact Below.refl _ _ | apply below_alloc | apply pw_below_drewN | apply below_drew1 | apply bytes_step)) hb); clear HS hb ; have HS := m_; clear m_; have n1 := blk_lt HS.out.now.2.2.1; have n2 := blk_lt HS.out.now.2.2.2.1; have c0 : w3.cell? ⟨w.heap.size, 0, none⟩ = some (.bool false) := HS.out.now.2.2.1.cell 0; have c1 : w3.cell? ⟨w.heap.size, 1, none⟩ = some (.int .i64 x0) := HS.out.now.2.2.1.cell 1; have c2 : w3.cell? ⟨w.heap.size, 2, none⟩ = some (.int .i64 x1) := HS.out.now.2.2.1.cell 2; have c3 : w3.cell? ⟨w.heap.size, 3, none⟩ = some (.int .i64 x2) := HS.out.now.2.2.1.cell 3; have c4 : w3.cell? ⟨w.heap.size, 4, none⟩ = some (.int .i64 x3) := HS.out.now.2.2.1.cell 4; have c5 : w3.cell? ⟨w.heap.size, 5, none⟩ = some (.string s) := HS.out.now.2.2.1.cell 5; have k0 : w3.cell? ⟨w.heap.size + 1, 0, none⟩ = some (.int .i64 0) := HS.out.now.2.2.2.1.cell 0; have f0 := HS.out.now.2.2.2.1.frozen 0; have k1 : w3.cell? ⟨w.heap.size + 1, 1, none⟩ = some (.int .i64 0) := HS.out.now.2.2.2.1.cell 1; have f1 := HS.out.now.2.2.2.1.frozen 1; have z0 : w3.cell? ⟨w1.heap.size, 0, none⟩ = some (.int .i64 0) := HS.out.now.2.1.cell 0; have z1 : w3.cell? ⟨w1.heap.size, 1, none⟩ = some (.int .i64 l.length) := HS.out.now.2.1.cell 1; have zf0 := HS.out.now.2.1.frozen 0; have zf1 := HS.out.now.2.1.frozen 1))
  have ge8 : w.heap.size + 1 < w1.heap.size := HGE.out
  have ge9 : w.heap.size < w1.heap.size := Nat.lt_of_succ_lt ge8
  have q9 : Below w.heap.size w ((w3.setCell ⟨w1.heap.size, 0, none⟩ (.int .i64 a)).setCell ⟨w1.heap.size, 1, none⟩ (.int .i64 b)) := (HS.out.bel.setCell (Nat.le_of_lt ge9) _).setCell (Nat.le_of_lt ge9) _
  have HS9 : Aside0 (Sta w ((w3.setCell ⟨w1.heap.size, 0, none⟩ (.int .i64 a)).setCell ⟨w1.heap.size, 1, none⟩ (.int .i64 b)) (fun W => IsBlk W w.heap.size (.cells #[.bool false, .int .i64 x0, .int .i64 x1, .int .i64 x2, .int .i64 x3, .string s] 29) ∧ IsBlk W (w.heap.size + 1) (.cells #[.int .i64 0, .int .i64 0] 44) ∧ Kd.C (Kd.int .u8) W A l.length l ∧ IsBlk W w1.heap.size (.cells #[.int .i64 a, .int .i64 b] 44 (0, 0)))) := ⟨⟨q9, ⟨(HS.out.now.2.2.1.other (Nat.ne_of_lt ge9) _).other (Nat.ne_of_lt ge9) _, (HS.out.now.2.2.2.1.other (Nat.ne_of_lt ge8) _).other (Nat.ne_of_lt ge8) _, Kd.C_below HRW.out q9, blk2 HS.out.now.2.1 _ _⟩, keeps_and (keeps_blk _ _) (keeps_and (keeps_blk _ _) (keeps_and (keeps_C _ _ _ _) (keeps_blk _ _)))⟩⟩
  clear HS q9 HT
  clear c0 c1 c2 c3 c4 c5 k0 k1 f0 f1 n1 n2 z0 z1 zf0 zf1 HRW HGE
  generalize ((w3.setCell ⟨w1.heap.size, 0, none⟩ (.int .i64 a)).setCell ⟨w1.heap.size, 1, none⟩ (.int .i64 b)) = W9 at HS9 ⊢
  generalize w1.heap.size = b8 at HS9 ge8 ge9 ⊢
  have HS := HS9
  clear HS9
  have n1 := blk_lt HS.out.now.1
  have n2 := blk_lt HS.out.now.2.1
  have c0 : W9.cell? ⟨w.heap.size, 0, none⟩ = some (.bool false) := HS.out.now.1.cell 0
  have c1 : W9.cell? ⟨w.heap.size, 1, none⟩ = some (.int .i64 x0) := HS.out.now.1.cell 1
  have c2 : W9.cell? ⟨w.heap.size, 2, none⟩ = some (.int .i64 x1) := HS.out.now.1.cell 2
  have c3 : W9.cell? ⟨w.heap.size, 3, none⟩ = some (.int .i64 x2) := HS.out.now.1.cell 3
  have c4 : W9.cell? ⟨w.heap.size, 4, none⟩ = some (.int .i64 x3) := HS.out.now.1.cell 4
  have c5 : W9.cell? ⟨w.heap.size, 5, none⟩ = some (.string s) := HS.out.now.1.cell 5
  have k0 : W9.cell? ⟨w.heap.size + 1, 0, none⟩ = some (.int .i64 0) := HS.out.now.2.1.cell 0
  have f0 := HS.out.now.2.1.frozen 0
  have k1 : W9.cell? ⟨w.heap.size + 1, 1, none⟩ = some (.int .i64 0) := HS.out.now.2.1.cell 1
  have f1 := HS.out.now.2.1.frozen 1
  have q0 : W9.cell? ⟨b8, 0, none⟩ = some (.int .i64 a) := HS.out.now.2.2.2.cell 0
  have q1 : W9.cell? ⟨b8, 1, none⟩ = some (.int .i64 b) := HS.out.now.2.2.2.cell 1
  have g9 : decide (8192 < (l.length : Int) - (b - a) + s.size) = false := decide_eq_false (by omega)
  have e1 := Nat.ne_of_lt ge8
  have e2 := Ne.symm e1
  have e3 := Nat.ne_of_lt ge9
  have e4 := Ne.symm e3
  go_upto_region 16 with (fail)
  go_region_held3 (fun wx => wx.cell? ⟨b8, 0, none⟩ = some (.int .i64 a) ∧ wx.cell? ⟨b8, 1, none⟩ = some (.int .i64 b) ∧ wx.cell? ⟨w.heap.size, 5, none⟩ = some (.string s)) (go_keep) ((go_at_call 86; refine (joined_ok A c l a b s _ (HS.out.step (by repeat (first | exact Below.refl _ _ | apply below_alloc | apply pw_below_drewN | apply below_drew1 | apply bytes_step))).now.2.2.1 HC.out ha0 hab hbl (by omega)).mono ?_; rintro e w5 ⟨v, rfl, hR, hb⟩; have HRR := Aside0.mk (Kd.R_lower hR (blk_lt (HS.out.step (by repeat (first | exact Below.refl _ _ | apply below_alloc | apply pw_below_drewN | apply below_drew1 | apply bytes_step))).now.2.1)); clear hR; have m_ := Aside0.mk (HS.out.call (by repeat (first | exact Below.refl _ _ | apply below_alloc | apply pw_below_drewN | apply below_drew1 | apply bytes_step)) hb); clear HS hb ; have HS := m_; clear m_; have n1 := blk_lt HS.out.now.1; have n2 := blk_lt HS.out.now.2.1; have c0 : w5.cell? ⟨w.heap.size, 0, none⟩ = some (.bool false) := HS.out.now.1.cell 0; have c1 : w5.cell? ⟨w.heap.size, 1, none⟩ = some (.int .i64 x0) := HS.out.now.1.cell 1; have c2 : w5.cell? ⟨w.heap.size, 2, none⟩ = some (.int .i64 x1) := HS.out.now.1.cell 2; have c3 : w5.cell? ⟨w.heap.size, 3, none⟩ = some (.int .i64 x2) := HS.out.now.1.cell 3; have c4 : w5.cell? ⟨w.heap.size, 4, none⟩ = some (.int .i64 x3) := HS.out.now.1.cell 4; have c5 : w5.cell? ⟨w.heap.size, 5, none⟩ = some (.string s) := HS.out.now.1.cell 5; have k0 : w5.cell? ⟨w.heap.size + 1, 0, none⟩ = some (.int .i64 0) := HS.out.now.2.1.cell 0; have f0 := HS.out.now.2.1.frozen 0; have k1 : w5.cell? ⟨w.heap.size + 1, 1, none⟩ = some (.int .i64 0) := HS.out.now.2.1.cell 1; have f1 := HS.out.now.2.1.frozen 1; have q0 : w5.cell? ⟨b8, 0, none⟩ = some (.int .i64 a) := HS.out.now.2.2.2.cell 0; have q1 : w5.cell? ⟨b8, 1, none⟩ = some (.int .i64 b) := HS.out.now.2.2.2.cell 1))
  all_goals
    go_wp2
    first | rw [Exit.noGoto_ret] | skip
    refine bodyPost_ret (v := .tuple #[.agg #[.int .i64 a, .int .i64 b], v, .int .i64 0]) (by simp [results, Try.results59, go_sem, *]) rfl ⟨v, rfl, Kd.R_lower (r_set (r_set HRR.out (by simp) _) (by simp) _) (by omega), ?_⟩
    have hS := HS.out.bel
    repeat (first | exact hS | apply below_alloc | apply pw_below_drewN | apply below_drew1 | refine Below.setCell ?_ (by simp) _)
theorem zq2 {w W : World} (h : Below w.heap.size w W) (o : Obj) : Below w.heap.size w (W.alloc o) := below_alloc h o
theorem zq3 {n : Nat} {w W : World} (h : Below n w W) (k : Nat) : Below n w (W.drewN k) := pw_below_drewN h k
theorem zq4 {n : Nat} {w W : World} (h : Below n w W) : Below n w W.drew := below_drew1 h
theorem zq5 {w W : World} {e : TypeId} {s : ByteArray} (h : Below w.heap.size w W) : Below w.heap.size w (Lib.bytesWorld W e s) := bytes_step h
theorem change_is (A : Option Addr) (c : Nat) (l : List Int) (wh : Bool) (x0 x1 x2 x3 : Int) (s : ByteArray) (w : World) (hr : Kd.C (Kd.int .u8) w A l.length l) (hc : l.length ≤ c) (hn : A = none → c = 0) (hB : Bytes l) (hs : l.length ≤ 1048576) (hs2 : s.size ≤ 140737488351232) (hx1 : x1 ≤ 9223372036854775807) (hx3 : x3 ≤ 9223372036854775807) :
    Calls Try.prog 59 #[.slice A l.length c, .agg #[.bool wh, .int .i64 x0, .int .i64 x1, .int .i64 x2, .int .i64 x3, .string s]] w fun e w' => ∃ v : Value, e = .returned (.tuple #[.agg #[.int .i64 (ech l (bytesOf s) wh x0 x1 x2 x3).1, .int .i64 (ech l (bytesOf s) wh x0 x1 x2 x3).2.1], v, .int .i64 (ech l (bytesOf s) wh x0 x1 x2 x3).2.2.2]) ∧ Kd.R (Kd.int .u8) 5 w' w.heap.size (fun _ => True) v (ech l (bytesOf s) wh x0 x1 x2 x3).2.2.1 ∧ Below w.heap.size w w' := by
  have hT := bytesOf_B s
  have hts := bytesOf_length s
  by_cases c1 : (chk l).2 ≠ 0
  · have e1 : (ech l (bytesOf s) wh x0 x1 x2 x3) = (0, 0, [], (chk l).2) := by unfold ech; rw [if_pos c1]
    rw [e1]
    exact change_bad A c l wh x0 x1 x2 x3 s w hr hc hB hs hs2 _ (if_pos c1) c1
  · have hl : (chk l).2 = 0 := by omega
    have hv := (chk_V hB).1 hl
    by_cases c2 : (chk (bytesOf s)).2 ≠ 0
    · have e1 : (ech l (bytesOf s) wh x0 x1 x2 x3) = (0, 0, [], (chk (bytesOf s)).2) := by unfold ech; rw [if_neg c1, if_pos c2]
      rw [e1]
      exact change_bad A c l wh x0 x1 x2 x3 s w hr hc hB hs hs2 _ (if_neg c1) c2
    · have ht : (chk (bytesOf s)).2 = 0 := by omega
      have e0 : (ech l (bytesOf s) wh x0 x1 x2 x3) = if (esp l wh x0 x1 x2 x3).2.2 ≠ 0 then (0, 0, [], (esp l wh x0 x1 x2 x3).2.2)
          else if 8192 < l.length - ((esp l wh x0 x1 x2 x3).2.1 - (esp l wh x0 x1 x2 x3).1) + (bytesOf s).length then (0, 0, [], 5)
          else ((esp l wh x0 x1 x2 x3).1, (esp l wh x0 x1 x2 x3).2.1, l.take (esp l wh x0 x1 x2 x3).1.toNat ++ bytesOf s ++ l.drop (esp l wh x0 x1 x2 x3).2.1.toNat, 0) := by
        unfold ech; rw [if_neg c1, if_neg c2]
      rw [e0]
      cases wh with
      | true =>
        have e2 : esp l true x0 x1 x2 x3 = (0, (l.length : Int), 0) := rfl
        rw [e2, if_neg (by simp)]
        by_cases c3 : 8192 < s.size
        · rw [if_pos (by simp only []; omega)]
          exact change_whole_no A c l x0 x1 x2 x3 s w hr hc hB hs hs2 hl ht c3
        · rw [if_neg (by simp only []; omega)]
          exact change_whole_ok A c l x0 x1 x2 x3 s w hr hc hB hs hs2 hl ht c3 0 l.length rfl rfl
      | false =>
        obtain ⟨m1, m2, m3⟩ := esp_msp l x0 x1 x2 x3
        have hrg := esp_range hB hv false x0 x1 x2 x3
        by_cases c3 : (msp l x0 x1 x2 x3).2.2 = 0
        · rw [m2 (by omega)] at hrg ⊢
          rw [if_neg (by omega)]
          by_cases c4 : 8192 < (l.length : Int) - ((msp l x0 x1 x2 x3).2.1 - (msp l x0 x1 x2 x3).1) + s.size
          · rw [if_pos (by omega)]
            exact change_range_no A c l x0 x1 x2 x3 s w hr hc hB hs hs2 hn hx1 hx3 hl ht _ _ rfl rfl c3 hrg.1 hrg.2.1 hrg.2.2 c4
          · rw [if_neg (by omega)]
            exact change_range_ok A c l x0 x1 x2 x3 s w hr hc hB hs hs2 hn hx1 hx3 hl ht _ _ rfl rfl c3 hrg.1 hrg.2.1 hrg.2.2 c4
        · by_cases c4 : (msp l x0 x1 x2 x3).2.2 = 2
          · rw [m1 c4, if_pos (by simp)]
            exact change_span_bad A c l x0 x1 x2 x3 s w hr hc hB hs hs2 hn hx1 hx3 hl ht _ _ _ rfl rfl rfl c3 150 (by rw [if_pos c4])
          · rw [m2 c4, if_pos c3]
            exact change_span_bad A c l x0 x1 x2 x3 s w hr hc hB hs hs2 hn hx1 hx3 hl ht _ _ _ rfl rfl rfl c3 _ (by rw [if_neg c4])
set_option maxRecDepth 100000 in
set_option maxHeartbeats 1000000 in
theorem One_is (A : Option Addr) (c : Nat) (l : List Int) (wh : Bool) (x0 x1 x2 x3 : Int) (s : ByteArray) (w : World) (hr : Kd.C (Kd.int .u8) w A l.length l) (hc : l.length ≤ c) (hn : A = none → c = 0) (hB : Bytes l) (hs : l.length ≤ 1048576) (hs2 : s.size ≤ 140737488351232) (hx1 : x1 ≤ 9223372036854775807) (hx3 : x3 ≤ 9223372036854775807) :
    Calls Try.prog 23 #[.slice A l.length c, .agg #[.bool wh, .int .i64 x0, .int .i64 x1, .int .i64 x2, .int .i64 x3, .string s]] w fun e w' => ∃ v : Value, e = .returned (.tuple #[v, .int .i64 (ech l (bytesOf s) wh x0 x1 x2 x3).2.2.2]) ∧ Kd.R (Kd.int .u8) 5 w' w.heap.size (fun _ => True) v (ech l (bytesOf s) wh x0 x1 x2 x3).2.2.1 ∧ Below w.heap.size w w' := by
  have hrb : Kd.C (Kd.int .u8) (w.alloc (.cells #[.bool wh, .int .i64 x0, .int .i64 x1, .int .i64 x2, .int .i64 x3, .string s] 29)) A l.length l := Kd.C_below hr (below_alloc (Below.refl _ _) _)
  have c0 : (w.alloc (.cells #[.bool wh, .int .i64 x0, .int .i64 x1, .int .i64 x2, .int .i64 x3, .string s] 29)).cell? ⟨w.heap.size, 0, none⟩ = some (.bool wh) := (blk_cell (blk_new w _) 0).trans rfl
  have c1 : (w.alloc (.cells #[.bool wh, .int .i64 x0, .int .i64 x1, .int .i64 x2, .int .i64 x3, .string s] 29)).cell? ⟨w.heap.size, 1, none⟩ = some (.int .i64 x0) := (blk_cell (blk_new w _) 1).trans rfl
  have c2 : (w.alloc (.cells #[.bool wh, .int .i64 x0, .int .i64 x1, .int .i64 x2, .int .i64 x3, .string s] 29)).cell? ⟨w.heap.size, 2, none⟩ = some (.int .i64 x1) := (blk_cell (blk_new w _) 2).trans rfl
  have c3 : (w.alloc (.cells #[.bool wh, .int .i64 x0, .int .i64 x1, .int .i64 x2, .int .i64 x3, .string s] 29)).cell? ⟨w.heap.size, 3, none⟩ = some (.int .i64 x2) := (blk_cell (blk_new w _) 3).trans rfl
  have c4 : (w.alloc (.cells #[.bool wh, .int .i64 x0, .int .i64 x1, .int .i64 x2, .int .i64 x3, .string s] 29)).cell? ⟨w.heap.size, 4, none⟩ = some (.int .i64 x3) := (blk_cell (blk_new w _) 4).trans rfl
  have c5 : (w.alloc (.cells #[.bool wh, .int .i64 x0, .int .i64 x1, .int .i64 x2, .int .i64 x3, .string s] 29)).cell? ⟨w.heap.size, 5, none⟩ = some (.string s) := (blk_cell (blk_new w _) 5).trans rfl
  have HR := Aside0.mk hrb
  have HC := Aside0.mk hc
  have HBY := Aside0.mk hB
  obtain ⟨a, hea⟩ : ∃ a, (ech l (bytesOf s) wh x0 x1 x2 x3).1 = a := ⟨_, rfl⟩
  obtain ⟨b, heb⟩ : ∃ a, (ech l (bytesOf s) wh x0 x1 x2 x3).2.1 = a := ⟨_, rfl⟩
  obtain ⟨out, heo⟩ : ∃ a, (ech l (bytesOf s) wh x0 x1 x2 x3).2.2.1 = a := ⟨_, rfl⟩
  obtain ⟨er, hee⟩ : ∃ a, (ech l (bytesOf s) wh x0 x1 x2 x3).2.2.2 = a := ⟨_, rfl⟩
  rw [heo, hee]
  have HEA := Aside0.mk hea
  have HEB := Aside0.mk heb
  have HEO := Aside0.mk heo
  have HEE := Aside0.mk hee
  clear hr hrb hc hB hea heb heo hee
  go_enter Try.func23, Try.ntmps23
  go_wp2_with (go_at_call 59; refine (change_is A c l wh x0 x1 x2 x3 s _ HR.out HC.out hn HBY.out hs hs2 hx1 hx3).mono ?_; rintro e w1 ⟨v, rfl, hR, hb⟩; rw [HEA.out, HEB.out, HEE.out]; rw [HEO.out] at hR; have HRR := Aside0.mk hR; have HB1 := Aside0.mk hb; clear hR hb)
  go_ret2
  have hB2 : Below w.heap.size w w1 := below_step (below_alloc (Below.refl _ _) _) HB1.out
  exact ⟨_, rfl, Kd.R_below (Kd.R_lower HRR.out (by simp)) (below_alloc (Below.refl _ _) _), below_alloc hB2 _⟩
theorem IsBlk.drew1 {W : World} {g : Nat} {o : Obj} (h : IsBlk W g o) : IsBlk W.drew g o := h
theorem blk_new2 (W : World) (o1 o2 : Obj) : IsBlk ((W.alloc o1).alloc o2) (W.heap.size + 1) o2 := by
  have h := blk_new (W.alloc o1) o2
  rw [World.size_alloc] at h
  exact h
theorem blk6 {W : World} {b : Nat} {z0 z1 z2 z3 z4 z5 : Value} {t : TypeId} (h : IsBlk W b (.cells #[z0, z1, z2, z3, z4, z5] t (0, 0))) (u0 u1 u2 u3 u4 u5 : Value) :
    IsBlk ((((((W.setCell ⟨b, 0, none⟩ u0).setCell ⟨b, 1, none⟩ u1).setCell ⟨b, 2, none⟩ u2).setCell ⟨b, 3, none⟩ u3).setCell ⟨b, 4, none⟩ u4).setCell ⟨b, 5, none⟩ u5) b (.cells #[u0, u1, u2, u3, u4, u5] t (0, 0)) :=
  (blk_set (blk_set (blk_set (blk_set (blk_set (blk_set h 0 u0) 1 u1) 2 u2) 3 u3) 4 u4) 5 u5).trans rfl
set_option maxRecDepth 100000 in
set_option maxHeartbeats 2000000 in
theorem Back_ok (A : Option Addr) (c : Nat) (l : List Int) (wh : Bool) (x0 x1 x2 x3 : Int) (s : ByteArray) (w : World) (hr : Kd.C (Kd.int .u8) w A l.length l) (hc : l.length ≤ c) (hn : A = none → c = 0) (hB : Bytes l) (hs : l.length ≤ 1048576) (hs2 : s.size ≤ 140737488351232) (hx1 : x1 ≤ 9223372036854775807) (hx3 : x3 ≤ 9223372036854775807) (hw : wh = false) (her : (ech l (bytesOf s) wh x0 x1 x2 x3).2.2.2 = 0) (hp1 : isPb (ech l (bytesOf s) wh x0 x1 x2 x3).2.2.1 (ech l (bytesOf s) wh x0 x1 x2 x3).1 = true) (hp2 : isPb (ech l (bytesOf s) wh x0 x1 x2 x3).2.2.1 ((ech l (bytesOf s) wh x0 x1 x2 x3).1 + s.size) = true) :
    Calls Try.prog 24 #[.slice A l.length c, .agg #[.bool wh, .int .i64 x0, .int .i64 x1, .int .i64 x2, .int .i64 x3, .string s]] w fun e w' => e = .returned (.tuple #[.agg #[.bool false, .int .i64 (fnd (ech l (bytesOf s) wh x0 x1 x2 x3).2.2.1 (ech l (bytesOf s) wh x0 x1 x2 x3).1), .int .i64 (pch (ech l (bytesOf s) wh x0 x1 x2 x3).2.2.1 (ech l (bytesOf s) wh x0 x1 x2 x3).1), .int .i64 (fnd (ech l (bytesOf s) wh x0 x1 x2 x3).2.2.1 ((ech l (bytesOf s) wh x0 x1 x2 x3).1 + s.size)), .int .i64 (pch (ech l (bytesOf s) wh x0 x1 x2 x3).2.2.1 ((ech l (bytesOf s) wh x0 x1 x2 x3).1 + s.size)), .string (strOfNums ((l.take (ech l (bytesOf s) wh x0 x1 x2 x3).2.1.toNat).drop (ech l (bytesOf s) wh x0 x1 x2 x3).1.toNat))], .int .i64 0]) ∧ Below w.heap.size w w' := by
  subst hw
  obtain ⟨sb, hsb⟩ : ∃ sb, strOfNums l = sb := ⟨_, rfl⟩
  have hrw := hr
  have hb1 := below_alloc (Below.refl _ w) (.cells #[.bool false, .int .i64 x0, .int .i64 x1, .int .i64 x2, .int .i64 x3, .string s] 29)
  have hb2 : Below (w.alloc (.cells #[.bool false, .int .i64 x0, .int .i64 x1, .int .i64 x2, .int .i64 x3, .string s] 29)).heap.size (w.alloc (.cells #[.bool false, .int .i64 x0, .int .i64 x1, .int .i64 x2, .int .i64 x3, .string s] 29)) ((w.alloc (.cells #[.bool false, .int .i64 x0, .int .i64 x1, .int .i64 x2, .int .i64 x3, .string s] 29)).alloc (.cells #[.bool false, .int .i64 0, .int .i64 0, .int .i64 0, .int .i64 0, .string ⟨#[]⟩] 29)) := below_alloc (Below.refl _ _) _
  have hg : IsBlk ((w.alloc (.cells #[.bool false, .int .i64 x0, .int .i64 x1, .int .i64 x2, .int .i64 x3, .string s] 29)).alloc (.cells #[.bool false, .int .i64 0, .int .i64 0, .int .i64 0, .int .i64 0, .string ⟨#[]⟩] 29)) (w.alloc (.cells #[.bool false, .int .i64 x0, .int .i64 x1, .int .i64 x2, .int .i64 x3, .string s] 29)).heap.size (.cells #[.bool false, .int .i64 0, .int .i64 0, .int .i64 0, .int .i64 0, .string ⟨#[]⟩] 29) := blk_new _ _
  rw [World.size_alloc] at hg
  have HS : Aside0 (Sta w ((w.alloc (.cells #[.bool false, .int .i64 x0, .int .i64 x1, .int .i64 x2, .int .i64 x3, .string s] 29)).alloc (.cells #[.bool false, .int .i64 0, .int .i64 0, .int .i64 0, .int .i64 0, .string ⟨#[]⟩] 29)) (fun W => IsBlk W w.heap.size (.cells #[.bool false, .int .i64 x0, .int .i64 x1, .int .i64 x2, .int .i64 x3, .string s] 29) ∧ IsBlk W (w.heap.size + 1) (.cells #[.bool false, .int .i64 0, .int .i64 0, .int .i64 0, .int .i64 0, .string ⟨#[]⟩] 29) ∧ Kd.C (Kd.int .u8) W A l.length l)) := ⟨⟨below_step hb1 hb2, ⟨IsBlk.below (blk_new w _) hb2, hg, Kd.C_below (Kd.C_below hr hb1) hb2⟩, keeps_and (keeps_blk _ _) (keeps_and (keeps_blk _ _) (keeps_C _ _ _ _))⟩⟩
  clear hb1 hb2 hg hr
  have n1 := blk_lt HS.out.now.1
  have n2 := blk_lt HS.out.now.2.1
  have c0 : ((w.alloc (.cells #[.bool false, .int .i64 x0, .int .i64 x1, .int .i64 x2, .int .i64 x3, .string s] 29)).alloc (.cells #[.bool false, .int .i64 0, .int .i64 0, .int .i64 0, .int .i64 0, .string ⟨#[]⟩] 29)).cell? ⟨w.heap.size, 0, none⟩ = some (.bool false) := HS.out.now.1.cell 0
  have c1 : ((w.alloc (.cells #[.bool false, .int .i64 x0, .int .i64 x1, .int .i64 x2, .int .i64 x3, .string s] 29)).alloc (.cells #[.bool false, .int .i64 0, .int .i64 0, .int .i64 0, .int .i64 0, .string ⟨#[]⟩] 29)).cell? ⟨w.heap.size, 1, none⟩ = some (.int .i64 x0) := HS.out.now.1.cell 1
  have c2 : ((w.alloc (.cells #[.bool false, .int .i64 x0, .int .i64 x1, .int .i64 x2, .int .i64 x3, .string s] 29)).alloc (.cells #[.bool false, .int .i64 0, .int .i64 0, .int .i64 0, .int .i64 0, .string ⟨#[]⟩] 29)).cell? ⟨w.heap.size, 2, none⟩ = some (.int .i64 x1) := HS.out.now.1.cell 2
  have c3 : ((w.alloc (.cells #[.bool false, .int .i64 x0, .int .i64 x1, .int .i64 x2, .int .i64 x3, .string s] 29)).alloc (.cells #[.bool false, .int .i64 0, .int .i64 0, .int .i64 0, .int .i64 0, .string ⟨#[]⟩] 29)).cell? ⟨w.heap.size, 3, none⟩ = some (.int .i64 x2) := HS.out.now.1.cell 3
  have c4 : ((w.alloc (.cells #[.bool false, .int .i64 x0, .int .i64 x1, .int .i64 x2, .int .i64 x3, .string s] 29)).alloc (.cells #[.bool false, .int .i64 0, .int .i64 0, .int .i64 0, .int .i64 0, .string ⟨#[]⟩] 29)).cell? ⟨w.heap.size, 4, none⟩ = some (.int .i64 x3) := HS.out.now.1.cell 4
  have c5 : ((w.alloc (.cells #[.bool false, .int .i64 x0, .int .i64 x1, .int .i64 x2, .int .i64 x3, .string s] 29)).alloc (.cells #[.bool false, .int .i64 0, .int .i64 0, .int .i64 0, .int .i64 0, .string ⟨#[]⟩] 29)).cell? ⟨w.heap.size, 5, none⟩ = some (.string s) := HS.out.now.1.cell 5
  have k0 : ((w.alloc (.cells #[.bool false, .int .i64 x0, .int .i64 x1, .int .i64 x2, .int .i64 x3, .string s] 29)).alloc (.cells #[.bool false, .int .i64 0, .int .i64 0, .int .i64 0, .int .i64 0, .string ⟨#[]⟩] 29)).cell? ⟨w.heap.size + 1, 0, none⟩ = some (.bool false) := HS.out.now.2.1.cell 0
  have f0 := HS.out.now.2.1.frozen 0
  have k1 : ((w.alloc (.cells #[.bool false, .int .i64 x0, .int .i64 x1, .int .i64 x2, .int .i64 x3, .string s] 29)).alloc (.cells #[.bool false, .int .i64 0, .int .i64 0, .int .i64 0, .int .i64 0, .string ⟨#[]⟩] 29)).cell? ⟨w.heap.size + 1, 1, none⟩ = some (.int .i64 0) := HS.out.now.2.1.cell 1
  have f1 := HS.out.now.2.1.frozen 1
  have k2 : ((w.alloc (.cells #[.bool false, .int .i64 x0, .int .i64 x1, .int .i64 x2, .int .i64 x3, .string s] 29)).alloc (.cells #[.bool false, .int .i64 0, .int .i64 0, .int .i64 0, .int .i64 0, .string ⟨#[]⟩] 29)).cell? ⟨w.heap.size + 1, 2, none⟩ = some (.int .i64 0) := HS.out.now.2.1.cell 2
  have f2 := HS.out.now.2.1.frozen 2
  have k3 : ((w.alloc (.cells #[.bool false, .int .i64 x0, .int .i64 x1, .int .i64 x2, .int .i64 x3, .string s] 29)).alloc (.cells #[.bool false, .int .i64 0, .int .i64 0, .int .i64 0, .int .i64 0, .string ⟨#[]⟩] 29)).cell? ⟨w.heap.size + 1, 3, none⟩ = some (.int .i64 0) := HS.out.now.2.1.cell 3
  have f3 := HS.out.now.2.1.frozen 3
  have k4 : ((w.alloc (.cells #[.bool false, .int .i64 x0, .int .i64 x1, .int .i64 x2, .int .i64 x3, .string s] 29)).alloc (.cells #[.bool false, .int .i64 0, .int .i64 0, .int .i64 0, .int .i64 0, .string ⟨#[]⟩] 29)).cell? ⟨w.heap.size + 1, 4, none⟩ = some (.int .i64 0) := HS.out.now.2.1.cell 4
  have f4 := HS.out.now.2.1.frozen 4
  have k5 : ((w.alloc (.cells #[.bool false, .int .i64 x0, .int .i64 x1, .int .i64 x2, .int .i64 x3, .string s] 29)).alloc (.cells #[.bool false, .int .i64 0, .int .i64 0, .int .i64 0, .int .i64 0, .string ⟨#[]⟩] 29)).cell? ⟨w.heap.size + 1, 5, none⟩ = some (.string ⟨#[]⟩) := HS.out.now.2.1.cell 5
  have f5 := HS.out.now.2.1.frozen 5
  have HC := Aside0.mk hc
  have HBY := Aside0.mk hB
  obtain ⟨a, hea⟩ : ∃ a, (ech l (bytesOf s) false x0 x1 x2 x3).1 = a := ⟨_, rfl⟩
  obtain ⟨b, heb⟩ : ∃ a, (ech l (bytesOf s) false x0 x1 x2 x3).2.1 = a := ⟨_, rfl⟩
  obtain ⟨out, heo⟩ : ∃ a, (ech l (bytesOf s) false x0 x1 x2 x3).2.2.1 = a := ⟨_, rfl⟩
  obtain ⟨er, hee⟩ : ∃ a, (ech l (bytesOf s) false x0 x1 x2 x3).2.2.2 = a := ⟨_, rfl⟩
  have HEA := Aside0.mk hea
  have HEB := Aside0.mk heb
  have HEO := Aside0.mk heo
  have HEE := Aside0.mk hee
  have ks0 := fun (W : World) (A1 : Option Addr) (n1 c1 : Nat) (xs : List Int) (h : Kd.C (Kd.int .u8) W A1 n1 xs) => Kd.C_string (P := Try.prog) (w := W) (src := 22) (dst := 9) (e := 5) (c := c1) Try.underlying22 Try.underlying5 Try.underlying9 h
  have HKS := Aside0.mk ks0
  clear ks0
  try rw [hsb]
  rw [hee] at her
  have hv0 : V l := (ech_V hB (bytesOf_B s) false x0 x1 x2 x3 (hee.trans her)).1
  rw [heo, hea] at hp1 hp2 ⊢
  rw [heb]
  have ha0 := (esp_range hB hv0 false x0 x1 x2 x3)
  have hox := ech_V hB (bytesOf_B s) false x0 x1 x2 x3 (hee.trans her)
  rw [heo] at hox
  obtain ⟨-, -, hvo, hbo, hlo, -, hq1, hq2, hq3⟩ := hox
  rw [hea] at hq1
  rw [heb] at hq2
  rw [← hq1, ← hq2] at ha0 hq3
  have hol : (a : Int) + s.size ≤ out.length := by
    rw [hq3]; simp only [List.length_append, List.length_take, List.length_drop, bytesOf_length]; omega
  obtain ⟨a0, hab, hbl⟩ := ha0
  have hlo2 : out.length ≤ 1048576 := by omega
  have hko := Check_f out hbo hlo2 (Nat.lt_succ_self _)
  rw [show chk out = ((chk out).1, 0) from Prod.ext rfl ((chk_V hbo).2 hvo)] at hko
  have HKO := Aside0.mk hko
  have HLO := Aside0.mk hlo2
  have HBO := Aside0.mk hbo
  have HVO := Aside0.mk hvo
  clear hko hbo hvo hq1 hq2 hq3 hlo hlo2 hB hv0
  subst her
  have HSB := Aside0.mk hsb
  clear hsb hea heb heo hee hc
  obtain ⟨SB, sd, E2, hCs, hsd⟩ := cut_seg w A c l a b hrw HC.out a0 hab hbl
  generalize (l.take b.toNat).drop a.toNat = seg at *
  obtain ⟨ss, hss⟩ : ∃ ss, strOfNums seg = ss := ⟨_, rfl⟩
  rw [hss]
  have HSS := Aside0.mk hss
  have HCS : Aside0 (∀ W, Below w.heap.size w W → Kd.C (Kd.int .u8) W SB seg.length seg) := ⟨fun W hW => Kd.C_below hCs hW⟩
  clear hss hCs hrw
  have HP1 := Aside0.mk hp1
  have HP2 := Aside0.mk hp2
  obtain ⟨fa, hfa⟩ : ∃ x : Int, (fnd out a : Int) = x := ⟨_, rfl⟩
  obtain ⟨pa, hpa⟩ : ∃ x : Int, pch out a = x := ⟨_, rfl⟩
  obtain ⟨fb, hfb⟩ : ∃ x : Int, (fnd out (a + s.size) : Int) = x := ⟨_, rfl⟩
  obtain ⟨pb, hpb⟩ : ∃ x : Int, pch out (a + s.size) = x := ⟨_, rfl⟩
  rw [hfa, hpa, hfb, hpb]
  have HFA := Aside0.mk hfa
  have HPA := Aside0.mk hpa
  have HFB := Aside0.mk hfb
  have HPB := Aside0.mk hpb
  clear hp1 hp2 hfa hpa hfb hpb
  have ti1 := True.intro
  have ti2 := True.intro
  go_enter Try.func24, Try.ntmps24
  go_upto_region 12 with (first | (go_at_call 59; refine (change_is A c l false x0 x1 x2 x3 s _ (HS.out.step (by repeat (first | exact Below.refl _ _ | apply zq2 | apply zq3 | apply zq4 | apply zq5))).now.2.2 HC.out hn HBY.out hs hs2 hx1 hx3).mono ?_; rintro e w1 ⟨v, rfl, hR, hb⟩; rw [HEA.out, HEB.out, HEE.out]; rw [HEO.out] at hR; obtain ⟨A2, cc2, rfl, hl2, hn2, hC2⟩ := Ap.read (.inr hR); have HL2 := Aside0.mk hl2; have HN2 := Aside0.mk hn2; clear hR hl2 hn2; have m_ := Aside0.mk ((HS.out.call (by repeat (first | exact Below.refl _ _ | apply zq2 | apply zq3 | apply zq4 | apply zq5)) hb).add hC2 (keeps_C _ _ _ _)); clear HS hb hC2; have HS := m_; clear m_; have n1 := blk_lt HS.out.now.2.1; have n2 := blk_lt HS.out.now.2.2.1; have c0 : w1.cell? ⟨w.heap.size, 0, none⟩ = some (.bool false) := HS.out.now.2.1.cell 0; have c0a := cell_alloc1 c0; have c1 : w1.cell? ⟨w.heap.size, 1, none⟩ = some (.int .i64 x0) := HS.out.now.2.1.cell 1; have c1a := cell_alloc1 c1; have c2 : w1.cell? ⟨w.heap.size, 2, none⟩ = some (.int .i64 x1) := HS.out.now.2.1.cell 2; have c2a := cell_alloc1 c2; have c3 : w1.cell? ⟨w.heap.size, 3, none⟩ = some (.int .i64 x2) := HS.out.now.2.1.cell 3; have c3a := cell_alloc1 c3; have c4 : w1.cell? ⟨w.heap.size, 4, none⟩ = some (.int .i64 x3) := HS.out.now.2.1.cell 4; have c4a := cell_alloc1 c4; have c5 : w1.cell? ⟨w.heap.size, 5, none⟩ = some (.string s) := HS.out.now.2.1.cell 5; have c5a := cell_alloc1 c5; have k0 : w1.cell? ⟨w.heap.size + 1, 0, none⟩ = some (.bool false) := HS.out.now.2.2.1.cell 0; have f0 := HS.out.now.2.2.1.frozen 0; have k0a := cell_alloc1 k0; have f0a := froz_alloc1 k0 f0; have k0b := cell_alloc2 k0; have f0b := froz_alloc2 k0 f0; have k1 : w1.cell? ⟨w.heap.size + 1, 1, none⟩ = some (.int .i64 0) := HS.out.now.2.2.1.cell 1; have f1 := HS.out.now.2.2.1.frozen 1; have k1a := cell_alloc1 k1; have f1a := froz_alloc1 k1 f1; have k1b := cell_alloc2 k1; have f1b := froz_alloc2 k1 f1; have k2 : w1.cell? ⟨w.heap.size + 1, 2, none⟩ = some (.int .i64 0) := HS.out.now.2.2.1.cell 2; have f2 := HS.out.now.2.2.1.frozen 2; have k2a := cell_alloc1 k2; have f2a := froz_alloc1 k2 f2; have k2b := cell_alloc2 k2; have f2b := froz_alloc2 k2 f2; have k3 : w1.cell? ⟨w.heap.size + 1, 3, none⟩ = some (.int .i64 0) := HS.out.now.2.2.1.cell 3; have f3 := HS.out.now.2.2.1.frozen 3; have k3a := cell_alloc1 k3; have f3a := froz_alloc1 k3 f3; have k3b := cell_alloc2 k3; have f3b := froz_alloc2 k3 f3; have k4 : w1.cell? ⟨w.heap.size + 1, 4, none⟩ = some (.int .i64 0) := HS.out.now.2.2.1.cell 4; have f4 := HS.out.now.2.2.1.frozen 4; have k4a := cell_alloc1 k4; have f4a := froz_alloc1 k4 f4; have k4b := cell_alloc2 k4; have f4b := froz_alloc2 k4 f4; have k5 : w1.cell? ⟨w.heap.size + 1, 5, none⟩ = some (.string ⟨#[]⟩) := HS.out.now.2.2.1.cell 5; have f5 := HS.out.now.2.2.1.frozen 5; have k5a := cell_alloc1 k5; have f5a := froz_alloc1 k5 f5; have k5b := cell_alloc2 k5; have f5b := froz_alloc2 k5 f5; have ks := HKS.out (w1.alloc (.cells #[.int .i64 a, .int .i64 b] 44)) A l.length c l (HS.out.step (by repeat (first | exact Below.refl _ _ | apply zq2 | apply zq3 | apply zq4 | apply zq5))).now.2.2.2; rw [HSB.out] at ks; have HGE := Aside0.mk n2) | (go_at_call 25; refine (MNew_ok _ A2 cc2 out _ _ (HS.out.step (by repeat (first | exact Below.refl _ _ | apply zq2 | apply zq3 | apply zq4 | apply zq5))).now.1 HL2.out HN2.out HKO.out HLO.out).mono ?_; rintro e w2 ⟨m, rfl, hM, hb⟩; have hb0 := below_alloc (Below.refl _ (w1.alloc (.cells #[.int .i64 a, .int .i64 b] 44))) (.cells #[.bool true, .int .i64 0, .int .i64 0, .int .i64 0, .int .i64 0, .string sb] 29); have hbx := IsBlk.below (IsBlk.below (blk_new w1 (.cells #[.int .i64 a, .int .i64 b] 44)) hb0) hb; have hby := IsBlk.below (blk_new2 w1 (.cells #[.int .i64 a, .int .i64 b] 44) (.cells #[.bool true, .int .i64 0, .int .i64 0, .int .i64 0, .int .i64 0, .string sb] 29)) hb; clear hb0; have m_ := Aside0.mk ((((HS.out.call (by repeat (first | exact Below.refl _ _ | apply zq2 | apply zq3 | apply zq4 | apply zq5)) hb).add hbx (keeps_blk _ _)).add hby (keeps_blk _ _)).add hM (keeps_map _ _)); clear HS hb hbx hby hM; have HS := m_; clear m_; have n1 := blk_lt HS.out.now.2.2.2.2.1; have n2 := blk_lt HS.out.now.2.2.2.2.2.1; have c0 : w2.cell? ⟨w.heap.size, 0, none⟩ = some (.bool false) := HS.out.now.2.2.2.2.1.cell 0; have c1 : w2.cell? ⟨w.heap.size, 1, none⟩ = some (.int .i64 x0) := HS.out.now.2.2.2.2.1.cell 1; have c2 : w2.cell? ⟨w.heap.size, 2, none⟩ = some (.int .i64 x1) := HS.out.now.2.2.2.2.1.cell 2; have c3 : w2.cell? ⟨w.heap.size, 3, none⟩ = some (.int .i64 x2) := HS.out.now.2.2.2.2.1.cell 3; have c4 : w2.cell? ⟨w.heap.size, 4, none⟩ = some (.int .i64 x3) := HS.out.now.2.2.2.2.1.cell 4; have c5 : w2.cell? ⟨w.heap.size, 5, none⟩ = some (.string s) := HS.out.now.2.2.2.2.1.cell 5; have k0 : w2.cell? ⟨w.heap.size + 1, 0, none⟩ = some (.bool false) := HS.out.now.2.2.2.2.2.1.cell 0; have f0 := HS.out.now.2.2.2.2.2.1.frozen 0; have k1 : w2.cell? ⟨w.heap.size + 1, 1, none⟩ = some (.int .i64 0) := HS.out.now.2.2.2.2.2.1.cell 1; have f1 := HS.out.now.2.2.2.2.2.1.frozen 1; have k2 : w2.cell? ⟨w.heap.size + 1, 2, none⟩ = some (.int .i64 0) := HS.out.now.2.2.2.2.2.1.cell 2; have f2 := HS.out.now.2.2.2.2.2.1.frozen 2; have k3 : w2.cell? ⟨w.heap.size + 1, 3, none⟩ = some (.int .i64 0) := HS.out.now.2.2.2.2.2.1.cell 3; have f3 := HS.out.now.2.2.2.2.2.1.frozen 3; have k4 : w2.cell? ⟨w.heap.size + 1, 4, none⟩ = some (.int .i64 0) := HS.out.now.2.2.2.2.2.1.cell 4; have f4 := HS.out.now.2.2.2.2.2.1.frozen 4; have k5 : w2.cell? ⟨w.heap.size + 1, 5, none⟩ = some (.string ⟨#[]⟩) := HS.out.now.2.2.2.2.2.1.cell 5; have f5 := HS.out.now.2.2.2.2.2.1.frozen 5; have q0 : w2.cell? ⟨w1.heap.size, 0, none⟩ = some (.int .i64 a) := HS.out.now.2.2.1.cell 0; have q0a := cell_alloc1 q0; have q1 : w2.cell? ⟨w1.heap.size, 1, none⟩ = some (.int .i64 b) := HS.out.now.2.2.1.cell 1; have q1a := cell_alloc1 q1; have r0 : w2.cell? ⟨w1.heap.size + 1, 0, none⟩ = some (.bool true) := HS.out.now.2.1.cell 0; have r1 : w2.cell? ⟨w1.heap.size + 1, 1, none⟩ = some (.int .i64 0) := HS.out.now.2.1.cell 1; have r2 : w2.cell? ⟨w1.heap.size + 1, 2, none⟩ = some (.int .i64 0) := HS.out.now.2.1.cell 2; have r3 : w2.cell? ⟨w1.heap.size + 1, 3, none⟩ = some (.int .i64 0) := HS.out.now.2.1.cell 3; have r4 : w2.cell? ⟨w1.heap.size + 1, 4, none⟩ = some (.int .i64 0) := HS.out.now.2.1.cell 4; have r5 : w2.cell? ⟨w1.heap.size + 1, 5, none⟩ = some (.string sb) := HS.out.now.2.1.cell 5) | (have _t := ti1; go_at_call 52; refine (Mis_is m out a _ (HS.out.step (by repeat (first | exact Below.refl _ _ | apply zq2 | apply zq3 | apply zq4 | apply zq5))).now.1 HLO.out HBO.out HVO.out (by omega) (by omega)).mono ?_; rintro e w3 ⟨rfl, hb⟩; rw [HP1.out]; have m_ := Aside0.mk (HS.out.call (by repeat (first | exact Below.refl _ _ | apply zq2 | apply zq3 | apply zq4 | apply zq5)) hb); clear HS hb ; have HS := m_; clear m_; have n1 := blk_lt HS.out.now.2.2.2.2.1; have n2 := blk_lt HS.out.now.2.2.2.2.2.1; have c0 : w3.cell? ⟨w.heap.size, 0, none⟩ = some (.bool false) := HS.out.now.2.2.2.2.1.cell 0; have c1 : w3.cell? ⟨w.heap.size, 1, none⟩ = some (.int .i64 x0) := HS.out.now.2.2.2.2.1.cell 1; have c2 : w3.cell? ⟨w.heap.size, 2, none⟩ = some (.int .i64 x1) := HS.out.now.2.2.2.2.1.cell 2; have c3 : w3.cell? ⟨w.heap.size, 3, none⟩ = some (.int .i64 x2) := HS.out.now.2.2.2.2.1.cell 3; have c4 : w3.cell? ⟨w.heap.size, 4, none⟩ = some (.int .i64 x3) := HS.out.now.2.2.2.2.1.cell 4; have c5 : w3.cell? ⟨w.heap.size, 5, none⟩ = some (.string s) := HS.out.now.2.2.2.2.1.cell 5; have k0 : w3.cell? ⟨w.heap.size + 1, 0, none⟩ = some (.bool false) := HS.out.now.2.2.2.2.2.1.cell 0; have f0 := HS.out.now.2.2.2.2.2.1.frozen 0; have k1 : w3.cell? ⟨w.heap.size + 1, 1, none⟩ = some (.int .i64 0) := HS.out.now.2.2.2.2.2.1.cell 1; have f1 := HS.out.now.2.2.2.2.2.1.frozen 1; have k2 : w3.cell? ⟨w.heap.size + 1, 2, none⟩ = some (.int .i64 0) := HS.out.now.2.2.2.2.2.1.cell 2; have f2 := HS.out.now.2.2.2.2.2.1.frozen 2; have k3 : w3.cell? ⟨w.heap.size + 1, 3, none⟩ = some (.int .i64 0) := HS.out.now.2.2.2.2.2.1.cell 3; have f3 := HS.out.now.2.2.2.2.2.1.frozen 3; have k4 : w3.cell? ⟨w.heap.size + 1, 4, none⟩ = some (.int .i64 0) := HS.out.now.2.2.2.2.2.1.cell 4; have f4 := HS.out.now.2.2.2.2.2.1.frozen 4; have k5 : w3.cell? ⟨w.heap.size + 1, 5, none⟩ = some (.string ⟨#[]⟩) := HS.out.now.2.2.2.2.2.1.cell 5; have f5 := HS.out.now.2.2.2.2.2.1.frozen 5; have q0 : w3.cell? ⟨w1.heap.size, 0, none⟩ = some (.int .i64 a) := HS.out.now.2.2.1.cell 0; have q0a := cell_alloc1 q0; have q1 : w3.cell? ⟨w1.heap.size, 1, none⟩ = some (.int .i64 b) := HS.out.now.2.2.1.cell 1; have q1a := cell_alloc1 q1; have r0 : w3.cell? ⟨w1.heap.size + 1, 0, none⟩ = some (.bool true) := HS.out.now.2.1.cell 0; have r1 : w3.cell? ⟨w1.heap.size + 1, 1, none⟩ = some (.int .i64 0) := HS.out.now.2.1.cell 1; have r2 : w3.cell? ⟨w1.heap.size + 1, 2, none⟩ = some (.int .i64 0) := HS.out.now.2.1.cell 2; have r3 : w3.cell? ⟨w1.heap.size + 1, 3, none⟩ = some (.int .i64 0) := HS.out.now.2.1.cell 3; have r4 : w3.cell? ⟨w1.heap.size + 1, 4, none⟩ = some (.int .i64 0) := HS.out.now.2.1.cell 4; have r5 : w3.cell? ⟨w1.heap.size + 1, 5, none⟩ = some (.string sb) := HS.out.now.2.1.cell 5; clear ti1 _t) | (have _t := ti2; go_at_call 52; refine (Mis_is m out (a + s.size) _ (HS.out.step (by repeat (first | exact Below.refl _ _ | apply zq2 | apply zq3 | apply zq4 | apply zq5))).now.1 HLO.out HBO.out HVO.out (by omega) (by omega)).mono ?_; rintro e w4 ⟨rfl, hb⟩; rw [HP2.out]; have m_ := Aside0.mk (HS.out.call (by repeat (first | exact Below.refl _ _ | apply zq2 | apply zq3 | apply zq4 | apply zq5)) hb); clear HS hb ; have HS := m_; clear m_; have n1 := blk_lt HS.out.now.2.2.2.2.1; have n2 := blk_lt HS.out.now.2.2.2.2.2.1; have c0 : w4.cell? ⟨w.heap.size, 0, none⟩ = some (.bool false) := HS.out.now.2.2.2.2.1.cell 0; have c1 : w4.cell? ⟨w.heap.size, 1, none⟩ = some (.int .i64 x0) := HS.out.now.2.2.2.2.1.cell 1; have c2 : w4.cell? ⟨w.heap.size, 2, none⟩ = some (.int .i64 x1) := HS.out.now.2.2.2.2.1.cell 2; have c3 : w4.cell? ⟨w.heap.size, 3, none⟩ = some (.int .i64 x2) := HS.out.now.2.2.2.2.1.cell 3; have c4 : w4.cell? ⟨w.heap.size, 4, none⟩ = some (.int .i64 x3) := HS.out.now.2.2.2.2.1.cell 4; have c5 : w4.cell? ⟨w.heap.size, 5, none⟩ = some (.string s) := HS.out.now.2.2.2.2.1.cell 5; have k0 : w4.cell? ⟨w.heap.size + 1, 0, none⟩ = some (.bool false) := HS.out.now.2.2.2.2.2.1.cell 0; have f0 := HS.out.now.2.2.2.2.2.1.frozen 0; have k1 : w4.cell? ⟨w.heap.size + 1, 1, none⟩ = some (.int .i64 0) := HS.out.now.2.2.2.2.2.1.cell 1; have f1 := HS.out.now.2.2.2.2.2.1.frozen 1; have k2 : w4.cell? ⟨w.heap.size + 1, 2, none⟩ = some (.int .i64 0) := HS.out.now.2.2.2.2.2.1.cell 2; have f2 := HS.out.now.2.2.2.2.2.1.frozen 2; have k3 : w4.cell? ⟨w.heap.size + 1, 3, none⟩ = some (.int .i64 0) := HS.out.now.2.2.2.2.2.1.cell 3; have f3 := HS.out.now.2.2.2.2.2.1.frozen 3; have k4 : w4.cell? ⟨w.heap.size + 1, 4, none⟩ = some (.int .i64 0) := HS.out.now.2.2.2.2.2.1.cell 4; have f4 := HS.out.now.2.2.2.2.2.1.frozen 4; have k5 : w4.cell? ⟨w.heap.size + 1, 5, none⟩ = some (.string ⟨#[]⟩) := HS.out.now.2.2.2.2.2.1.cell 5; have f5 := HS.out.now.2.2.2.2.2.1.frozen 5; have q0 : w4.cell? ⟨w1.heap.size, 0, none⟩ = some (.int .i64 a) := HS.out.now.2.2.1.cell 0; have q0a := cell_alloc1 q0; have q1 : w4.cell? ⟨w1.heap.size, 1, none⟩ = some (.int .i64 b) := HS.out.now.2.2.1.cell 1; have q1a := cell_alloc1 q1; have r0 : w4.cell? ⟨w1.heap.size + 1, 0, none⟩ = some (.bool true) := HS.out.now.2.1.cell 0; have r1 : w4.cell? ⟨w1.heap.size + 1, 1, none⟩ = some (.int .i64 0) := HS.out.now.2.1.cell 1; have r2 : w4.cell? ⟨w1.heap.size + 1, 2, none⟩ = some (.int .i64 0) := HS.out.now.2.1.cell 2; have r3 : w4.cell? ⟨w1.heap.size + 1, 3, none⟩ = some (.int .i64 0) := HS.out.now.2.1.cell 3; have r4 : w4.cell? ⟨w1.heap.size + 1, 4, none⟩ = some (.int .i64 0) := HS.out.now.2.1.cell 4; have r5 : w4.cell? ⟨w1.heap.size + 1, 5, none⟩ = some (.string sb) := HS.out.now.2.1.cell 5; clear ti2 _t) | (go_at_call 53; refine (MRange_is m out a (a + s.size) _ (HS.out.step (by repeat (first | exact Below.refl _ _ | apply zq2 | apply zq3 | apply zq4 | apply zq5))).now.1 HLO.out HBO.out HVO.out (by omega) (by omega) (by omega)).mono ?_; rintro e w5 ⟨rfl, hb⟩; rw [HFA.out, HPA.out, HFB.out, HPB.out]; have m_ := Aside0.mk (HS.out.call (by repeat (first | exact Below.refl _ _ | apply zq2 | apply zq3 | apply zq4 | apply zq5)) hb); clear HS hb ; have HS := m_; clear m_; have n1 := blk_lt HS.out.now.2.2.2.2.1; have n2 := blk_lt HS.out.now.2.2.2.2.2.1; have c0 : w5.cell? ⟨w.heap.size, 0, none⟩ = some (.bool false) := HS.out.now.2.2.2.2.1.cell 0; have c0a := cell_alloc1 c0; have c1 : w5.cell? ⟨w.heap.size, 1, none⟩ = some (.int .i64 x0) := HS.out.now.2.2.2.2.1.cell 1; have c1a := cell_alloc1 c1; have c2 : w5.cell? ⟨w.heap.size, 2, none⟩ = some (.int .i64 x1) := HS.out.now.2.2.2.2.1.cell 2; have c2a := cell_alloc1 c2; have c3 : w5.cell? ⟨w.heap.size, 3, none⟩ = some (.int .i64 x2) := HS.out.now.2.2.2.2.1.cell 3; have c3a := cell_alloc1 c3; have c4 : w5.cell? ⟨w.heap.size, 4, none⟩ = some (.int .i64 x3) := HS.out.now.2.2.2.2.1.cell 4; have c4a := cell_alloc1 c4; have c5 : w5.cell? ⟨w.heap.size, 5, none⟩ = some (.string s) := HS.out.now.2.2.2.2.1.cell 5; have c5a := cell_alloc1 c5; have k0 : w5.cell? ⟨w.heap.size + 1, 0, none⟩ = some (.bool false) := HS.out.now.2.2.2.2.2.1.cell 0; have f0 := HS.out.now.2.2.2.2.2.1.frozen 0; have k0a := cell_alloc1 k0; have f0a := froz_alloc1 k0 f0; have k0b := cell_alloc2 k0; have f0b := froz_alloc2 k0 f0; have k1 : w5.cell? ⟨w.heap.size + 1, 1, none⟩ = some (.int .i64 0) := HS.out.now.2.2.2.2.2.1.cell 1; have f1 := HS.out.now.2.2.2.2.2.1.frozen 1; have k1a := cell_alloc1 k1; have f1a := froz_alloc1 k1 f1; have k1b := cell_alloc2 k1; have f1b := froz_alloc2 k1 f1; have k2 : w5.cell? ⟨w.heap.size + 1, 2, none⟩ = some (.int .i64 0) := HS.out.now.2.2.2.2.2.1.cell 2; have f2 := HS.out.now.2.2.2.2.2.1.frozen 2; have k2a := cell_alloc1 k2; have f2a := froz_alloc1 k2 f2; have k2b := cell_alloc2 k2; have f2b := froz_alloc2 k2 f2; have k3 : w5.cell? ⟨w.heap.size + 1, 3, none⟩ = some (.int .i64 0) := HS.out.now.2.2.2.2.2.1.cell 3; have f3 := HS.out.now.2.2.2.2.2.1.frozen 3; have k3a := cell_alloc1 k3; have f3a := froz_alloc1 k3 f3; have k3b := cell_alloc2 k3; have f3b := froz_alloc2 k3 f3; have k4 : w5.cell? ⟨w.heap.size + 1, 4, none⟩ = some (.int .i64 0) := HS.out.now.2.2.2.2.2.1.cell 4; have f4 := HS.out.now.2.2.2.2.2.1.frozen 4; have k4a := cell_alloc1 k4; have f4a := froz_alloc1 k4 f4; have k4b := cell_alloc2 k4; have f4b := froz_alloc2 k4 f4; have k5 : w5.cell? ⟨w.heap.size + 1, 5, none⟩ = some (.string ⟨#[]⟩) := HS.out.now.2.2.2.2.2.1.cell 5; have f5 := HS.out.now.2.2.2.2.2.1.frozen 5; have k5a := cell_alloc1 k5; have f5a := froz_alloc1 k5 f5; have k5b := cell_alloc2 k5; have f5b := froz_alloc2 k5 f5; have q0 : w5.cell? ⟨w1.heap.size, 0, none⟩ = some (.int .i64 a) := HS.out.now.2.2.1.cell 0; have q0a := cell_alloc1 q0; have q1 : w5.cell? ⟨w1.heap.size, 1, none⟩ = some (.int .i64 b) := HS.out.now.2.2.1.cell 1; have q1a := cell_alloc1 q1; have ks2 := HKS.out ((w5.alloc (.cells #[.int .i64 fa, .int .i64 pa, .int .i64 fb, .int .i64 pb] 27)).drew) SB seg.length sd seg (Kd.C_drew (Kd.C_below (HCS.out w5 HS.out.bel) (below_alloc (Below.refl _ _) _))); have ks3 := HKS.out (w5.alloc (.cells #[.int .i64 fa, .int .i64 pa, .int .i64 fb, .int .i64 pb] 27)) SB seg.length sd seg (Kd.C_below (HCS.out w5 HS.out.bel) (below_alloc (Below.refl _ _) _)); simp only [HSS.out] at ks2 ks3))
  have e1 := Nat.ne_of_lt HGE.out
  have e2 := Ne.symm e1
  have e3 := Nat.ne_of_lt n2
  have e4 := Ne.symm e3
  have HS9 := Aside0.mk ((HS.out.step (below_alloc (Below.refl w5.heap.size w5) (.cells #[.int .i64 fa, .int .i64 pa, .int .i64 fb, .int .i64 pb] 27))).add (blk_new w5 (.cells #[.int .i64 fa, .int .i64 pa, .int .i64 fb, .int .i64 pb] 27)) (keeps_blk _ _))
  clear HS c0 k0 f0 c0a k0a f0a k0b f0b c1 k1 f1 c1a k1a f1a k1b f1b c2 k2 f2 c2a k2a f2a k2b f2b c3 k3 f3 c3a k3a f3a k3b f3b c4 k4 f4 c4a k4a f4a k4b f4b c5 k5 f5 c5a k5a f5a k5b f5b q0 q1 q0a q1a n1 n2
  generalize w5.alloc (.cells #[.int .i64 fa, .int .i64 pa, .int .i64 fb, .int .i64 pb] 27) = W6 at HS9 ks2 ks3 ⊢
  generalize w5.heap.size = g6 at HS9 e3 e4 ⊢
  have HS := HS9
  clear HS9
  have n1 := blk_lt HS.out.now.2.2.2.2.2.1
  have n2 := blk_lt HS.out.now.2.2.2.2.2.2.1
  have c0 : W6.cell? ⟨w.heap.size, 0, none⟩ = some (.bool false) := HS.out.now.2.2.2.2.2.1.cell 0
  have c1 : W6.cell? ⟨w.heap.size, 1, none⟩ = some (.int .i64 x0) := HS.out.now.2.2.2.2.2.1.cell 1
  have c2 : W6.cell? ⟨w.heap.size, 2, none⟩ = some (.int .i64 x1) := HS.out.now.2.2.2.2.2.1.cell 2
  have c3 : W6.cell? ⟨w.heap.size, 3, none⟩ = some (.int .i64 x2) := HS.out.now.2.2.2.2.2.1.cell 3
  have c4 : W6.cell? ⟨w.heap.size, 4, none⟩ = some (.int .i64 x3) := HS.out.now.2.2.2.2.2.1.cell 4
  have c5 : W6.cell? ⟨w.heap.size, 5, none⟩ = some (.string s) := HS.out.now.2.2.2.2.2.1.cell 5
  have k0 : W6.cell? ⟨w.heap.size + 1, 0, none⟩ = some (.bool false) := HS.out.now.2.2.2.2.2.2.1.cell 0
  have f0 := HS.out.now.2.2.2.2.2.2.1.frozen 0
  have k1 : W6.cell? ⟨w.heap.size + 1, 1, none⟩ = some (.int .i64 0) := HS.out.now.2.2.2.2.2.2.1.cell 1
  have f1 := HS.out.now.2.2.2.2.2.2.1.frozen 1
  have k2 : W6.cell? ⟨w.heap.size + 1, 2, none⟩ = some (.int .i64 0) := HS.out.now.2.2.2.2.2.2.1.cell 2
  have f2 := HS.out.now.2.2.2.2.2.2.1.frozen 2
  have k3 : W6.cell? ⟨w.heap.size + 1, 3, none⟩ = some (.int .i64 0) := HS.out.now.2.2.2.2.2.2.1.cell 3
  have f3 := HS.out.now.2.2.2.2.2.2.1.frozen 3
  have k4 : W6.cell? ⟨w.heap.size + 1, 4, none⟩ = some (.int .i64 0) := HS.out.now.2.2.2.2.2.2.1.cell 4
  have f4 := HS.out.now.2.2.2.2.2.2.1.frozen 4
  have k5 : W6.cell? ⟨w.heap.size + 1, 5, none⟩ = some (.string ⟨#[]⟩) := HS.out.now.2.2.2.2.2.2.1.cell 5
  have f5 := HS.out.now.2.2.2.2.2.2.1.frozen 5
  have z0 : W6.cell? ⟨g6, 0, none⟩ = some (.int .i64 fa) := HS.out.now.1.cell 0
  have z1 : W6.cell? ⟨g6, 1, none⟩ = some (.int .i64 pa) := HS.out.now.1.cell 1
  have z2 : W6.cell? ⟨g6, 2, none⟩ = some (.int .i64 fb) := HS.out.now.1.cell 2
  have z3 : W6.cell? ⟨g6, 3, none⟩ = some (.int .i64 pb) := HS.out.now.1.cell 3
  have q0 : W6.cell? ⟨w1.heap.size, 0, none⟩ = some (.int .i64 a) := HS.out.now.2.2.2.1.cell 0
  have q0a := cell_alloc1 q0
  have q1 : W6.cell? ⟨w1.heap.size, 1, none⟩ = some (.int .i64 b) := HS.out.now.2.2.2.1.cell 1
  have q1a := cell_alloc1 q1
  have q9 : Below w.heap.size w ((((((W6.setCell ⟨w.heap.size + 1, 0, none⟩ (.bool false)).setCell ⟨w.heap.size + 1, 1, none⟩ (.int .i64 fa)).setCell ⟨w.heap.size + 1, 2, none⟩ (.int .i64 pa)).setCell ⟨w.heap.size + 1, 3, none⟩ (.int .i64 fb)).setCell ⟨w.heap.size + 1, 4, none⟩ (.int .i64 pb)).setCell ⟨w.heap.size + 1, 5, none⟩ (.string ss)) := ((((((HS.out.bel.setCell (Nat.le_succ _) _).setCell (Nat.le_succ _) _).setCell (Nat.le_succ _) _).setCell (Nat.le_succ _) _).setCell (Nat.le_succ _) _).setCell (Nat.le_succ _) _)
  have ks5 := HKS.out (((((((W6.setCell ⟨w.heap.size + 1, 0, none⟩ (.bool false)).setCell ⟨w.heap.size + 1, 1, none⟩ (.int .i64 fa)).setCell ⟨w.heap.size + 1, 2, none⟩ (.int .i64 pa)).setCell ⟨w.heap.size + 1, 3, none⟩ (.int .i64 fb)).setCell ⟨w.heap.size + 1, 4, none⟩ (.int .i64 pb)).setCell ⟨w.heap.size + 1, 5, none⟩ (.string ss)).drew) SB seg.length sd seg (Kd.C_drew (HCS.out _ q9))
  simp only [HSS.out] at ks5
  clear q9
  go_region_held3 (fun wx => wx.cell? ⟨g6, 0, none⟩ = some (.int .i64 fa) ∧ wx.cell? ⟨g6, 1, none⟩ = some (.int .i64 pa) ∧ wx.cell? ⟨g6, 2, none⟩ = some (.int .i64 fb) ∧ wx.cell? ⟨g6, 3, none⟩ = some (.int .i64 pb) ∧ wx.cell? ⟨w1.heap.size, 0, none⟩ = some (.int .i64 a) ∧ wx.cell? ⟨w1.heap.size, 1, none⟩ = some (.int .i64 b) ∧ (convert 22 9 (.slice SB seg.length sd)).run Try.prog wx = .ok (.string ss) wx) (go_keep) (fail)
  all_goals
    go_wp2
    first | rw [Exit.noGoto_ret] | skip
    refine bodyPost_ret (v := .tuple #[.agg #[.bool false, .int .i64 fa, .int .i64 pa, .int .i64 fb, .int .i64 pb, .string ss], .int .i64 0]) (results_ct (p := 4) (u := 5) (ty := 29) rfl _ _ (w.heap.size + 1) 29 #[.bool false, .int .i64 fa, .int .i64 pa, .int .i64 fb, .int .i64 pb, .string ss] (0, 0) _ rfl ?_ Try.underlying29 rfl (by kernel_rfl)) rfl ⟨rfl, ?_⟩
    · show IsBlk _ (w.heap.size + 1) _
      (repeat (with_reducible first | refine IsBlk.alloc ?_ _ | refine IsBlk.drewN ?_ _ | refine IsBlk.drew1 ?_))
      with_reducible refine blk6 (z0 := .bool false) (z1 := .int .i64 0) (z2 := .int .i64 0) (z3 := .int .i64 0) (z4 := .int .i64 0) (z5 := (.string ⟨#[]⟩)) ?_ _ _ _ _ _ _
      repeat (with_reducible first | exact HS.out.now.2.2.2.2.2.2.1 | refine IsBlk.alloc ?_ _ | refine IsBlk.drewN ?_ _ | refine IsBlk.drew1 ?_)
    · have hS := HS.out.bel
      (repeat (first | (with_reducible exact hS) | (with_reducible refine below_alloc ?_ _) | (with_reducible refine pw_below_drewN ?_ _) | (with_reducible refine below_drew1 ?_) | ((with_reducible refine Below.setCell ?_ ?_ _); rotate_left; (focus (first | (simp; done) | (simp; omega))))))
theorem row2_at (W : World) (g : Nat) (hg : W.heap.size = g) (A B : Option Addr) (c d : Nat) (l t : List Int) (hr : Kd.C (Kd.int .u8) W A l.length l) (hc : l.length ≤ c) (hr2 : Kd.C (Kd.int .u8) W B t.length t) (hd : t.length ≤ d) (o : TypeId) :
    Kd.C (Kd.slice 5 (Kd.int .u8)) (W.alloc (.cells #[.slice A l.length c, .slice B t.length d] o)) (some ⟨g, 0, none⟩) [l, t].length [l, t] := by
  subst hg
  exact row2_C W A B c d l t hr hc hr2 hd o
theorem row1_at (W : World) (g : Nat) (hg : W.heap.size = g) (A : Option Addr) (c : Nat) (l : List Int) (hr : Kd.C (Kd.int .u8) W A l.length l) (hc : l.length ≤ c) (o : TypeId) :
    Kd.C (Kd.slice 5 (Kd.int .u8)) (W.alloc (.cells #[.slice A l.length c] o)) (some ⟨g, 0, none⟩) [l].length [l] := by
  subst hg
  exact row1_C W A c l hr hc o
structure Pre (a b : List Int) (k : Nat) : Prop where
  la : k ≤ a.length
  lb : k ≤ b.length
  eq : a.take k = b.take k
theorem Pre.step {a b : List Int} {k : Nat} (h : Pre a b k) (h1 : k < a.length) (h2 : k < b.length) (h3 : rd a k = rd b k) : Pre a b (k + 1) := by
  refine ⟨h1, h2, ?_⟩
  have e1 : rd a k = a[k] := by simp [rd, List.getD, h1]
  have e2 : rd b k = b[k] := by simp [rd, List.getD, h2]
  rw [List.take_succ_eq_append_getElem h1, List.take_succ_eq_append_getElem h2, h.eq, ← e1, ← e2, h3]
theorem Pre.stop {a b : List Int} {k : Nat} (h : k = a.length ∨ k = b.length ∨ rd a k ≠ rd b k) : ∀ n, k < n → n ≤ a.length → n ≤ b.length → a.take n ≠ b.take n := by
  intro n hk h1 h2 he
  have g := congrArg (fun l : List Int => l[k]?) he
  simp only [List.getElem?_take, if_pos hk] at g
  rcases h with h | h | h
  · omega
  · omega
  · apply h
    have e1 : rd a k = a[k] := by simp [rd, List.getD, show k < a.length by omega]
    have e2 : rd b k = b[k] := by simp [rd, List.getD, show k < b.length by omega]
    rw [List.getElem?_eq_getElem (show k < a.length by omega), List.getElem?_eq_getElem (show k < b.length by omega)] at g
    rw [e1, e2]
    exact Option.some.inj g
structure Down (a b : List Int) (k : Nat) : Prop where
  pre : Pre a b k
  most : ∀ n : Nat, k < n → n ≤ a.length → n ≤ b.length → a.take n = b.take n → ¬ IsP a n
theorem Down.step {a b : List Int} {k : Nat} (hA : Bytes a) (hv : V a) (h : Down a b k) (hp : isPb a k = false) : 0 < k ∧ Down a b (k - 1) := by
  have hn : ¬ IsP a k := fun e => by rw [(isPb_iff a k).2 e] at hp; cases hp
  have hk : 0 < k := by
    rcases Nat.eq_zero_or_pos k with h0 | h0
    · subst h0
      exact absurd (isP_0 hA hv) hn
    · exact h0
  refine ⟨hk, ⟨by have := h.pre.la; omega, by have := h.pre.lb; omega, ?_⟩, fun n h1 h2 h3 h4 => ?_⟩
  · have := congrArg (List.take (k - 1)) h.pre.eq
    rw [List.take_take, List.take_take, Nat.min_eq_left (by omega)] at this
    exact this
  · by_cases hkn : n = k
    · subst hkn; exact hn
    · exact h.most n (by omega) h2 h3 h4
structure Suf (a b : List Int) (f k : Nat) : Prop where
  la : f + k ≤ a.length
  lb : f + k ≤ b.length
  eq : a.drop (a.length - k) = b.drop (b.length - k)
theorem Suf.step {a b : List Int} {f k : Nat} (h : Suf a b f k) (h1 : f + k < a.length) (h2 : f + k < b.length) (h3 : rd a ((a.length - 1 - k : Nat) : Int) = rd b ((b.length - 1 - k : Nat) : Int)) : Suf a b f (k + 1) := by
  refine ⟨h1, h2, ?_⟩
  have l1 : a.length - 1 - k < a.length := by omega
  have l2 : b.length - 1 - k < b.length := by omega
  have e1 : rd a ((a.length - 1 - k : Nat) : Int) = a[a.length - 1 - k] := by simp [rd, List.getD, l1]
  have e2 : rd b ((b.length - 1 - k : Nat) : Int) = b[b.length - 1 - k] := by simp [rd, List.getD, l2]
  rw [show a.length - (k + 1) = a.length - 1 - k by omega, show b.length - (k + 1) = b.length - 1 - k by omega, List.drop_eq_getElem_cons l1, List.drop_eq_getElem_cons l2, ← e1, ← e2, h3, show a.length - 1 - k + 1 = a.length - k by omega, show b.length - 1 - k + 1 = b.length - k by omega, h.eq]
theorem Suf.stop {a b : List Int} {f k : Nat} (h : f + k = a.length ∨ f + k = b.length ∨ rd a ((a.length - 1 - k : Nat) : Int) ≠ rd b ((b.length - 1 - k : Nat) : Int)) : ∀ n, k < n → f + n ≤ a.length → f + n ≤ b.length → a.drop (a.length - n) ≠ b.drop (b.length - n) := by
  intro n hk h1 h2 he
  rcases h with h | h | h
  · omega
  · omega
  · apply h
    have l1 : a.length - 1 - k < a.length := by omega
    have l2 : b.length - 1 - k < b.length := by omega
    have e1 : rd a ((a.length - 1 - k : Nat) : Int) = a[a.length - 1 - k] := by simp [rd, List.getD, l1]
    have e2 : rd b ((b.length - 1 - k : Nat) : Int) = b[b.length - 1 - k] := by simp [rd, List.getD, l2]
    have g := congrArg (fun l : List Int => l[n - 1 - k]?) he
    simp only [List.getElem?_drop] at g
    rw [show a.length - n + (n - 1 - k) = a.length - 1 - k by omega, show b.length - n + (n - 1 - k) = b.length - 1 - k by omega, List.getElem?_eq_getElem l1, List.getElem?_eq_getElem l2] at g
    rw [e1, e2]
    exact Option.some.inj g
structure Far (a b : List Int) (f k : Nat) : Prop where
  suf : Suf a b f k
  far : ∀ n : Nat, k < n → f + n ≤ a.length → f + n ≤ b.length → a.drop (a.length - n) = b.drop (b.length - n) → ¬ IsP a ((a.length - n : Nat) : Int)
theorem Far.step {a b : List Int} {f k : Nat} (hA : Bytes a) (hv : V a) (h : Far a b f k) (hp : isPb a ((a.length - k : Nat) : Int) = false) : 0 < k ∧ Far a b f (k - 1) := by
  have hn : ¬ IsP a ((a.length - k : Nat) : Int) := fun e => by rw [(isPb_iff a _).2 e] at hp; cases hp
  have hk : 0 < k := by
    rcases Nat.eq_zero_or_pos k with h0 | h0
    · subst h0
      exact absurd (isP_end hA hv) hn
    · exact h0
  refine ⟨hk, ⟨by have := h.suf.la; omega, by have := h.suf.lb; omega, ?_⟩, fun n h1 h2 h3 h4 => ?_⟩
  · have l1 := h.suf.la
    have l2 := h.suf.lb
    have := congrArg (List.drop 1) h.suf.eq
    rw [List.drop_drop, List.drop_drop, show a.length - k + 1 = a.length - (k - 1) by omega, show b.length - k + 1 = b.length - (k - 1) by omega] at this
    exact this
  · by_cases hkn : n = k
    · subst hkn; exact hn
    · exact h.far n (by omega) h2 h3 h4
end Go.Proofs.Ytjebkpcekkkbkaa.B
