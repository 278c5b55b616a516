/-
  Texts of this session, one behind the other: H1, H2, B7, B8, H3, H4, H5, G3, N0, N1, N2, N3, N4, K0, K1.
-/
import Derived.Test.YtjebkpcekkkbkaaZN243
set_option linter.unusedSimpArgs false
set_option linter.unusedVariables false
namespace Go.Proofs.Ytjebkpcekkkbkaa.B
open Go.RowKit Go.Shelf Go.Proofs Go.Proofs.YtjebkpcekkkbkaaW.PrintWords Go.Proofs.YtjebkpcekkkbkaaW.PrintLast Go.Proofs.YtjebkpcekkkbkaaW.PrintMore Go.Proofs.Ytjebkpcekkkbkaa.FBase
set_option maxRecDepth 100000 in
set_option maxHeartbeats 1000000 in
theorem Clone_ok (A : Option Addr) (c : Nat) (l : List Int) (w : World) (hr : Kd.C (Kd.int .u8) w A l.length l) (hc : l.length ≤ c) (hn : A = none → c = 0) (hs : l.length ≤ 1048576) :
    Calls Try.prog 61 #[.slice A l.length c] w fun e w' => ∃ v : Value, e = .returned v ∧ Kd.R (Kd.int .u8) 5 w' w.heap.size (fun _ => True) v l ∧ Below w.heap.size w w' := by
  have HR := Aside0.mk hr
  have HC := Aside0.mk hc
  clear hr
  cases A with
  | none =>
    obtain rfl := hn rfl
    obtain rfl : l = [] := by cases l with | nil => rfl | cons _ _ => simp at hc
    have e0 := fun (w : World) (a : Option Addr) (n c n2 c2 : Nat) => Lib.run_eql_slice_nil (P := Try.prog) w 22 5 a n c n2 c2 Try.underlying22
    go_enter Try.func61, Try.ntmps61
    go_wp2
    go_ret
    exact ⟨_, rfl, Kd.R_nil _ _ _ _ _, Below.refl _ _⟩
  | some ad =>
    clear hc
    have e0 := fun (w : World) (a : Option Addr) (n c n2 c2 : Nat) => Lib.run_eql_slice_nil (P := Try.prog) w 22 5 a n c n2 c2 Try.underlying22
    go_enter Try.func61, Try.ntmps61
    go_wp2_with (first | ((with_reducible refine gate_dst (N := 5) rfl ?_); refine Kd.R_lit (Kd.int .u8) _ 5 ?hg (N := 5) ?hd (xs := ([] : List Int)) (inner := []) (ok := fun _ => True) (okp := fun _ => True) ?hr ?hp (fun _ hk => hk) trivial (Below.refl _ _) (Nat.le_refl _) (by simp) ?_; (case hd => rfl); (case hg => rfl); (case hr => first | (go_simp; done) | (go_simp; rfl)); (case hp => exact (Reps.none _ _)); intro v1 w5 ho hb hg_ hnew_; clear hg_ hnew_; have HO := Aside0.mk ho; have HB := Aside0.mk hb; clear hb ho) | ((with_reducible refine gate_builtin (b := .append) (xs := #[.tmp 5, .tmp 6]) rfl ?_); at_builtin; refine Kd.R_append_rows (Kd.int .u8) (w0 := w) w.heap.size rfl (.tmp 5) (.tmp 6) 22 5 (.int .u8 0) 1 rfl Try.underlying22 info5 rfl (by decide) (by omega) v1 [] l _ _ _ (fun _ => True) (fun _ => False) rfl rfl ?aO ?aR (fun _ _ h => h) (fun _ h => h.elim) ?aF ?aB ?aS ?aL ?_; (case aR => exact Kd.C_below HR.out (by repeat (first | exact HB.out | apply below_alloc | apply pw_below_drewN | apply below_drew1))); (case aB => exact (by repeat (first | exact HB.out | apply below_alloc | apply pw_below_drewN | apply below_drew1))); (case aF => exact (fun _ _ => trivial)); (case aO => exact HO.out); (case aS => exact below_size (by repeat (first | exact HB.out | apply below_alloc | apply pw_below_drewN | apply below_drew1))); (case aL => simp; omega); intro v2 w7 ho hb hg hat; have HB2 := Aside0.mk hb; have HO2 := Aside0.mk ho; clear ho hb hg hat))
    go_ret
    exact ⟨_, rfl, HO2.out, HB2.out⟩
set_option maxHeartbeats 1000000 in
theorem MNew_ok (k : Nat) (A : Option Addr) (c : Nat) (l : List Int) (r1 : Int) (w : World) (hr : Kd.C (Kd.int .u8) w A l.length l) (hc : l.length ≤ c) (hn : A = none → c = 0) (h : runes_Check.f k l = some (r1, 0)) (hs : l.length ≤ 1048576) :
    Calls Try.prog 25 #[.slice A l.length c] w fun e w' => ∃ m, e = .returned (.tuple #[.pointer (some ⟨m, 0, none⟩), .int .i64 0]) ∧ IsMap w' m l ∧ Below w.heap.size w w' := by
  have HS := Aside0.mk ((Sta.start w).only hr (keeps_C _ _ _ _))
  have HC := Aside0.mk hc
  have H := Aside0.mk h
  clear hr hc h
  go_enter Try.func25, Try.ntmps25
  go_wp2_with (first | (go_at_call 60; refine (New_all k A c l r1 _ (HS.out.step (by repeat (first | exact Below.refl _ _ | apply below_alloc | apply pw_below_drewN | apply below_drew1))).now HC.out H.out hs).mono ?_; rintro e w1 ⟨a, rfl, hle, hI, hb⟩; have hI := hI.now; clear hle; have m_ := Aside0.mk ((HS.out.call (by repeat (first | exact Below.refl _ _ | apply below_alloc | apply pw_below_drewN | apply below_drew1)) hb).add hI (keeps_idx _ _)); clear HS hb hI; have HS := m_; clear m_) | (go_at_call 61; refine (Clone_ok A c l _ (HS.out.step (by repeat (first | exact Below.refl _ _ | apply below_alloc | apply pw_below_drewN | apply below_drew1))).now.2 HC.out hn hs).mono ?_; rintro e w2 ⟨v, rfl, hR, hb⟩; obtain ⟨A2, c2, rfl⟩ := Kd.R_slice hR; obtain ⟨-, hcap, hC⟩ := Kd.R_reads' hR; have HCP := Aside0.mk hcap; clear hcap; have HRR := Aside0.mk hR; clear hR; have m_ := Aside0.mk ((HS.out.call (by repeat (first | exact Below.refl _ _ | apply below_alloc | apply pw_below_drewN | apply below_drew1)) hb).add hC (keeps_C _ _ _ _)); clear HS hb hC; have HS := m_; clear m_))
  go_ret2
  have hS := HS.out.step (below_alloc (Below.refl _ w2) (.cells #[.pointer (some ⟨a, 0, none⟩), .slice A2 l.length c2] 103))
  exact ⟨_, rfl, ⟨a, A2, c2, blk_new w2 _, hS.now.2.1, HCP.out, hS.now.1⟩, hS.bel⟩
theorem cut_seg (W : World) (A : Option Addr) (c : Nat) (l : List Int) (x0 x1 : Int) (hC : Kd.C (Kd.int .u8) W A l.length l) (hc : l.length ≤ c) (h0 : 0 ≤ x0) (h1 : x0 ≤ x1) (h2 : x1 ≤ l.length) :
    ∃ B d, (∀ W1 : World, (Instr.slice 22 (.slice A l.length c) (some (.int .i64 x0)) (some (.int .i64 x1)) none).run Try.prog W1 = .ok (.slice B ((l.take x1.toNat).drop x0.toNat).length d) W1) ∧
      Kd.C (Kd.int .u8) W B ((l.take x1.toNat).drop x0.toNat).length ((l.take x1.toNat).drop x0.toNat) ∧ ((l.take x1.toNat).drop x0.toNat).length ≤ d := by
  obtain ⟨i0, hi0, _, hsz, _⟩ := info_parts info5
  have hcut := cut_mid (P := Try.prog) 22 5 .i64 .i64 Try.underlying22 hi0 1 hsz A l.length c x0 x1 h0 h1 h2 hc
  have hmid := Kd.C_mid hC (lo := x0.toNat) (hi := x1.toNat) (by omega) (by omega) hc
  have hml : ((l.take x1.toNat).drop x0.toNat).length = x1.toNat - x0.toNat := by rw [List.length_drop, List.length_take]; omega
  refine ⟨_, c - x0.toNat, fun W1 => ?_, hmid, ?_⟩
  · rw [hml]; exact hcut W1
  · rw [hml]; omega
theorem cut_pre (W : World) (A : Option Addr) (c : Nat) (l : List Int) (x1 : Int) (hC : Kd.C (Kd.int .u8) W A l.length l) (hc : l.length ≤ c) (h0 : 0 ≤ x1) (h2 : x1 ≤ l.length) :
    (∀ W1 : World, (Instr.slice 22 (.slice A l.length c) none (some (.int .i64 x1)) none).run Try.prog W1 = .ok (.slice A (l.take x1.toNat).length c) W1) ∧
      Kd.C (Kd.int .u8) W A (l.take x1.toNat).length (l.take x1.toNat) ∧ (l.take x1.toNat).length ≤ c := by
  obtain ⟨i0, hi0, _, hsz, _⟩ := info_parts info5
  have hcut := cut_to (P := Try.prog) 22 5 .i64 Try.underlying22 hi0 A l.length c x1 h0 h2 hc
  have hmid := Kd.C_take hC (m := x1.toNat) (by omega)
  have hml : (l.take x1.toNat).length = x1.toNat := by rw [List.length_take]; omega
  refine ⟨fun W1 => ?_, hmid, ?_⟩
  · rw [hml]; exact hcut W1
  · rw [hml]; omega
def MapAt (W : World) (m a : Nat) (A : Option Addr) (c : Nat) (l : List Int) : Prop :=
  IsIdx W a (lns l 0 0) ∧ Kd.C (Kd.int .u8) W A l.length l ∧ IsBlk W m (.cells #[.pointer (some ⟨a, 0, none⟩), .slice A l.length c] 103)
theorem IsMap.open {W : World} {m : Nat} {l : List Int} (h : IsMap W m l) : ∃ a A c, l.length ≤ c ∧ MapAt W m a A c l := by
  obtain ⟨a, A, c, h1, h2, h3, h4⟩ := h
  exact ⟨a, A, c, h3, h2, h4, h1⟩
theorem MapAt.map {W : World} {m a c : Nat} {A : Option Addr} {l : List Int} (h : MapAt W m a A c l) (hc : l.length ≤ c) : IsMap W m l := ⟨a, A, c, h.2.2, h.1, hc, h.2.1⟩
theorem keeps_mapAt (m a : Nat) (A : Option Addr) (c : Nat) (l : List Int) : Keeps (fun W => MapAt W m a A c l) := keeps_and (keeps_idx _ _) (keeps_and (keeps_C _ _ _ _) (keeps_blk _ _))
set_option maxRecDepth 100000 in
set_option maxHeartbeats 1000000 in
theorem MOffset_neg (m : Nat) (l : List Int) (line char : Int) (w : World) (hM : IsMap w m l) (h : line < 0 ∨ char < 0) :
    Calls Try.prog 62 #[.pointer (some ⟨m, 0, none⟩), .agg #[.int .i64 line, .int .i64 char]] w fun e w' => e = .returned (.tuple #[.int .i64 0, .int .i64 9]) ∧ Below w.heap.size w w' := by
  obtain ⟨a, A, c, hc, hA⟩ := hM.open
  have HC := Aside0.mk hc
  have hb1 := below_alloc (Below.refl _ w) (.cells #[.int .i64 line, .int .i64 char] 25)
  have HS : Aside0 (Sta w (w.alloc (.cells #[.int .i64 line, .int .i64 char] 25)) (fun W => IsBlk W w.heap.size (.cells #[.int .i64 line, .int .i64 char] 25) ∧ MapAt W m a A c l)) := ⟨⟨hb1, ⟨blk_new w _, keeps_mapAt m a A c l _ _ hA hb1⟩, keeps_and (keeps_blk _ _) (keeps_mapAt _ _ _ _ _)⟩⟩
  have cb : (w.alloc (.cells #[.int .i64 line, .int .i64 char] 25)).cell? ⟨w.heap.size, 0, none⟩ = some (.int .i64 line) := HS.out.now.1.cell 0
  have cc : (w.alloc (.cells #[.int .i64 line, .int .i64 char] 25)).cell? ⟨w.heap.size, 1, none⟩ = some (.int .i64 char) := HS.out.now.1.cell 1
  clear hM hA hb1 hc
  by_cases hl : line < 0
  all_goals
    have hch : ¬ line < 0 → decide (char < 0) = true := fun h => decide_eq_true (by omega)
    go_enter Try.func62, Try.ntmps62
    go_wp2_with (go_at_call 87; refine (none_map _ m l (MapAt.map (HS.out.step (by repeat (first | exact Below.refl _ _ | apply below_alloc | apply pw_below_drewN | apply below_drew1))).now.2 HC.out)).mono ?_; rintro e w' ⟨rfl, rfl⟩)
    go_ret2
    exact ⟨rfl, HS.out.bel⟩
set_option maxRecDepth 100000 in
set_option maxHeartbeats 1000000 in
theorem MOffset_far (m : Nat) (l : List Int) (line char : Int) (w : World) (hM : IsMap w m l) (hs : l.length ≤ 1048576) (h0 : 0 ≤ line) (h1 : 0 ≤ char) (h : (lns l 0 0).length ≤ line) :
    Calls Try.prog 62 #[.pointer (some ⟨m, 0, none⟩), .agg #[.int .i64 line, .int .i64 char]] w fun e w' => e = .returned (.tuple #[.int .i64 l.length, .int .i64 0]) ∧ Below w.heap.size w w' := by
  obtain ⟨a, A, c, hc, hA⟩ := hM.open
  have HC := Aside0.mk hc
  have hb1 := below_alloc (Below.refl _ w) (.cells #[.int .i64 line, .int .i64 char] 25)
  have HS : Aside0 (Sta w (w.alloc (.cells #[.int .i64 line, .int .i64 char] 25)) (fun W => IsBlk W w.heap.size (.cells #[.int .i64 line, .int .i64 char] 25) ∧ MapAt W m a A c l)) := ⟨⟨hb1, ⟨blk_new w _, keeps_mapAt m a A c l _ _ hA hb1⟩, keeps_and (keeps_blk _ _) (keeps_mapAt _ _ _ _ _)⟩⟩
  have cb : (w.alloc (.cells #[.int .i64 line, .int .i64 char] 25)).cell? ⟨w.heap.size, 0, none⟩ = some (.int .i64 line) := HS.out.now.1.cell 0
  have cc : (w.alloc (.cells #[.int .i64 line, .int .i64 char] 25)).cell? ⟨w.heap.size, 1, none⟩ = some (.int .i64 char) := HS.out.now.1.cell 1
  have cm : (w.alloc (.cells #[.int .i64 line, .int .i64 char] 25)).cell? ⟨m, 0, none⟩ = some (.pointer (some ⟨a, 0, none⟩)) := HS.out.now.2.2.2.cell 0
  clear hM hA hb1 hc
  have hch := lns_chain0 l
  have hln : (lns l 0 0).length ≤ 2097152 := by have := hch.length_le; omega
  have hpos := hch.pos
  obtain ⟨L, hL⟩ : ∃ L, L = lns l 0 0 := ⟨_, rfl⟩
  have HLE := Aside0.mk hL
  rw [← hL] at hln hpos h
  clear hL hch
  have d0 : decide (line < 0) = false := decide_eq_false (by omega)
  have d1 : decide (char < 0) = false := decide_eq_false (by omega)
  have d2 : decide ((L.length : Int) ≤ line) = true := decide_eq_true h
  go_enter Try.func62, Try.ntmps62
  go_upto_region 5 with (go_at_call 87; refine (none_map _ m l (MapAt.map (HS.out.step (by repeat (first | exact Below.refl _ _ | apply below_alloc | apply pw_below_drewN | apply below_drew1))).now.2 HC.out)).mono ?_; rintro e w' ⟨rfl, rfl⟩)
  go_region_held3 (fun wx => wx.cell? ⟨w.heap.size, 0, none⟩ = some (.int .i64 line) ∧ wx.cell? ⟨m, 0, none⟩ = some (.pointer (some ⟨a, 0, none⟩))) (go_keep) (first | (go_at_call 88; refine (Count_ok a L _ (HLE.out ▸ (HS.out.step (by repeat (first | exact Below.refl _ _ | apply below_alloc | apply pw_below_drewN | apply below_drew1))).now.2.1) hpos hln).mono ?_; rintro e w5 ⟨rfl, hb⟩; have m_ := Aside0.mk (HS.out.call (by repeat (first | exact Below.refl _ _ | apply below_alloc | apply pw_below_drewN | apply below_drew1)) hb); clear HS hb ; have HS := m_; clear m_; have cb : w5.cell? ⟨w.heap.size, 0, none⟩ = some (.int .i64 line) := HS.out.now.1.cell 0; have cm : w5.cell? ⟨m, 0, none⟩ = some (.pointer (some ⟨a, 0, none⟩)) := HS.out.now.2.2.2.cell 0))
  have c1 : w5.cell? ⟨m, 1, none⟩ = some (.slice A l.length c) := HS.out.now.2.2.2.cell 1
  go_wp2
  go_ret2
  exact ⟨rfl, HS.out.bel⟩
attribute [local go_sem] Oper.semAt_some
def Box1 (W : World) (g : Nat) (v : Value) : Prop := W.cell? ⟨g, 0, none⟩ = some v ∧ W.frozen? ⟨g, 0, none⟩ = false
theorem Box1.below {W W1 : World} {g : Nat} {v : Value} (h : Box1 W g v) (hb : Below W.heap.size W W1) : Box1 W1 g v := by
  have hlt := World.block_lt_of_cell? W _ h.1
  exact ⟨(hb.cell hlt).trans h.1, (hb.frozen hlt).trans h.2⟩
theorem Box1.new (W : World) (t : TypeId) (v : Value) : Box1 (W.alloc (.cells #[v] t)) W.heap.size v := ⟨(blk_cell (blk_new W _) 0).trans rfl, blk_frozen (blk_new W _) 0⟩
theorem Box1.set {W : World} {g : Nat} {v : Value} (h : Box1 W g v) (u : Value) : Box1 (W.setCell ⟨g, 0, none⟩ u) g u :=
  ⟨World.cell?_setCell_same' _ _ _ (by rw [h.1]; rfl), by rw [World.frozen?_setCell]; exact h.2⟩
end Go.Proofs.Ytjebkpcekkkbkaa.B
namespace Go.Proofs.Ytjebkpcekkkbkaa.B
open Go.RowKit Go.Shelf Go.Proofs Go.Proofs.YtjebkpcekkkbkaaW.PrintWords Go.Proofs.YtjebkpcekkkbkaaW.PrintLast Go.Proofs.YtjebkpcekkkbkaaW.PrintMore Go.Proofs.Ytjebkpcekkkbkaa.FBase
attribute [local go_sem] Oper.semAt_some
def SpBox (W : World) (b : Nat) (x : Ln) : Prop := W.cell? ⟨b, 0, none⟩ = some (.int .i64 x.f0) ∧ W.cell? ⟨b, 1, none⟩ = some (.int .i64 x.f1)
theorem SpBox.below {W W1 : World} {b : Nat} {x : Ln} (h : SpBox W b x) (hb : Below W.heap.size W W1) : SpBox W1 b x := by
  exact ⟨(hb.cell (World.block_lt_of_cell? W _ h.1)).trans h.1, (hb.cell (World.block_lt_of_cell? W _ h.2)).trans h.2⟩
end Go.Proofs.Ytjebkpcekkkbkaa.B
namespace Go.Proofs.Ytjebkpcekkkbkaa.B
open Go.RowKit Go.Shelf Go.Proofs Go.Proofs.YtjebkpcekkkbkaaW.PrintWords Go.Proofs.YtjebkpcekkkbkaaW.PrintLast Go.Proofs.YtjebkpcekkkbkaaW.PrintMore Go.Proofs.Ytjebkpcekkkbkaa.FBase
theorem bcell {W w1 : World} (hb : Below W.heap.size W w1) : (∀ b o, b < W.heap.size → w1.cell? ⟨b, o, none⟩ = W.cell? ⟨b, o, none⟩) ∧ (∀ b o, b < W.heap.size → w1.frozen? ⟨b, o, none⟩ = W.frozen? ⟨b, o, none⟩) :=
  ⟨fun b o h => hb.cell (p := ⟨b, o, none⟩) h, fun b o h => hb.frozen (p := ⟨b, o, none⟩) h⟩
theorem froz_alloc1 {W : World} {p : Addr} {v : Value} (hc : W.cell? p = some v) (h : W.frozen? p = false) (o : Obj) : (W.alloc o).frozen? p = false := ((below_alloc (Below.refl _ W) o).frozen (World.block_lt_of_cell? W _ hc)).trans h
theorem sp_two {W : World} {b : Nat} {u v p q : Value} (h0 : W.cell? ⟨b, 0, none⟩ = some u) (h1 : W.cell? ⟨b, 1, none⟩ = some v) :
    ((W.setCell ⟨b, 0, none⟩ p).setCell ⟨b, 1, none⟩ q).cell? ⟨b, 0, none⟩ = some p ∧ ((W.setCell ⟨b, 0, none⟩ p).setCell ⟨b, 1, none⟩ q).cell? ⟨b, 1, none⟩ = some q :=
  ⟨(World.cell?_setCell_other _ _ _ _ (by simp)).trans (World.cell?_setCell_same' _ _ _ (by rw [h0]; rfl)), World.cell?_setCell_same' _ _ _ (by rw [World.cell?_setCell_other _ _ _ _ (by simp), h1]; rfl)⟩
theorem keeps_sp (b : Nat) (x : Ln) : Keeps (fun W => SpBox W b x) := fun _ _ h hb => h.below hb
set_option maxRecDepth 100000 in
set_option maxHeartbeats 1000000 in
theorem MOffset_in (m : Nat) (l : List Int) (line char : Int) (w : World) (hM : IsMap w m l) (hs : l.length ≤ 1048576) (hB : Bytes l) (hv : V l) (h0 : 0 ≤ line) (h1 : 0 ≤ char) (h1b : char ≤ 9223372036854775807) (hlt : line < (lns l 0 0).length) :
    Calls Try.prog 62 #[.pointer (some ⟨m, 0, none⟩), .agg #[.int .i64 line, .int .i64 char]] w fun e w' => e = .returned (.tuple #[.int .i64 ((rdLn (lns l 0 0) line).f0 + off (chars (seg l (rdLn (lns l 0 0) line))) char), .int .i64 0]) ∧ Below w.heap.size w w' := by
  obtain ⟨a, A, c, hc, hA⟩ := hM.open
  have HC := Aside0.mk hc
  have hb1 := below_alloc (Below.refl _ w) (.cells #[.int .i64 line, .int .i64 char] 25)
  have HS : Aside0 (Sta w (w.alloc (.cells #[.int .i64 line, .int .i64 char] 25)) (fun W => IsBlk W w.heap.size (.cells #[.int .i64 line, .int .i64 char] 25) ∧ MapAt W m a A c l)) := ⟨⟨hb1, ⟨blk_new w _, keeps_mapAt m a A c l _ _ hA hb1⟩, keeps_and (keeps_blk _ _) (keeps_mapAt _ _ _ _ _)⟩⟩
  have cb : (w.alloc (.cells #[.int .i64 line, .int .i64 char] 25)).cell? ⟨w.heap.size, 0, none⟩ = some (.int .i64 line) := HS.out.now.1.cell 0
  have cc : (w.alloc (.cells #[.int .i64 line, .int .i64 char] 25)).cell? ⟨w.heap.size, 1, none⟩ = some (.int .i64 char) := HS.out.now.1.cell 1
  have cm : (w.alloc (.cells #[.int .i64 line, .int .i64 char] 25)).cell? ⟨m, 0, none⟩ = some (.pointer (some ⟨a, 0, none⟩)) := HS.out.now.2.2.2.cell 0
  clear hM hA hb1 hc
  have hch := lns_chain0 l
  have hln : (lns l 0 0).length ≤ 2097152 := by have := hch.length_le; omega
  have hpos := hch.pos
  have hat := hch.at line.toNat (by omega)
  rw [show ((line.toNat : Nat) : Int) = line by omega] at hat
  have hsv := line_V hB hv line.toNat (by omega)
  rw [show ((line.toNat : Nat) : Int) = line by omega] at hsv
  have hcs : Cs (seg l (rdLn (lns l 0 0) line)) (chars (seg l (rdLn (lns l 0 0) line))) := V.chars hsv
  have hsl : (seg l (rdLn (lns l 0 0) line)).length ≤ 1048576 := by unfold seg; rw [List.length_drop, List.length_take]; omega
  have hbs : Bytes (seg l (rdLn (lns l 0 0) line)) := fun y hy => hB y (List.mem_of_mem_take (List.mem_of_mem_drop hy))
  have hsgl : ((seg l (rdLn (lns l 0 0) line)).length : Int) = (rdLn (lns l 0 0) line).f1 - (rdLn (lns l 0 0) line).f0 := by unfold seg; rw [List.length_drop, List.length_take]; omega
  obtain ⟨g, hsz⟩ := hcs.good hbs
  have hor := off_range char g
  have x0 : 0 ≤ (rdLn (lns l 0 0) line).f0 := hat.1
  have x1 : (rdLn (lns l 0 0) line).f0 ≤ (rdLn (lns l 0 0) line).f1 := hat.2.1
  have x2 : (rdLn (lns l 0 0) line).f1 ≤ l.length := by have := hat.2.2.1; have := hat.2.2.2.1; omega
  rw [hsz, hsgl] at hor
  have hseg : seg l (rdLn (lns l 0 0) line) = (l.take (rdLn (lns l 0 0) line).f1.toNat).drop (rdLn (lns l 0 0) line).f0.toNat := rfl
  have HSEG := Aside0.mk hseg
  clear hat hsv hch hseg hsgl hsz g
  generalize chars (seg l (rdLn (lns l 0 0) line)) = r at *
  generalize seg l (rdLn (lns l 0 0) line) = sg at *
  obtain ⟨L, hL⟩ : ∃ L, L = lns l 0 0 := ⟨_, rfl⟩
  have HLE := Aside0.mk hL
  rw [← hL] at hln hpos hlt hor x0 x1 x2 HSEG ⊢
  clear hL
  have HCS := Aside0.mk hcs
  have HBS := Aside0.mk hbs
  clear hcs hbs
  have d0 : decide (line < 0) = false := decide_eq_false (by omega)
  have d1 : decide (char < 0) = false := decide_eq_false (by omega)
  have d2 : decide ((L.length : Int) ≤ line) = false := decide_eq_false (by omega)
  obtain ⟨x, hx⟩ : ∃ x, x = rdLn L line := ⟨_, rfl⟩
  have HX := Aside0.mk hx
  rw [← hx] at hor x0 x1 x2 HSEG ⊢
  clear hx
  go_enter Try.func62, Try.ntmps62
  go_upto_region 5 with (go_at_call 87; refine (none_map _ m l (MapAt.map (HS.out.step (by repeat (first | exact Below.refl _ _ | apply below_alloc | apply pw_below_drewN | apply below_drew1))).now.2 HC.out)).mono ?_; rintro e w' ⟨rfl, rfl⟩)
  go_region_held3 (fun wx => wx.cell? ⟨w.heap.size, 0, none⟩ = some (.int .i64 line) ∧ wx.cell? ⟨m, 0, none⟩ = some (.pointer (some ⟨a, 0, none⟩))) (go_keep) (first | (go_at_call 88; refine (Count_ok a L _ (HLE.out ▸ (HS.out.step (by repeat (first | exact Below.refl _ _ | apply below_alloc | apply pw_below_drewN | apply below_drew1))).now.2.1) hpos hln).mono ?_; rintro e w5 ⟨rfl, hb⟩; have m_ := Aside0.mk (HS.out.call (by repeat (first | exact Below.refl _ _ | apply below_alloc | apply pw_below_drewN | apply below_drew1)) hb); clear HS hb ; have HS := m_; clear m_; have cb : w5.cell? ⟨w.heap.size, 0, none⟩ = some (.int .i64 line) := HS.out.now.1.cell 0; have cm : w5.cell? ⟨m, 0, none⟩ = some (.pointer (some ⟨a, 0, none⟩)) := HS.out.now.2.2.2.cell 0))
  go_upto_region 7 with fail
  go_cut [6, 7, 8] from 10 (fun s6 s7 s8 W => ∃ b7, s7 = .pointer (some ⟨b7, 0, none⟩) ∧ s8 = .int .i64 0 ∧ Aside0 (Sta w W (fun W => SpBox W b7 x ∧ IsBlk W w.heap.size (.cells #[.int .i64 line, .int .i64 char] 25) ∧ MapAt W m a A c l)))
  case first =>
    have n1 := blk_lt HS.out.now.1
    have n2 := blk_lt HS.out.now.2.2.2
    have HS5 := HS
    have e1 : ¬ (w5.heap.size = w.heap.size) := by omega
    have e2 : ¬ (w.heap.size = w5.heap.size) := by omega
    have e3 : ¬ (w5.heap.size = m) := by omega
    have e4 : ¬ (m = w5.heap.size) := by omega
    have e5 : ¬ (w5.heap.size + 1 = w.heap.size) := by omega
    have e6 : ¬ (w.heap.size = w5.heap.size + 1) := by omega
    have e7 : ¬ (w5.heap.size + 1 = m) := by omega
    have e8 : ¬ (m = w5.heap.size + 1) := by omega
    go_region_held3 (fun wx => wx.cell? ⟨w.heap.size, 0, none⟩ = some (.int .i64 line) ∧ wx.cell? ⟨m, 0, none⟩ = some (.pointer (some ⟨a, 0, none⟩))) (go_keep) (first | (go_at_call 89; refine (Line_ok a L line _ (HLE.out ▸ (HS.out.step (by repeat (first | exact Below.refl _ _ | apply below_alloc | apply pw_below_drewN | apply below_drew1))).now.2.1) h0 hlt hln).mono ?_; rintro e w6 ⟨rfl, hb⟩; rw [← HX.out]; obtain ⟨hbc, hbf⟩ := bcell hb; have z0 := hbc w5.heap.size 0; have z1 := hbc w5.heap.size 1; have y0 := hbf w5.heap.size 0; have y1 := hbf w5.heap.size 1; have z2 := hbc (w5.heap.size + 1) 0; have z3 := hbc (w5.heap.size + 1) 1; have y2 := hbf (w5.heap.size + 1) 0; have y3 := hbf (w5.heap.size + 1) 1; simp at z0 z1 y0 y1 z2 z3 y2 y3; (try (have za0 := cell_alloc1 z0; have za1 := cell_alloc1 z1; have ya0 := froz_alloc1 z0 y0; have ya1 := froz_alloc1 z1 y1; have q0 := Nat.ne_of_lt (World.block_lt_of_cell? _ _ z0); have q1 := Ne.symm q0)); clear hbc hbf; have HBC := Aside0.mk hb; have HBZ := Aside0.mk hb.size; have m_ := Aside0.mk (HS.out.call (by repeat (first | exact Below.refl _ _ | apply below_alloc | apply pw_below_drewN | apply below_drew1)) hb); clear HS hb ; have HS := m_; clear m_; have cb : w6.cell? ⟨w.heap.size, 0, none⟩ = some (.int .i64 line) := HS.out.now.1.cell 0; have cm : w6.cell? ⟨m, 0, none⟩ = some (.pointer (some ⟨a, 0, none⟩)) := HS.out.now.2.2.2.cell 0; have cb1 := cell_alloc1 cb; have cb2 := cell_alloc2 cb; have cm1 := cell_alloc1 cm; have cm2 := cell_alloc2 cm; have qb := World.block_lt_of_cell? _ _ cb; have qm := World.block_lt_of_cell? _ _ cm; have qb1 := Nat.ne_of_lt qb; have qb2 := Ne.symm qb1; have qb3 := Nat.ne_of_lt (Nat.lt_succ_of_lt qb); have qb4 := Ne.symm qb3; have qm1 := Nat.ne_of_lt qm; have qm2 := Ne.symm qm1; have qm3 := Nat.ne_of_lt (Nat.lt_succ_of_lt qm); have qm4 := Ne.symm qm3))
    all_goals
      have hbz := HBZ.out
      simp at hbz
      clear HBZ HS
      go_wp2
      go_meet
      refine ⟨_, rfl, rfl, ⟨(HS5.out.step ?_).add ⟨?_, ?_⟩ (keeps_sp _ _)⟩⟩
      · repeat' (first | exact below_step (by repeat (first | exact Below.refl _ _ | apply below_alloc | apply pw_below_drewN | apply below_drew1)) HBC.out | apply below_alloc | apply below_drew1 | apply Below.setCell | (simp; done) | (simp; omega))
      · first | (go_simp; done) | (simp [*]; done) | exact (sp_two ((World.cell?_setCell_other _ _ _ _ (by simp)).trans ((World.cell?_setCell_other _ _ _ _ (by simp)).trans (z0 (Nat.lt_succ_of_lt (Nat.lt_succ_self _))))) ((World.cell?_setCell_other _ _ _ _ (by simp)).trans ((World.cell?_setCell_other _ _ _ _ (by simp)).trans (z1 (Nat.lt_succ_of_lt (Nat.lt_succ_self _)))))).1
      · first | (go_simp; done) | (simp [*]; done) | exact (sp_two ((World.cell?_setCell_other _ _ _ _ (by simp)).trans ((World.cell?_setCell_other _ _ _ _ (by simp)).trans (z0 (Nat.lt_succ_of_lt (Nat.lt_succ_self _))))) ((World.cell?_setCell_other _ _ _ _ (by simp)).trans ((World.cell?_setCell_other _ _ _ _ (by simp)).trans (z1 (Nat.lt_succ_of_lt (Nat.lt_succ_self _)))))).2
  case rest =>
    clear cb cc cm HS
    obtain ⟨b7, rfl, rfl, HS⟩ := hcut
    have cb : wc.cell? ⟨w.heap.size, 1, none⟩ = some (.int .i64 char) := HS.out.now.2.1.cell 1
    have cm : wc.cell? ⟨m, 1, none⟩ = some (.slice A l.length c) := HS.out.now.2.2.2.2.cell 1
    have s0 : wc.cell? ⟨b7, 0, none⟩ = some (.int .i64 x.f0) := HS.out.now.1.1
    have s1 : wc.cell? ⟨b7, 1, none⟩ = some (.int .i64 x.f1) := HS.out.now.1.2
    obtain ⟨B, d, hcut, hsg, hsd⟩ := cut_seg _ A c l x.f0 x.f1 HS.out.now.2.2.2.1 HC.out x0 x1 x2
    rw [← HSEG.out] at hcut hsg hsd
    have HSG := Aside0.mk hsg
    have HSD := Aside0.mk hsd
    clear hsg hsd
    have wr : wrap64 (x.f0 + off r char) = x.f0 + off r char := by unfold wrap64; omega
    go_upto_region 10 with fail
    go_cut [8, 9] from 10 (fun s8 s9 W => s8 = .int .i64 0 ∧ s9 = .int .i64 (off r char) ∧ Aside0 (Sta w W (fun W => SpBox W b7 x ∧ IsBlk W w.heap.size (.cells #[.int .i64 line, .int .i64 char] 25) ∧ MapAt W m a A c l)))
    case first =>
      go_region_held3 (fun wx => wx.cell? ⟨w.heap.size, 1, none⟩ = some (.int .i64 char) ∧ wx.cell? ⟨m, 1, none⟩ = some (.slice A l.length c) ∧ wx.cell? ⟨b7, 0, none⟩ = some (.int .i64 x.f0) ∧ wx.cell? ⟨b7, 1, none⟩ = some (.int .i64 x.f1)) (go_keep) (first | (go_at_call 90; refine (UOffset_ok B d sg r char _ (Kd.C_below HSG.out (by repeat (first | exact Below.refl _ _ | apply below_alloc | apply pw_below_drewN | apply below_drew1))) HSD.out HBS.out hsl HCS.out h1 h1b).mono ?_; rintro e w8 ⟨rfl, hb⟩; have m_ := Aside0.mk (HS.out.call (by repeat (first | exact Below.refl _ _ | apply below_alloc | apply pw_below_drewN | apply below_drew1)) hb); clear HS hb ; have HS := m_; clear m_; have cb : w8.cell? ⟨w.heap.size, 1, none⟩ = some (.int .i64 char) := HS.out.now.2.1.cell 1; have cm : w8.cell? ⟨m, 1, none⟩ = some (.slice A l.length c) := HS.out.now.2.2.2.2.cell 1; have s0 : w8.cell? ⟨b7, 0, none⟩ = some (.int .i64 x.f0) := HS.out.now.1.1; have s1 : w8.cell? ⟨b7, 1, none⟩ = some (.int .i64 x.f1) := HS.out.now.1.2))
      go_wp2
      go_meet
      exact ⟨rfl, rfl, HS⟩
    case rest =>
      clear cb cm s0 s1 HS
      obtain ⟨rfl, rfl, HS⟩ := hcut
      have s0 : wc.cell? ⟨b7, 0, none⟩ = some (.int .i64 x.f0) := HS.out.now.1.1
      go_wp2
      go_ret2
      exact ⟨rfl, HS.out.bel⟩
theorem froz_alloc2 {W : World} {p : Addr} {v : Value} (hc : W.cell? p = some v) (h : W.frozen? p = false) (o o' : Obj) : ((W.alloc o).alloc o').frozen? p = false := froz_alloc1 (cell_alloc1 hc o) (froz_alloc1 hc h o) o'
theorem FindAt.from_le {L : List Ln} {fr e at_ : Int} {r : Nat} (hc : Chain L fr e) (h : FindAt L at_ r) (h0 : fr ≤ at_) : (rdLn L r).f0 ≤ at_ := by
  have h1 := h.1
  cases r with
  | zero => have := (hc.at 0 h1).2.2.2.2.1 rfl; rw [this]; exact h0
  | succ r =>
    have h2 := (hc.at r (by omega)).2.2.2.2.2.1 h1
    rw [h2.2.2]
    exact h.2.1 r (Nat.lt_succ_self _)
set_option maxRecDepth 100000 in
set_option maxHeartbeats 1000000 in
theorem MPos_ok (m : Nat) (l : List Int) (at_ : Int) (r : Nat) (w : World) (hM : IsMap w m l) (hs : l.length ≤ 1048576) (hB : Bytes l) (hv : V l) (h0 : 0 ≤ at_) (h1 : at_ ≤ l.length) (hf : FindAt (lns l 0 0) at_ r) :
    Calls Try.prog 80 #[.pointer (some ⟨m, 0, none⟩), .int .i64 at_] w fun e w' => e = .returned (.tuple #[.agg #[.int .i64 r, .int .i64 (ufl (chars (seg l (rdLn (lns l 0 0) r))) (at_ - (rdLn (lns l 0 0) r).f0))], .int .i64 0]) ∧ Below w.heap.size w w' := by
  obtain ⟨a, A, c, hc, hA⟩ := hM.open
  have HC := Aside0.mk hc
  have hb1 := below_alloc (Below.refl _ w) (.cells #[.int .i64 0, .int .i64 0] 25)
  have HS : Aside0 (Sta w (w.alloc (.cells #[.int .i64 0, .int .i64 0] 25)) (fun W => IsBlk W w.heap.size (.cells #[.int .i64 0, .int .i64 0] 25) ∧ MapAt W m a A c l)) := ⟨⟨hb1, ⟨blk_new w _, keeps_mapAt m a A c l _ _ hA hb1⟩, keeps_and (keeps_blk _ _) (keeps_mapAt _ _ _ _ _)⟩⟩
  have cm : (w.alloc (.cells #[.int .i64 0, .int .i64 0] 25)).cell? ⟨m, 0, none⟩ = some (.pointer (some ⟨a, 0, none⟩)) := HS.out.now.2.2.2.cell 0
  clear hM hA hb1 hc
  have hch := lns_chain0 l
  have hln : (lns l 0 0).length ≤ 2097152 := by have := hch.length_le; omega
  have hr := hf.1
  have hat := hch.at r hr
  have hfl := hf.from_le hch h0
  have hcs : Cs (seg l (rdLn (lns l 0 0) r)) (chars (seg l (rdLn (lns l 0 0) r))) := V.chars (line_V hB hv r hr)
  have hsl : (seg l (rdLn (lns l 0 0) r)).length ≤ 1048576 := by unfold seg; rw [List.length_drop, List.length_take]; omega
  have hbs : Bytes (seg l (rdLn (lns l 0 0) r)) := fun y hy => hB y (List.mem_of_mem_take (List.mem_of_mem_drop hy))
  have hsgl : ((seg l (rdLn (lns l 0 0) r)).length : Int) = (rdLn (lns l 0 0) r).f1 - (rdLn (lns l 0 0) r).f0 := by unfold seg; rw [List.length_drop, List.length_take]; omega
  obtain ⟨g, hsz⟩ := hcs.good hbs
  have x0 : 0 ≤ (rdLn (lns l 0 0) r).f0 := hat.1
  have x1 : (rdLn (lns l 0 0) r).f0 ≤ (rdLn (lns l 0 0) r).f1 := hat.2.1
  have x2 : (rdLn (lns l 0 0) r).f1 ≤ l.length := by have := hat.2.2.1; have := hat.2.2.2.1; omega
  have HSEG := Aside0.mk (show seg l (rdLn (lns l 0 0) r) = (l.take (rdLn (lns l 0 0) r).f1.toNat).drop (rdLn (lns l 0 0) r).f0.toNat from rfl)
  have HF := Aside0.mk hf
  have HCH := Aside0.mk hch
  clear hat hch hf
  generalize chars (seg l (rdLn (lns l 0 0) r)) = rs at *
  generalize seg l (rdLn (lns l 0 0) r) = sg at *
  obtain ⟨L, hL⟩ : ∃ L, L = lns l 0 0 := ⟨_, rfl⟩
  have HLE := Aside0.mk hL
  rw [← hL] at hln hr x0 x1 x2 HSEG hfl hsgl HF HCH ⊢
  clear hL
  obtain ⟨x, hx⟩ : ∃ x, x = rdLn L r := ⟨_, rfl⟩
  have HX := Aside0.mk hx
  rw [← hx] at x0 x1 x2 HSEG hfl hsgl ⊢
  clear hx
  obtain ⟨hi, hhi⟩ : ∃ hi : Int, hi = if at_ ≤ x.f1 then at_ else x.f1 := ⟨_, rfl⟩
  have hi1 : x.f0 ≤ hi ∧ hi ≤ x.f1 ∧ hi ≤ at_ := by rw [hhi]; split <;> omega
  obtain ⟨B, d, hcut, hah, had⟩ := cut_seg _ A c l x.f0 hi HS.out.now.2.2.1 HC.out x0 hi1.1 (by omega)
  have hahs : (l.take hi.toNat).drop x.f0.toNat = sg.take (hi - x.f0).toNat := by
    rw [HSEG.out, show (hi - x.f0).toNat = hi.toNat - x.f0.toNat by omega, ← List.drop_take, List.take_take, show min hi.toNat x.f1.toNat = hi.toNat by omega]
  have hkk : ufl rs (hi - x.f0) = ufl rs (at_ - x.f0) := by
    rw [hhi]
    split
    · rfl
    · rw [(ufl_sz (x.f1 - x.f0) g (by omega)).1, (ufl_sz (at_ - x.f0) g (by omega)).1]
  have hfr := flo_range (r := rs) (hi - x.f0) g (by omega)
  have hck := chk_take hbs hcs (hi - x.f0).toNat (by omega)
  rw [show (((hi - x.f0).toNat : Nat) : Int) = hi - x.f0 by omega] at hck
  rw [hahs] at hcut hah had
  have hahb : Bytes (sg.take (hi - x.f0).toNat) := fun y hy => hbs y (List.mem_of_mem_take hy)
  have hchk := Check_f (sg.take (hi - x.f0).toNat) hahb (by rw [List.length_take]; omega) (Nat.lt_succ_self _)
  obtain ⟨q, hq, hqu⟩ := cs_take hcs hbs (hi - x.f0)
  rw [hkk] at hqu
  have hpre := cut_pre _ B d (sg.take (hi - x.f0).toNat) (flo rs (hi - x.f0)) hah had hfr.1 (by rw [List.length_take]; omega)
  have hpt : (sg.take (hi - x.f0).toNat).take (flo rs (hi - x.f0)).toNat = sg.take (flo rs (hi - x.f0)).toNat := by rw [List.take_take]; congr 1; omega
  have hof := Of_f (y := sg.take (flo rs (hi - x.f0)).toNat) (fun y hy => hbs y (List.mem_of_mem_take hy)) (by rw [List.length_take]; omega) hq (Nat.lt_succ_self _)
  rw [← hpt, hqu] at hof
  have hch2 : chk (sg.take (hi - x.f0).toNat) = (flo rs (hi - x.f0), (chk (sg.take (hi - x.f0).toNat)).2) := Prod.ext hck rfl
  rw [hch2] at hchk
  clear hpt hck hch2 hq hqu hkk hahb hahs hfr hcs hbs hsl hsgl hsz g
  generalize (chk (sg.take (hi - x.f0).toNat)).2 = ee at hchk
  generalize hfe : flo rs (hi - x.f0) = fl at *
  generalize ufl rs (at_ - x.f0) = uu at *
  generalize sg.take (hi - x.f0).toNat = ah at *
  obtain ⟨hcut2, hap, hpd⟩ := hpre
  generalize ah.take fl.toNat = ap at *
  have HK := Aside0.mk hchk
  have HO := Aside0.mk hof
  have m_ := Aside0.mk ((HS.out.add hah (keeps_C _ _ _ _)).add hap (keeps_C _ _ _ _))
  clear HS
  have HS := m_
  clear m_
  have HAD := Aside0.mk had
  have HPD := Aside0.mk hpd
  clear hchk hof hah had hap hpd hfe
  by_cases ha : at_ ≤ x.f1
  · obtain rfl : at_ = hi := by rw [hhi, if_pos ha]
    clear hhi
    go_enter Try.func80, Try.ntmps80
    go_upto_region 9 with (first | (go_at_call 87; refine (none_map _ m l (MapAt.map (HS.out.step (by repeat (first | exact Below.refl _ _ | apply below_alloc | apply pw_below_drewN | apply below_drew1))).now.2.2.2 HC.out)).mono ?_; rintro e w' ⟨rfl, rfl⟩) | (go_at_call 100; refine (Find_is a _ 0 l.length at_ r _ (HLE.out ▸ (HS.out.step (by repeat (first | exact Below.refl _ _ | apply below_alloc | apply pw_below_drewN | apply below_drew1))).now.2.2.2.1) HCH.out h0 h1 hln HF.out).mono ?_; rintro e w1 ⟨rfl, hb⟩; have m_ := Aside0.mk (HS.out.call (by repeat (first | exact Below.refl _ _ | apply below_alloc | apply pw_below_drewN | apply below_drew1)) hb); clear HS hb ; have HS := m_; clear m_; have cm : w1.cell? ⟨m, 0, none⟩ = some (.pointer (some ⟨a, 0, none⟩)) := HS.out.now.2.2.2.2.2.cell 0) | (go_at_call 89; refine (Line_ok a L (r : Int) _ (HLE.out ▸ (HS.out.step (by repeat (first | exact Below.refl _ _ | apply below_alloc | apply pw_below_drewN | apply below_drew1))).now.2.2.2.1) (by omega) (by omega) hln).mono ?_; rintro e w2 ⟨rfl, hb⟩; rw [← HX.out]; have m_ := Aside0.mk (HS.out.call (by repeat (first | exact Below.refl _ _ | apply below_alloc | apply pw_below_drewN | apply below_drew1)) hb); clear HS hb ; have HS := m_; clear m_; have cm : w2.cell? ⟨m, 0, none⟩ = some (.pointer (some ⟨a, 0, none⟩)) := HS.out.now.2.2.2.2.2.cell 0; have c1 := cell_alloc2 (HS.out.now.2.2.2.2.2.cell 1); have k0 : w2.cell? ⟨w.heap.size, 0, none⟩ = some (.int .i64 0) := HS.out.now.2.2.1.cell 0; have k1 : w2.cell? ⟨w.heap.size, 1, none⟩ = some (.int .i64 0) := HS.out.now.2.2.1.cell 1; have k2 := HS.out.now.2.2.1.frozen 0; have k3 := HS.out.now.2.2.1.frozen 1; have cr0 := cell_alloc2 k0; have cr1 := cell_alloc2 k1; have fr0 := froz_alloc2 k0 k2; have fr1 := froz_alloc2 k1 k3))
    go_quiet (fail)
    go_wp2_with (first | (go_at_call 58; refine (runes_Check.calls _ B d ah fl ee _  (HS.out.step (by repeat (first | exact Below.refl _ _ | apply below_alloc | apply pw_below_drewN | apply below_drew1))).now.2.1 HAD.out HK.out).mono ?_; rintro e w3 ⟨rfl, nc, rfl⟩) | (go_at_call 101; refine (units_Of.calls _ B d ap uu 0 _  (HS.out.step (by repeat (first | exact Below.refl _ _ | apply below_alloc | apply pw_below_drewN | apply below_drew1))).now.1 HPD.out HO.out).mono ?_; rintro e w4 ⟨rfl, no, rfl⟩))
    refine bodyPost_ret (v := .tuple #[.agg #[.int .i64 r, .int .i64 uu], .int .i64 0]) (by simp [results, Try.results80, go_sem, *]) rfl ⟨rfl, ?_⟩
    have hS := HS.out.bel
    repeat (first | exact hS | apply below_alloc | apply pw_below_drewN | apply below_drew1 | refine Below.setCell ?_ (by simp) _)
  · obtain rfl : hi = x.f1 := by rw [hhi, if_neg ha]
    have ha2 : x.f1 < at_ := by omega
    clear hhi
    go_enter Try.func80, Try.ntmps80
    go_upto_region 9 with (first | (go_at_call 87; refine (none_map _ m l (MapAt.map (HS.out.step (by repeat (first | exact Below.refl _ _ | apply below_alloc | apply pw_below_drewN | apply below_drew1))).now.2.2.2 HC.out)).mono ?_; rintro e w' ⟨rfl, rfl⟩) | (go_at_call 100; refine (Find_is a _ 0 l.length at_ r _ (HLE.out ▸ (HS.out.step (by repeat (first | exact Below.refl _ _ | apply below_alloc | apply pw_below_drewN | apply below_drew1))).now.2.2.2.1) HCH.out h0 h1 hln HF.out).mono ?_; rintro e w1 ⟨rfl, hb⟩; have m_ := Aside0.mk (HS.out.call (by repeat (first | exact Below.refl _ _ | apply below_alloc | apply pw_below_drewN | apply below_drew1)) hb); clear HS hb ; have HS := m_; clear m_; have cm : w1.cell? ⟨m, 0, none⟩ = some (.pointer (some ⟨a, 0, none⟩)) := HS.out.now.2.2.2.2.2.cell 0) | (go_at_call 89; refine (Line_ok a L (r : Int) _ (HLE.out ▸ (HS.out.step (by repeat (first | exact Below.refl _ _ | apply below_alloc | apply pw_below_drewN | apply below_drew1))).now.2.2.2.1) (by omega) (by omega) hln).mono ?_; rintro e w2 ⟨rfl, hb⟩; rw [← HX.out]; have m_ := Aside0.mk (HS.out.call (by repeat (first | exact Below.refl _ _ | apply below_alloc | apply pw_below_drewN | apply below_drew1)) hb); clear HS hb ; have HS := m_; clear m_; have cm : w2.cell? ⟨m, 0, none⟩ = some (.pointer (some ⟨a, 0, none⟩)) := HS.out.now.2.2.2.2.2.cell 0; have c1 := cell_alloc2 (HS.out.now.2.2.2.2.2.cell 1); have k0 : w2.cell? ⟨w.heap.size, 0, none⟩ = some (.int .i64 0) := HS.out.now.2.2.1.cell 0; have k1 : w2.cell? ⟨w.heap.size, 1, none⟩ = some (.int .i64 0) := HS.out.now.2.2.1.cell 1; have k2 := HS.out.now.2.2.1.frozen 0; have k3 := HS.out.now.2.2.1.frozen 1; have cr0 := cell_alloc2 k0; have cr1 := cell_alloc2 k1; have fr0 := froz_alloc2 k0 k2; have fr1 := froz_alloc2 k1 k3))
    go_quiet (fail)
    go_wp2_with (first | (go_at_call 58; refine (runes_Check.calls _ B d ah fl ee _  (HS.out.step (by repeat (first | exact Below.refl _ _ | apply below_alloc | apply pw_below_drewN | apply below_drew1))).now.2.1 HAD.out HK.out).mono ?_; rintro e w3 ⟨rfl, nc, rfl⟩) | (go_at_call 101; refine (units_Of.calls _ B d ap uu 0 _  (HS.out.step (by repeat (first | exact Below.refl _ _ | apply below_alloc | apply pw_below_drewN | apply below_drew1))).now.1 HPD.out HO.out).mono ?_; rintro e w4 ⟨rfl, no, rfl⟩))
    refine bodyPost_ret (v := .tuple #[.agg #[.int .i64 r, .int .i64 uu], .int .i64 0]) (by simp [results, Try.results80, go_sem, *]) rfl ⟨rfl, ?_⟩
    have hS := HS.out.bel
    repeat (first | exact hS | apply below_alloc | apply pw_below_drewN | apply below_drew1 | refine Below.setCell ?_ (by simp) _)
noncomputable def poff (l : List Int) (line char : Int) : Int := if ((lns l 0 0).length : Int) ≤ line then l.length else (rdLn (lns l 0 0) line).f0 + off (chars (seg l (rdLn (lns l 0 0) line))) char
noncomputable def fnd (l : List Int) (at_ : Int) : Nat := ((lns_chain0 l).find at_).choose
theorem fnd_is (l : List Int) (at_ : Int) : FindAt (lns l 0 0) at_ (fnd l at_) := ((lns_chain0 l).find at_).choose_spec
theorem fnd_eq {l : List Int} {at_ : Int} {r : Nat} (h : FindAt (lns l 0 0) at_ r) : fnd l at_ = r := (fnd_is l at_).uniq h
noncomputable def pch (l : List Int) (at_ : Int) : Int := ufl (chars (seg l (rdLn (lns l 0 0) (fnd l at_ : Nat)))) (at_ - (rdLn (lns l 0 0) (fnd l at_ : Nat)).f0)
theorem MOffset_is (m : Nat) (l : List Int) (line char : Int) (w : World) (hM : IsMap w m l) (hs : l.length ≤ 1048576) (hB : Bytes l) (hv : V l) (h0 : 0 ≤ line) (h1 : 0 ≤ char) (h1b : char ≤ 9223372036854775807) :
    Calls Try.prog 62 #[.pointer (some ⟨m, 0, none⟩), .agg #[.int .i64 line, .int .i64 char]] w fun e w' => e = .returned (.tuple #[.int .i64 (poff l line char), .int .i64 0]) ∧ Below w.heap.size w w' := by
  unfold poff
  by_cases h : ((lns l 0 0).length : Int) ≤ line
  · rw [if_pos h]
    exact MOffset_far m l line char w hM hs h0 h1 h
  · rw [if_neg h]
    exact MOffset_in m l line char w hM hs hB hv h0 h1 h1b (by omega)
theorem MPos_is (m : Nat) (l : List Int) (at_ : Int) (w : World) (hM : IsMap w m l) (hs : l.length ≤ 1048576) (hB : Bytes l) (hv : V l) (h0 : 0 ≤ at_) (h1 : at_ ≤ l.length) :
    Calls Try.prog 80 #[.pointer (some ⟨m, 0, none⟩), .int .i64 at_] w fun e w' => e = .returned (.tuple #[.agg #[.int .i64 (fnd l at_), .int .i64 (pch l at_)], .int .i64 0]) ∧ Below w.heap.size w w' :=
  MPos_ok m l at_ (fnd l at_) w hM hs hB hv h0 h1 (fnd_is l at_)
end Go.Proofs.Ytjebkpcekkkbkaa.B
namespace Go.Proofs.Ytjebkpcekkkbkaa.B
open Go.RowKit Go.Proofs.YtjebkpcekkkbkaaW.PrintWords Go.Proofs.YtjebkpcekkkbkaaW.PrintLast Go.Proofs.YtjebkpcekkkbkaaW.PrintMore Go.Proofs.Ytjebkpcekkkbkaa.FBase
theorem line_is (l : List Int) (hB : Bytes l) (hv : V l) (j : Nat) (hj : j < (lns l 0 0).length) :
    0 ≤ (rdLn (lns l 0 0) j).f0 ∧ (rdLn (lns l 0 0) j).f0 ≤ (rdLn (lns l 0 0) j).f1 ∧ (rdLn (lns l 0 0) j).f1 ≤ l.length ∧ Cs (seg l (rdLn (lns l 0 0) j)) (chars (seg l (rdLn (lns l 0 0) j))) ∧
      Good (chars (seg l (rdLn (lns l 0 0) j))) ∧ sz (chars (seg l (rdLn (lns l 0 0) j))) = (rdLn (lns l 0 0) j).f1 - (rdLn (lns l 0 0) j).f0 := by
  have h := (lns_chain0 l).at j hj
  have hcs : Cs (seg l (rdLn (lns l 0 0) j)) (chars (seg l (rdLn (lns l 0 0) j))) := V.chars (line_V hB hv j hj)
  obtain ⟨g, hsz⟩ := hcs.good (fun y hy => hB y (List.mem_of_mem_take (List.mem_of_mem_drop hy)))
  have h1 := h.2.2.1
  have h2 := h.2.2.2.1
  refine ⟨h.1, h.2.1, by omega, hcs, g, ?_⟩
  rw [hsz]
  have := h.1
  have := h.2.1
  unfold seg
  rw [List.length_drop, List.length_take]
  omega
theorem fnd_in (l : List Int) (j : Nat) (hj : j < (lns l 0 0).length) (n : Int) (h0 : (rdLn (lns l 0 0) j).f0 ≤ n) (h1 : n ≤ (rdLn (lns l 0 0) j).f1) : fnd l n = j := by
  have hc := lns_chain0 l
  refine fnd_eq ⟨hj, fun t ht => ?_, fun h => ?_⟩
  · have h2 := (hc.at t (by omega)).2.2.2.2.2.1 (by omega)
    have h3 := (hc.step (t + 1) (j - (t + 1)) (by omega)).2
    rw [show t + 1 + (j - (t + 1)) = j by omega] at h3
    have h4 := (hc.at (t + 1) (by omega))
    rcases Nat.lt_or_eq_of_le (show t + 1 ≤ j by omega) with h5 | h5
    · have h6 := (hc.at (j - 1) (by omega)).2.2.2.2.2.1 (by omega)
      rw [show j - 1 + 1 = j by omega] at h6
      have h7 := (hc.step t (j - 1 - t) (by omega)).2
      rw [show t + (j - 1 - t) = j - 1 by omega] at h7
      have := h6.2.2
      omega
    · rw [h5] at h2
      have := h2.2.2
      omega
  · have h2 := (hc.at j hj).2.2.2.2.2.1 h
    have := h2.1
    omega
theorem poff_line (l : List Int) (j : Nat) (hj : j < (lns l 0 0).length) (ch : Int) : poff l j ch = (rdLn (lns l 0 0) j).f0 + off (chars (seg l (rdLn (lns l 0 0) j))) ch := by
  unfold poff
  rw [if_neg (by omega)]
theorem poff_far (l : List Int) (line ch : Int) (h : (lns l 0 0).length ≤ line) : poff l line ch = l.length := by
  unfold poff
  rw [if_pos h]
theorem pch_in (l : List Int) (j : Nat) (hj : j < (lns l 0 0).length) (n : Int) (h0 : (rdLn (lns l 0 0) j).f0 ≤ n) (h1 : n ≤ (rdLn (lns l 0 0) j).f1) : pch l n = ufl (chars (seg l (rdLn (lns l 0 0) j))) (n - (rdLn (lns l 0 0) j).f0) := by
  unfold pch
  rw [fnd_in l j hj n h0 h1]
theorem poff_range (l : List Int) (hB : Bytes l) (hv : V l) (line ch : Int) (h0 : 0 ≤ line) : 0 ≤ poff l line ch ∧ poff l line ch ≤ l.length := by
  by_cases h : ((lns l 0 0).length : Int) ≤ line
  · rw [poff_far l line ch h]; omega
  · obtain ⟨j, rfl⟩ := Int.eq_ofNat_of_zero_le h0
    have hj : j < (lns l 0 0).length := by omega
    obtain ⟨a, b, c, _, g, hsz⟩ := line_is l hB hv j hj
    rw [poff_line l j hj]
    have := off_range ch g
    omega
theorem last_is (l : List Int) : (rdLn (lns l 0 0) ((lns l 0 0).length - 1 : Nat)).f1 = l.length ∧ (lns l 0 0).length - 1 < (lns l 0 0).length := by
  have hc := lns_chain0 l
  have hp := hc.pos
  exact ⟨((hc.at ((lns l 0 0).length - 1) (by omega)).2.2.2.2.2.2.1 (by omega)).1, by omega⟩
theorem back_in (l : List Int) (hB : Bytes l) (hv : V l) (j : Nat) (hj : j < (lns l 0 0).length) (n : Int) (h0 : (rdLn (lns l 0 0) j).f0 ≤ n) (h1 : n ≤ (rdLn (lns l 0 0) j).f1)
    (hf : flo (chars (seg l (rdLn (lns l 0 0) j))) (n - (rdLn (lns l 0 0) j).f0) = n - (rdLn (lns l 0 0) j).f0) : poff l (fnd l n) (pch l n) = n := by
  obtain ⟨a, b, c, _, g, hsz⟩ := line_is l hB hv j hj
  rw [fnd_in l j hj n h0 h1, pch_in l j hj n h0 h1, poff_line l j hj, off_ufl _ g (by omega), hf]
  omega
theorem again_end (l : List Int) (hB : Bytes l) (hv : V l) : poff l (fnd l l.length) (pch l l.length) = l.length ∧ fnd l l.length = (lns l 0 0).length - 1 := by
  obtain ⟨h1, h2⟩ := last_is l
  obtain ⟨a, b, c, _, g, hsz⟩ := line_is l hB hv _ h2
  have i0 : (rdLn (lns l 0 0) ((lns l 0 0).length - 1 : Nat)).f0 ≤ (l.length : Int) := by omega
  refine ⟨back_in l hB hv _ h2 _ i0 (by omega) ?_, fnd_in l _ h2 _ i0 (by omega)⟩
  rw [h1] at hsz
  rw [← hsz]
  exact (ufl_sz _ g (Int.le_refl _)).2
theorem V.after {a b : List Int} (h : V a) (ha : Bytes a) (hab : V (a ++ b)) : V b := by
  induction h with
  | nil => simpa using hab
  | step y he h ih =>
    have hd := dec_ok ha he
    refine ih (ha.drop _) ?_
    generalize hyb : y ++ b = z at hab
    cases hab with
    | nil => exact absurd hyb (by cases y with | nil => simp [dec] at he | cons _ _ => simp)
    | step _ he2 h2 =>
      rw [← hyb, dec_append he, List.drop_append_of_le_length (by omega)] at h2
      exact h2
theorem V.cut {l : List Int} (h : V l) (hb : Bytes l) : ∀ p : Nat, p ≤ l.length → (p = 0 ∨ ∃ b, l[p - 1]? = some b ∧ b < 128) → V (l.take p) := by
  induction h with
  | nil => intro p hp _; simpa using V.nil
  | step y he h ih =>
    intro p hp hc
    obtain ⟨hd, z, e, hl, h0, hk, hs⟩ := dec_head hb he
    have e1 : dec y = dec hd := by rw [e]; exact dec_append h0
    have hz : y.drop (dec y).2.1.toNat = z := by rw [← hl, Int.toNat_natCast, e, List.drop_left' rfl]
    rw [hz] at ih
    have hdb : Bytes hd := fun x hx => hb x (by rw [e]; exact List.mem_append_left _ hx)
    have hzb : Bytes z := fun x hx => hb x (by rw [e]; exact List.mem_append_right _ hx)
    have hdV : V hd := V.take hb (z := []) h0 (by rw [hl, e1])
    by_cases hlt : p < hd.length
    · by_cases hp0 : p = 0
      · subst hp0; simpa using V.nil
      · rcases hc with hc | ⟨b, hb1, hb2⟩
        · exact absurd hc hp0
        · rw [e, List.getElem?_append_left (by omega)] at hb1
          have hm := List.mem_of_getElem? hb1
          rcases hs with ⟨c, rfl, _⟩ | ⟨_, hall⟩
          · simp at hlt; omega
          · have := hall b hm; omega
    · have hlen : y.length = hd.length + z.length := by rw [e, List.length_append]
      rw [e, List.take_append, List.take_of_length_le (by omega)]
      refine hdV.append hdb (ih hzb _ (by omega) ?_)
      by_cases hp0 : p - hd.length = 0
      · exact .inl hp0
      · rcases hc with rfl | ⟨b, hb1, hb2⟩
        · omega
        · refine .inr ⟨b, ?_, hb2⟩
          rw [e, List.getElem?_append_right (by omega)] at hb1
          rw [← hb1]
          congr 1
          omega
theorem dec_cont {y : List Int} (hb : Bytes y) (he : (dec y).2.2 = 0) : ∀ k : Nat, 1 ≤ k → (k : Int) < (dec y).2.1 → ∃ b, y[k]? = some b ∧ 128 ≤ b ∧ b ≤ 191 := by
  cases y with
  | nil => simp [dec] at he
  | cons b t =>
    have hb0 := hb b List.mem_cons_self
    by_cases h1 : b < 128
    · intro k hk hk2
      rw [dec_1 t h1] at hk2
      simp at hk2; omega
    · by_cases h2 : b < 194 ∨ 244 < b
      · rw [dec_0 t (by omega) h2] at he
        simp at he
      · have hlo : 128 ≤ lowOf b := by unfold lowOf; repeat' split <;> try omega
        have hhi : highOf b ≤ 191 := by unfold highOf; repeat' split <;> try omega
        by_cases c2 : b < 224
        · rw [dec_2 t (by omega) c2] at he ⊢
          cases t with
          | nil => simp [restOf] at he
          | cons b1 t1 =>
            by_cases g1 : 128 ≤ b1 ∧ b1 ≤ 191
            · rw [rest_2 g1]
              intro k hk hk2
              obtain rfl : k = 1 := by simp at hk2; omega
              exact ⟨b1, rfl, g1⟩
            · rw [rest_no g1] at he
              simp at he
        · by_cases c3 : b < 240
          · rw [dec_3 t (by omega) c3] at he ⊢
            cases t with
            | nil => simp [restOf] at he
            | cons b1 t1 =>
              by_cases g1 : lowOf b ≤ b1 ∧ b1 ≤ highOf b
              · cases t1 with
                | nil => rw [rest_n g1 (by decide) rfl] at he; simp at he
                | cons b2 t2 =>
                  by_cases g2 : 128 ≤ b2 ∧ b2 ≤ 191
                  · rw [rest_3 g1 g2]
                    intro k hk hk2
                    obtain rfl | rfl : k = 1 ∨ k = 2 := by simp at hk2; omega
                    · exact ⟨b1, rfl, by omega, by omega⟩
                    · exact ⟨b2, rfl, g2⟩
                  · rw [rest_n2 g1 (by decide) g2] at he; simp at he
              · rw [rest_no g1] at he; simp at he
          · rw [dec_4 t (by omega) (by omega)] at he ⊢
            cases t with
            | nil => simp [restOf] at he
            | cons b1 t1 =>
              by_cases g1 : lowOf b ≤ b1 ∧ b1 ≤ highOf b
              · cases t1 with
                | nil => rw [rest_n g1 (by decide) rfl] at he; simp at he
                | cons b2 t2 =>
                  by_cases g2 : 128 ≤ b2 ∧ b2 ≤ 191
                  · cases t2 with
                    | nil => rw [rest_4e g1 g2] at he; simp at he
                    | cons b3 t3 =>
                      by_cases g3 : 128 ≤ b3 ∧ b3 ≤ 191
                      · rw [rest_4 g1 g2, if_pos g3]
                        intro k hk hk2
                        obtain rfl | rfl | rfl : k = 1 ∨ k = 2 ∨ k = 3 := by simp at hk2; omega
                        · exact ⟨b1, rfl, by omega, by omega⟩
                        · exact ⟨b2, rfl, g2⟩
                        · exact ⟨b3, rfl, g3⟩
                      · rw [rest_4 g1 g2, if_neg g3] at he; simp at he
                  · rw [rest_n2 g1 (by decide) g2] at he; simp at he
              · rw [rest_no g1] at he; simp at he
theorem dec_lead {y : List Int} (hb : Bytes y) (he : (dec y).2.2 = 0) {b : Int} (h : y[0]? = some b) : b < 128 ∨ 191 < b := by
  cases y with
  | nil => simp at h
  | cons c t =>
    simp at h
    subst h
    by_cases h1 : c < 128
    · exact .inl h1
    · by_cases h2 : c < 194 ∨ 244 < c
      · rw [dec_0 t (by omega) h2] at he
        simp at he
      · omega
theorem V.ahead {b : List Int} (hv : V b) (hbb : Bytes b) (n : Nat) : ∀ {a : List Int}, a.length ≤ n → Bytes a → V (a ++ b) → V a := by
  induction n with
  | zero =>
    intro a ha _ _
    obtain rfl : a = [] := List.eq_nil_of_length_eq_zero (by omega)
    exact .nil
  | succ n ih =>
    intro a ha hab h
    by_cases hn : a = []
    · subst hn; exact .nil
    · by_cases hbn : b = []
      · subst hbn; simpa using h
      · have hbyt := hab.append hbb
        have hh := h
        generalize hy : a ++ b = y at h
        cases h with
        | nil => simp at hy; exact absurd hy.1 hn
        | step _ he h2 =>
          rw [hy] at hbyt
          obtain ⟨hd, z, e, hl, h0, hk, hs⟩ := dec_head hbyt he
          have e1 : dec y = dec hd := by rw [e]; exact dec_append h0
          have hz : y.drop (dec y).2.1.toNat = z := by rw [← hl, Int.toNat_natCast, e, List.drop_left' rfl]
          have hdV : V hd := V.take hbyt (z := []) h0 (by rw [hl, e1])
          have hdp : 0 < hd.length := by cases hd with | nil => simp [dec] at h0 | cons _ _ => simp
          rw [hz] at h2
          by_cases hlt : a.length < hd.length
          · exfalso
            obtain ⟨c, hc1, hc2, hc3⟩ := dec_cont hbyt he a.length (by cases a with | nil => exact absurd rfl hn | cons _ _ => simp) (by omega)
            have h3 : b[0]? = some c := by rw [← hc1, ← hy, List.getElem?_append_right (Nat.le_refl _), Nat.sub_self]
            cases hv with
            | nil => simp at h3
            | step _ he3 _ =>
              have := dec_lead hbb he3 h3
              omega
          · have e5 : a = hd ++ a.drop hd.length := by
              have h6 : (a ++ b).take hd.length = hd := by rw [hy, e, List.take_left' rfl]
              rw [List.take_append_of_le_length (by omega)] at h6
              exact (List.take_append_drop hd.length a).symm.trans (by rw [h6])
            have e6 : z = a.drop hd.length ++ b := by
              have h7 : (a ++ b).drop hd.length = z := by rw [hy, e, List.drop_left' rfl]
              rw [← h7, List.drop_append_of_le_length (by omega)]
            rw [e5]
            have hdb : Bytes hd := fun x hx => hab x (by rw [e5]; exact List.mem_append_left _ hx)
            exact hdV.append hdb (ih (by rw [List.length_drop]; omega) (hab.drop _) (by rw [← e6]; exact h2))
theorem lns_ahead (l : List Int) (n : Nat) : ∀ (fr : Int) (i : Nat), i ≤ l.length → l.length - i ≤ n → ∀ x ∈ lns (l.drop i) fr i, x.f0 = fr ∨ (1 ≤ x.f0 ∧ x.f0 ≤ l.length ∧ (rd l (x.f0 - 1) = 10 ∨ rd l (x.f0 - 1) = 13)) := by
  induction n with
  | zero =>
    intro fr i hi hn x hx
    rw [show l.drop i = [] by rw [List.drop_eq_nil_iff]; omega] at hx
    simp only [lns, List.mem_singleton] at hx
    subst hx
    exact .inl rfl
  | succ n ih =>
    intro fr i hi hn x hx
    by_cases hlt : i < l.length
    · have h5 := lns_drop l fr (i : Int) (by omega) (by omega)
      rw [Int.toNat_natCast, show ((i : Int) + 1).toNat = i + 1 by omega, show ((i : Int) + 2).toNat = i + 2 by omega, show ((i : Int) + 1) = ((i + 1 : Nat) : Int) by omega, show ((i : Int) + 2) = ((i + 2 : Nat) : Int) by omega] at h5
      rw [h5] at hx
      by_cases b10 : rd l i = 10
      · rw [if_pos b10] at hx
        rcases List.mem_cons.1 hx with rfl | hx
        · exact .inl rfl
        · rcases ih _ (i + 1) (by omega) (by omega) x hx with h | h
          · refine .inr ⟨by omega, by omega, .inl ?_⟩
            rw [h, show (((i + 1 : Nat) : Int) - 1) = i by omega]
            exact b10
          · exact .inr h
      · rw [if_neg b10] at hx
        by_cases b13 : rd l i = 13
        · rw [if_pos b13] at hx
          by_cases h6 : (((i + 1 : Nat) : Int) < l.length ∧ rd l ((i + 1 : Nat) : Int) = 10)
          · rw [if_pos h6] at hx
            rcases List.mem_cons.1 hx with rfl | hx
            · exact .inl rfl
            · rcases ih _ (i + 2) (by omega) (by omega) x hx with h | h
              · refine .inr ⟨by omega, by omega, .inl ?_⟩
                rw [h, show (((i + 2 : Nat) : Int) - 1) = ((i + 1 : Nat) : Int) by omega]
                exact h6.2
              · exact .inr h
          · rw [if_neg h6] at hx
            rcases List.mem_cons.1 hx with rfl | hx
            · exact .inl rfl
            · rcases ih _ (i + 1) (by omega) (by omega) x hx with h | h
              · refine .inr ⟨by omega, by omega, .inr ?_⟩
                rw [h, show (((i + 1 : Nat) : Int) - 1) = i by omega]
                exact b13
              · exact .inr h
        · rw [if_neg b13] at hx
          rcases ih _ (i + 1) (by omega) (by omega) x hx with h | h
          · exact .inl h
          · exact .inr h
    · rw [show l.drop i = [] by rw [List.drop_eq_nil_iff]; omega] at hx
      simp only [lns, List.mem_singleton] at hx
      subst hx
      exact .inl rfl
theorem ahead_V {l : List Int} (hb : Bytes l) (hv : V l) (t : Nat) (ht : t < (lns l 0 0).length) : V (l.take (rdLn (lns l 0 0) t).f0.toNat) := by
  have hm : rdLn (lns l 0 0) t ∈ lns (l.drop 0) 0 ((0 : Nat) : Int) := by
    have : rdLn (lns l 0 0) t = (lns l 0 0)[t] := by simp [rdLn, List.getD, ht]
    rw [this]
    exact List.getElem_mem _
  rcases lns_ahead l l.length 0 0 (Nat.zero_le _) (by omega) _ hm with h | ⟨h1, h2, h3⟩
  · rw [h]; simpa using V.nil
  · refine hv.cut hb _ (by omega) (.inr ⟨rd l ((rdLn (lns l 0 0) t).f0 - 1), ?_, by omega⟩)
    have hlt : (rdLn (lns l 0 0) t).f0.toNat - 1 < l.length := by omega
    rw [show (rd l ((rdLn (lns l 0 0) t).f0 - 1)) = l.getD ((rdLn (lns l 0 0) t).f0.toNat - 1) 0 by simp only [rd]; congr 1; omega]
    simp [List.getD, hlt]
theorem poff_V {l : List Int} (hB : Bytes l) (hv : V l) (line ch : Int) (h0 : 0 ≤ line) : V (l.take (poff l line ch).toNat) := by
  by_cases h : ((lns l 0 0).length : Int) ≤ line
  · rw [poff_far l line ch h]; simpa using hv
  · obtain ⟨j, rfl⟩ := Int.eq_ofNat_of_zero_le h0
    have hj : j < (lns l 0 0).length := by omega
    obtain ⟨a, b, c, hcs, g, hsz⟩ := line_is l hB hv j hj
    rw [poff_line l j hj]
    have ho := off_range ch g
    have hV0 := ahead_V hB hv j hj
    generalize rdLn (lns l 0 0) j = x at *
    have e1 : (x.f0 + off (chars (seg l x)) ch).toNat = x.f0.toNat + (off (chars (seg l x)) ch).toNat := by omega
    rw [e1, List.take_add]
    refine hV0.append (hB.take _) ?_
    have e2 : (l.drop x.f0.toNat).take (off (chars (seg l x)) ch).toNat = (seg l x).take (off (chars (seg l x)) ch).toNat := by
      generalize off (chars (seg l x)) ch = o at *
      unfold seg
      rw [List.drop_take, List.take_take]
      congr 1
      omega
    rw [e2]
    have hbs : Bytes (seg l x) := fun y hy => hB y (List.mem_of_mem_take (List.mem_of_mem_drop hy))
    by_cases hc : 0 ≤ ch
    · obtain ⟨q, hq, _⟩ := cs_take hcs hbs (off (chars (seg l x)) ch)
      rw [flo_off ch g hc] at hq
      exact hq.v
    · have : off (chars (seg l x)) ch = 0 := by
        cases hr : chars (seg l x) with
        | nil => rfl
        | cons y r =>
          rw [hr] at g
          have := g.head
          simp only [off]
          rw [if_pos (by omega)]
      rw [this]
      simpa using V.nil
def IsP (l : List Int) (n : Int) : Prop := poff l (fnd l n) (pch l n) = n
theorem IsP.cut {l : List Int} (hB : Bytes l) (hv : V l) {n : Nat} (h : IsP l n) : V (l.take n) := by
  have h1 := poff_V hB hv (fnd l n) (pch l n) (by omega)
  unfold IsP at h
  rw [h, Int.toNat_natCast] at h1
  exact h1
theorem isP_end {l : List Int} (hB : Bytes l) (hv : V l) : IsP l l.length := (again_end l hB hv).1
theorem isP_0 {l : List Int} (hB : Bytes l) (hv : V l) : IsP l 0 := by
  have hc := lns_chain0 l
  have hp := hc.pos
  obtain ⟨a, b, c, hcs, g, hsz⟩ := line_is l hB hv 0 hp
  have h1 := (hc.at 0 hp).2.2.2.2.1 rfl
  refine back_in l hB hv 0 hp 0 (by omega) (by omega) ?_
  rw [show ((0 : Nat) : Int) = 0 from rfl] at *
  rw [h1]
  generalize chars (seg l (rdLn (lns l 0 0) 0)) = r at *
  cases r with
  | nil => rfl
  | cons x r =>
    have := g.head
    simp only [flo]
    rw [if_pos (by omega)]
    omega
noncomputable def esp (l : List Int) (wh : Bool) (x0 x1 x2 x3 : Int) : Int × Int × Int :=
  if wh then (0, l.length, 0) else if x0 < 0 ∨ x1 < 0 then (0, 0, 9) else if x2 < 0 ∨ x3 < 0 then (0, 0, 9)
  else if poff l x2 x3 < poff l x0 x1 then (0, 0, 150) else (poff l x0 x1, poff l x2 x3, 0)
noncomputable def ech (l t : List Int) (wh : Bool) (x0 x1 x2 x3 : Int) : Int × Int × List Int × Int :=
  if (chk l).2 ≠ 0 then (0, 0, [], (chk l).2) else if (chk t).2 ≠ 0 then (0, 0, [], (chk t).2)
  else if (esp l wh x0 x1 x2 x3).2.2 ≠ 0 then (0, 0, [], (esp l wh x0 x1 x2 x3).2.2)
  else if 8192 < l.length - ((esp l wh x0 x1 x2 x3).2.1 - (esp l wh x0 x1 x2 x3).1) + t.length then (0, 0, [], 5)
  else ((esp l wh x0 x1 x2 x3).1, (esp l wh x0 x1 x2 x3).2.1, l.take (esp l wh x0 x1 x2 x3).1.toNat ++ t ++ l.drop (esp l wh x0 x1 x2 x3).2.1.toNat, 0)
theorem esp_range {l : List Int} (hB : Bytes l) (hv : V l) (wh : Bool) (x0 x1 x2 x3 : Int) : 0 ≤ (esp l wh x0 x1 x2 x3).1 ∧ (esp l wh x0 x1 x2 x3).1 ≤ (esp l wh x0 x1 x2 x3).2.1 ∧ (esp l wh x0 x1 x2 x3).2.1 ≤ l.length := by
  unfold esp
  cases wh with
  | true => simp
  | false =>
    by_cases h1 : x0 < 0 ∨ x1 < 0
    · simp [h1]
    · by_cases h2 : x2 < 0 ∨ x3 < 0
      · simp [h1, h2]
      · by_cases h3 : poff l x2 x3 < poff l x0 x1
        · simp [h1, h2, h3]
        · have a := poff_range l hB hv x0 x1 (by omega)
          have b := poff_range l hB hv x2 x3 (by omega)
          simp [h1, h2, h3]
          omega
theorem esp_cut {l : List Int} (hB : Bytes l) (hv : V l) (wh : Bool) (x0 x1 x2 x3 : Int) : V (l.take (esp l wh x0 x1 x2 x3).1.toNat) ∧ V (l.take (esp l wh x0 x1 x2 x3).2.1.toNat) := by
  unfold esp
  cases wh with
  | true => simpa using ⟨V.nil, hv⟩
  | false =>
    by_cases h1 : x0 < 0 ∨ x1 < 0
    · simp [h1]; exact V.nil
    · by_cases h2 : x2 < 0 ∨ x3 < 0
      · simp [h1, h2]; exact V.nil
      · by_cases h3 : poff l x2 x3 < poff l x0 x1
        · simp [h1, h2, h3]; exact V.nil
        · simp only [Bool.false_eq_true, if_false, if_neg h1, if_neg h2, if_neg h3]
          exact ⟨poff_V hB hv x0 x1 (by omega), poff_V hB hv x2 x3 (by omega)⟩
theorem esp_at {l : List Int} {x0 x1 x2 x3 a b : Int} (h0 : 0 ≤ x0) (h1 : 0 ≤ x1) (h2 : 0 ≤ x2) (h3 : 0 ≤ x3) (ha : poff l x0 x1 = a) (hb : poff l x2 x3 = b) (hab : a ≤ b) : esp l false x0 x1 x2 x3 = (a, b, 0) := by
  unfold esp
  rw [if_neg (by simp), if_neg (by omega), if_neg (by omega), ha, hb, if_neg (by omega)]
theorem drop_V {l : List Int} (hB : Bytes l) (hv : V l) {n : Nat} (h : V (l.take n)) : V (l.drop n) := by
  refine h.after (hB.take _) ?_
  rw [List.take_append_drop]
  exact hv
theorem ech_V {l t : List Int} (hB : Bytes l) (hT : Bytes t) (wh : Bool) (x0 x1 x2 x3 : Int) (h : (ech l t wh x0 x1 x2 x3).2.2.2 = 0) :
    V l ∧ V t ∧ V (ech l t wh x0 x1 x2 x3).2.2.1 ∧ Bytes (ech l t wh x0 x1 x2 x3).2.2.1 ∧ (ech l t wh x0 x1 x2 x3).2.2.1.length ≤ 8192 ∧
      (esp l wh x0 x1 x2 x3).2.2 = 0 ∧ (ech l t wh x0 x1 x2 x3).1 = (esp l wh x0 x1 x2 x3).1 ∧ (ech l t wh x0 x1 x2 x3).2.1 = (esp l wh x0 x1 x2 x3).2.1 ∧
      (ech l t wh x0 x1 x2 x3).2.2.1 = l.take (esp l wh x0 x1 x2 x3).1.toNat ++ t ++ l.drop (esp l wh x0 x1 x2 x3).2.1.toNat := by
  unfold ech at h ⊢
  by_cases c1 : (chk l).2 ≠ 0
  · rw [if_pos c1] at h; exact absurd h c1
  · rw [if_neg c1] at h ⊢
    by_cases c2 : (chk t).2 ≠ 0
    · rw [if_pos c2] at h; exact absurd h c2
    · rw [if_neg c2] at h ⊢
      by_cases c3 : (esp l wh x0 x1 x2 x3).2.2 ≠ 0
      · rw [if_pos c3] at h; exact absurd h c3
      · rw [if_neg c3] at h ⊢
        by_cases c4 : 8192 < l.length - ((esp l wh x0 x1 x2 x3).2.1 - (esp l wh x0 x1 x2 x3).1) + t.length
        · rw [if_pos c4] at h; simp at h
        · rw [if_neg c4]
          have hv : V l := (chk_V hB).1 (by omega)
          have ht : V t := (chk_V hT).1 (by omega)
          have hr := esp_range hB hv wh x0 x1 x2 x3
          have hc := esp_cut hB hv wh x0 x1 x2 x3
          have e3 : (esp l wh x0 x1 x2 x3).2.2 = 0 := by omega
          refine ⟨hv, ht, (hc.1.append (hB.take _) ht).append ((hB.take _).append hT) (drop_V hB hv hc.2), ((hB.take _).append hT).append (hB.drop _), ?_, e3, rfl, rfl, rfl⟩
          simp only [List.length_append, List.length_take, List.length_drop]
          omega
theorem ech_ok {l t : List Int} {wh : Bool} {x0 x1 x2 x3 a b : Int} (hl : (chk l).2 = 0) (ht : (chk t).2 = 0) (hs : esp l wh x0 x1 x2 x3 = (a, b, 0)) (hn : l.length - (b - a) + t.length ≤ 8192) :
    ech l t wh x0 x1 x2 x3 = (a, b, l.take a.toNat ++ t ++ l.drop b.toNat, 0) := by
  unfold ech
  rw [if_neg (by omega), if_neg (by omega), hs, if_neg (by simp), if_neg (by simp only []; omega)]
structure Ed where
  wh : Bool
  x0 : Int
  x1 : Int
  x2 : Int
  x3 : Int
  t : List Int
noncomputable def eone (l : List Int) (e : Ed) : List Int × Int := (ech l e.t e.wh e.x0 e.x1 e.x2 e.x3).2.2
noncomputable def eall : List Int → List Ed → List Int × Int
  | l, [] => (l, 0)
  | l, e :: r => if (eone l e).2 ≠ 0 then ([], (eone l e).2) else eall (eone l e).1 r
noncomputable def eapp (l : List Int) (es : List Ed) : List Int × Int := if (chk l).2 ≠ 0 then ([], (chk l).2) else if 32 < es.length then ([], 5) else eall l es
theorem eone_V {l : List Int} {e : Ed} (hB : Bytes l) (hT : Bytes e.t) (h : (eone l e).2 = 0) : V (eone l e).1 ∧ Bytes (eone l e).1 ∧ (eone l e).1.length ≤ 8192 := by
  have := ech_V hB hT e.wh e.x0 e.x1 e.x2 e.x3 h
  exact ⟨this.2.2.1, this.2.2.2.1, this.2.2.2.2.1⟩
theorem eall_app : ∀ (a b : List Ed) (l : List Int), eall l (a ++ b) = if (eall l a).2 ≠ 0 then ([], (eall l a).2) else eall (eall l a).1 b
  | [], b, l => by simp [eall]
  | e :: a, b, l => by
    simp only [List.cons_append, eall]
    by_cases h : (eone l e).2 ≠ 0
    · simp only [if_pos h]
    · simp only [if_neg h]
      exact eall_app a b _
structure IsDiff (a b : List Int) (from_ tail : Nat) : Prop where
  p : IsP a from_
  fa : from_ + tail ≤ a.length
  fb : from_ + tail ≤ b.length
  pre : a.take from_ = b.take from_
  most : ∀ n : Nat, from_ < n → n ≤ a.length → n ≤ b.length → a.take n = b.take n → ¬ IsP a n
  q : IsP a ((a.length - tail : Nat) : Int)
  suf : a.drop (a.length - tail) = b.drop (b.length - tail)
  far : ∀ n : Nat, tail < n → from_ + n ≤ a.length → from_ + n ≤ b.length → a.drop (a.length - n) = b.drop (b.length - n) → ¬ IsP a ((a.length - n : Nat) : Int)
theorem IsDiff.uniq {a b : List Int} {f t f' t' : Nat} (h : IsDiff a b f t) (h' : IsDiff a b f' t') : f = f' ∧ t = t' := by
  have e : f = f' := by
    rcases Nat.lt_trichotomy f f' with hlt | heq | hgt
    · exact absurd h'.p (h.most f' hlt (by have := h'.fa; omega) (by have := h'.fb; omega) h'.pre)
    · exact heq
    · exact absurd h.p (h'.most f hgt (by have := h.fa; omega) (by have := h.fb; omega) h.pre)
  subst e
  refine ⟨rfl, ?_⟩
  rcases Nat.lt_trichotomy t t' with hlt | heq | hgt
  · exact absurd h'.q (h.far t' hlt h'.fa h'.fb h'.suf)
  · exact heq
  · exact absurd h.q (h'.far t hgt h.fa h.fb h.suf)
end Go.Proofs.Ytjebkpcekkkbkaa.B
namespace Go.Proofs.Ytjebkpcekkkbkaa.B
open Go.RowKit Go.Shelf Go.Proofs Go.Proofs.YtjebkpcekkkbkaaW.PrintWords Go.Proofs.YtjebkpcekkkbkaaW.PrintLast Go.Proofs.YtjebkpcekkkbkaaW.PrintMore Go.Proofs.Ytjebkpcekkkbkaa.FBase
def Ap (e : TypeId) (W : World) (base : Nat) (v : Value) (xs : List Int) : Prop :=
  (∃ ad, v = .slice (some ad) xs.length xs.length ∧ Kd.C (Kd.int .u8) W (some ad) xs.length xs) ∨ Kd.R (Kd.int .u8) e W base (fun _ => True) v xs
theorem Ap.read {e : TypeId} {W : World} {base : Nat} {v : Value} {xs : List Int} (h : Ap e W base v xs) : ∃ A c, v = .slice A xs.length c ∧ xs.length ≤ c ∧ (A = none → c = 0) ∧ Kd.C (Kd.int .u8) W A xs.length xs := by
  rcases h with ⟨ad, rfl, hC⟩ | hR
  · exact ⟨some ad, xs.length, rfl, Nat.le_refl _, (fun e => by cases e), hC⟩
  · obtain ⟨A, c, rfl, hl, hC⟩ := Kd.R_reads hR
    refine ⟨A, c, rfl, hl, fun e => ?_, hC⟩
    subst e
    obtain ⟨inner, ho⟩ := Kd.R_own hR
    rcases ho.2 with ⟨hv, _⟩ | ⟨g, cap', cur, hv, _⟩
    · injection hv
    · injection hv with h1 _ _
      cases h1
theorem Ap.below {e : TypeId} {W W1 : World} {base : Nat} {v : Value} {xs : List Int} (h : Ap e W base v xs) (hb : Below W.heap.size W W1) : Ap e W1 base v xs := by
  rcases h with ⟨ad, rfl, hC⟩ | hR
  · exact .inl ⟨ad, rfl, Kd.C_below hC hb⟩
  · exact .inr (Kd.R_below hR hb)
theorem Ap.full {e : TypeId} {W : World} (base : Nat) {A : Option Addr} {xs : List Int} (h : Kd.C (Kd.int .u8) W A xs.length xs) : Ap e W base (.slice A xs.length xs.length) xs := by
  cases A with
  | some ad => exact .inl ⟨ad, rfl, h⟩
  | none =>
    have h0 : xs.length = 0 := by
      rcases Nat.eq_zero_or_pos xs.length with h0 | h0
      · exact h0
      · obtain ⟨ad, h, _⟩ := h.2.2 h0
        cases h
    obtain rfl : xs = [] := List.eq_nil_of_length_eq_zero h0
    exact .inr (Kd.R_nil _ _ _ _ _)
theorem reads_cells {W : World} {ad : Addr} {xs : List Int} (h : Kd.C (Kd.int .u8) W (some ad) xs.length xs) : ∀ j u, (nums .u8 xs)[j]? = some u → W.cell? (ad.add j) = some u := by
  intro j u hj
  have hr := Kd.reads_of_C (enc := Value.int .u8) (d := (0 : Int)) (h1 := fun _ => rfl) h
  have hlt : j < xs.length := by
    have := (List.getElem?_eq_some_iff.1 hj).1
    rwa [nums_length] at this
  obtain ⟨ad', e1, h1⟩ := hr.2.2 (by omega)
  injection e1 with e1
  subst e1
  have h2 := h1 j hlt
  rw [h2]
  simp only [nums, List.getElem?_map] at hj
  rw [← hj]
  simp [List.getD, hlt]
section
variable {P : Program}
theorem ap_run_slice {W : World} (base : Nat) (t ty e : TypeId) (ht : P.underlying t = some (.slice e)) (hinfo : (P.info? e).map (fun i => (i.zero, i.size, i.bytes)) = some (some (.int .u8 0), 1, 1))
    (v : Value) (xs ys : List Int) (A : Option Addr) (c : Nat) (HO : Ap e W base v xs) (HR : Kd.C (Kd.int .u8) W A ys.length ys) (hbase : base ≤ W.heap.size) (hl : xs.length + ys.length ≤ 140737488355328) :
    ∃ v1 w1, (Builtin.append_ #[t, t] ty #[v, .slice A ys.length c]).run P W = .ok v1 w1 ∧ Ap e w1 base v1 (xs ++ ys) ∧ ∃ row, W.grownBy w1 row ∧ ∀ k, row = some k → base ≤ k := by
  obtain ⟨i0, hi, hzz⟩ := Option.map_eq_some_iff.1 hinfo
  simp only [Prod.mk.injEq] at hzz
  obtain ⟨hz0, hz1, hz2⟩ := hzz
  by_cases hfull : ∃ ad, v = .slice (some ad) xs.length xs.length ∧ Kd.C (Kd.int .u8) W (some ad) xs.length xs
  · obtain ⟨ad, rfl, hC⟩ := hfull
    by_cases h0 : ys.length = 0
    · obtain rfl : ys = [] := List.eq_nil_of_length_eq_zero h0
      refine ⟨_, W, ?_, by rw [List.append_nil]; exact .inl ⟨ad, rfl, hC⟩, none, World.grownBy.refl W _, fun k hk => by cases hk⟩
      rcases A with _ | a2
      · simp [Builtin.append_, run_underlying ht, sizeOf, typeInfo, hi, Builtin.lenOf, Builtin.firstCells, storeCells]
      · have hfc := run_firstCells_some (P := P) W i0.size 0 a2 0 c [] (by simp) (by simp)
        simp [Builtin.append_, run_underlying ht, sizeOf, typeInfo, hi, Builtin.lenOf, hfc, storeCells]
    · obtain ⟨a2, rfl⟩ : ∃ a2, A = some a2 := by
        obtain ⟨a2, h, _⟩ := HR.2.2 (by omega)
        exact ⟨a2, h⟩
      obtain ⟨v1, w1, hrun, hown, hg⟩ := run_append_arg_grows (P := P) W t ty e i0 (.int .u8 0) 1 1 ht hi hz0 hz1 hz2 rfl (by decide) ad xs.length xs.length (nums .u8 xs) (by rw [nums_length, Nat.mul_one]) (reads_cells hC) a2 ys.length c (nums .u8 ys) (by rw [nums_length, Nat.mul_one]) (reads_cells HR) (by omega) (by unfold maxLen; omega) (by omega)
      refine ⟨v1, w1, hrun, .inr ?_, none, hg, fun k hk => by cases hk⟩
      rw [← nums_append, ← List.length_append] at hown
      exact Kd.R_of_own (enc := Value.int .u8) (h1 := fun _ => rfl) (own_less hown hbase) (fun _ _ => trivial)
  · have hR : Kd.R (Kd.int .u8) e W base (fun _ => True) v xs := by
      rcases HO with h | h
      · exact absurd h hfull
      · exact h
    have hown := Kd.own_of_R (enc := Value.int .u8) (h1 := fun _ => rfl) hR
    rcases A with _ | a2
    · have h0 : ys.length = 0 := by
        rcases Nat.eq_zero_or_pos ys.length with h0 | h0
        · exact h0
        · obtain ⟨ad, h, _⟩ := HR.2.2 h0
          cases h
      obtain rfl : ys = [] := List.eq_nil_of_length_eq_zero h0
      refine ⟨v, W, ?_, by rw [List.append_nil]; exact .inr hR, none, World.grownBy.refl W _, fun k hk => by cases hk⟩
      rcases hown.2 with ⟨rfl, hn⟩ | ⟨g, cap, cur, rfl, _, _, hnc, _⟩
      · simp [Builtin.append_, run_underlying ht, sizeOf, typeInfo, hi, Builtin.lenOf, Builtin.firstCells]
      · simp [Builtin.append_, run_underlying ht, sizeOf, typeInfo, hi, Builtin.lenOf, Builtin.firstCells, hnc, storeCells]
    · obtain ⟨v1, w1, hrun, ho1, hg1, _⟩ := run_append_own (P := P) W base t ty e i0 (.int .u8 0) 1 1 ht hi hz0 hz1 hz2 rfl (by decide) v xs.length (encs (Value.int .u8) xs) hown a2 ys.length c (nums .u8 ys) (by rw [nums_length, Nat.mul_one]) (reads_cells HR) (by intro u hu; simp only [nums, List.mem_map] at hu; obtain ⟨x, _, rfl⟩ := hu; rfl) (by unfold maxLen; omega) (by omega) hbase
      refine ⟨v1, w1, hrun, .inr ?_, _, hg1, fun k hk => own_base hown k hk⟩
      refine Kd.R_of_own (enc := Value.int .u8) (h1 := fun _ => rfl) ?_ (fun _ _ => trivial)
      have e1 : encs (Value.int .u8) (xs ++ ys) = encs (Value.int .u8) xs ++ nums .u8 ys := by simp [encs, nums]
      rw [e1, List.length_append]
      exact ho1
theorem ap_append {w0 W : World} {ops : Array Oper} {rest : List Oper} {o : Oper} {a : Act} {Q : Exit → Act → World → Prop} (base : Nat) (hgd : o.guard = none) (s x : Operand) (t e : TypeId)
    (ho : o.op = .call { callee := .builtin .append, args := #[s, x], argTypes := #[t, t] }) (ht : P.underlying t = some (.slice e)) (hinfo : (P.info? e).map (fun i => (i.zero, i.size, i.bytes)) = some (some (.int .u8 0), 1, 1))
    (v : Value) (xs ys : List Int) (A : Option Addr) (m c : Nat) (hs : a.eval s = v) (hx : a.eval x = .slice A m c) (hm : ys.length = m)
    (HO : Ap e W base v xs) (HR : Kd.C (Kd.int .u8) W A ys.length ys) (HB : Below base w0 W) (hbase : base ≤ W.heap.size) (hl : xs.length + ys.length ≤ 140737488355328)
    (h : ∀ v1 w1, Ap e w1 base v1 (xs ++ ys) → Below base w0 w1 → W.heap.size ≤ w1.heap.size → wpList P ops Q rest (a.put o.dst v1) w1) : wpList P ops Q (o :: rest) a W := by
  subst hm
  refine wpList_plain hgd fun K hK' => ?_
  obtain ⟨v1, w1, hrun, r1, row, r2, r3⟩ := ap_run_slice (P := P) base t o.type e ht hinfo v xs ys A c HO HR hbase hl
  unfold Oper.wp
  simp [execOp, ho, resolve, invoke, builtin, hs, hx, hrun, Result.andThen]
  exact hK' _ _ (h v1 w1 r1 (HB.grown r2 hbase r3) r2.size)
theorem ap_run_str {W : World} (base : Nat) (t u ty e : TypeId) (ht : P.underlying t = some (.slice e)) (hu : P.underlying u = some .string) (hinfo : (P.info? e).map (fun i => (i.zero, i.size, i.bytes)) = some (some (.int .u8 0), 1, 1))
    (v : Value) (xs : List Int) (y : ByteArray) (HO : Ap e W base v xs) (hbase : base ≤ W.heap.size) (hl : xs.length + y.size ≤ 140737488355328) :
    ∃ v1 w1, (Builtin.append_ #[t, u] ty #[v, .string y]).run P W = .ok v1 w1 ∧ Ap e w1 base v1 (xs ++ bytesOf y) ∧ ∃ row, W.grownBy w1 row ∧ ∀ k, row = some k → base ≤ k := by
  obtain ⟨i0, hi, hzz⟩ := Option.map_eq_some_iff.1 hinfo
  simp only [Prod.mk.injEq] at hzz
  obtain ⟨hz0, hz1, hz2⟩ := hzz
  have ecs : ∀ xs : List Int, nums .u8 (xs ++ bytesOf y) = nums .u8 xs ++ Lib.strCells y := fun xs => by
    rw [nums_append]
    congr 1
    simp [nums, bytesOf, Lib.strCells]
  by_cases hfull : ∃ ad, v = .slice (some ad) xs.length xs.length ∧ Kd.C (Kd.int .u8) W (some ad) xs.length xs
  · obtain ⟨ad, rfl, hC⟩ := hfull
    by_cases h0 : y.size = 0
    · have e0 : bytesOf y = [] := List.eq_nil_of_length_eq_zero (by rw [bytesOf_length]; exact h0)
      refine ⟨.slice (some ad) xs.length xs.length, W, ?_, by rw [e0, List.append_nil]; exact .inl ⟨ad, rfl, hC⟩, none, World.grownBy.refl W _, fun k hk => by cases hk⟩
      have hf := Lib.run_firstCells_string (P := P) W i0.size y
      have e1 : Lib.strCells y = [] := List.eq_nil_of_length_eq_zero (by rw [Lib.strCells_length]; exact h0)
      rw [e1, h0] at hf
      simp [Builtin.append_, run_underlying ht, run_underlying hu, sizeOf, typeInfo, hi, Builtin.lenOf, h0, hf, storeCells]
    · have hcm : grownCap W (xs.length + y.size) xs.length e ≤ maxLen := grownCap_le_maxLen W _ xs.length e (by unfold maxLen; omega)
      have hge := grownCap_ge W (xs.length + y.size) xs.length e
      have hrun := Lib.run_append_grow_string (P := P) W t u ty e i0 (.int .u8 0) ht hu hi hz0 ad xs.length xs.length (nums .u8 xs) (by rw [nums_length, hz1, Nat.mul_one]) (reads_cells hC) y (by omega) (by omega) (by rw [hz2]; exact growslice_fits (by omega) (by omega))
      refine ⟨_, _, hrun, .inr ?_, none, ⟨rfl, rfl, rfl, by simp, fun k hk _ => heap_alloc_old W.drew _ k hk⟩, fun k hk => by cases hk⟩
      refine Kd.R_of_own (enc := Value.int .u8) (h1 := fun _ => rfl) ?_ (fun _ _ => trivial)
      have e1 : encs (Value.int .u8) (xs ++ bytesOf y) = nums .u8 xs ++ Lib.strCells y := ecs xs
      have hlen : (xs ++ bytesOf y).length = xs.length + y.size := by rw [List.length_append, bytesOf_length]
      rw [e1, hlen]
      refine ⟨by rw [List.length_append, nums_length, Lib.strCells_length, Nat.mul_one], .inr ⟨W.heap.size, _, _, rfl, hbase, heap_alloc_new W.drew _, hge, hcm, ?_, ?_⟩⟩
      · simp only [Array.size_append, List.size_toArray, size_zeroCells, nums_length, Lib.strCells_length]
        show _ = _ * 1
        have : (Value.int IntKind.u8 0).cells.size = 1 := rfl
        rw [this]
        omega
      · simp only [Array.toList_append, List.append_assoc]
        rw [← List.append_assoc, Nat.mul_one, show xs.length + y.size = (nums .u8 xs ++ Lib.strCells y).length by rw [List.length_append, nums_length, Lib.strCells_length]]
        exact List.take_left
  · have hR : Kd.R (Kd.int .u8) e W base (fun _ => True) v xs := by
      rcases HO with h | h
      · exact absurd h hfull
      · exact h
    have hown := Kd.own_of_R (enc := Value.int .u8) (h1 := fun _ => rfl) hR
    obtain ⟨v1, w1, hrun, ho1, hg1, _⟩ := Lib.run_append_own_string (P := P) W base t u ty e i0 ht hu hi hz0 hz1 hz2 v xs.length (nums .u8 xs) hown y (by unfold maxLen; omega) (by omega) hbase
    refine ⟨v1, w1, hrun, .inr ?_, _, hg1, fun k hk => own_base hown k hk⟩
    refine Kd.R_of_own (enc := Value.int .u8) (h1 := fun _ => rfl) ?_ (fun _ _ => trivial)
    have e1 : encs (Value.int .u8) (xs ++ bytesOf y) = nums .u8 xs ++ Lib.strCells y := ecs xs
    rw [e1, List.length_append, bytesOf_length]
    exact ho1
theorem ap_append_str {w0 W : World} {ops : Array Oper} {rest : List Oper} {o : Oper} {a : Act} {Q : Exit → Act → World → Prop} (base : Nat) (hgd : o.guard = none) (s x : Operand) (t u e : TypeId)
    (ho : o.op = .call { callee := .builtin .append, args := #[s, x], argTypes := #[t, u] }) (ht : P.underlying t = some (.slice e)) (hu : P.underlying u = some .string) (hinfo : (P.info? e).map (fun i => (i.zero, i.size, i.bytes)) = some (some (.int .u8 0), 1, 1))
    (v : Value) (xs : List Int) (y : ByteArray) (hs : a.eval s = v) (hx : a.eval x = .string y)
    (HO : Ap e W base v xs) (HB : Below base w0 W) (hbase : base ≤ W.heap.size) (hl : xs.length + y.size ≤ 140737488355328)
    (h : ∀ v1 w1, Ap e w1 base v1 (xs ++ bytesOf y) → Below base w0 w1 → W.heap.size ≤ w1.heap.size → wpList P ops Q rest (a.put o.dst v1) w1) : wpList P ops Q (o :: rest) a W := by
  refine wpList_plain hgd fun K hK' => ?_
  obtain ⟨v1, w1, hrun, r1, row, r2, r3⟩ := ap_run_str (P := P) base t u o.type e ht hu hinfo v xs y HO hbase hl
  unfold Oper.wp
  simp [execOp, ho, resolve, invoke, builtin, hs, hx, hrun, Result.andThen]
  exact hK' _ _ (h v1 w1 r1 (HB.grown r2 hbase r3) r2.size)
end
theorem bytes_C (W : World) (e : TypeId) (s : ByteArray) (hs : s.size ≤ 9223372036854775807) : Kd.C (Kd.int .u8) (Lib.bytesWorld W e s) (some ⟨W.heap.size, 0, none⟩) s.size (bytesOf s) :=
  Kd.C_of_reads (enc := Value.int .u8) (d := (0 : Int)) (h1 := fun _ => rfl) (bytes_reads W e s hs)
theorem bytesOf_B (s : ByteArray) : Bytes (bytesOf s) := by
  intro x hx
  simp only [bytesOf, List.mem_map] at hx
  obtain ⟨b, _, rfl⟩ := hx
  have := b.toNat_lt
  omega
end Go.Proofs.Ytjebkpcekkkbkaa.B
namespace Go.Proofs.Ytjebkpcekkkbkaa.B
open Go.RowKit Go.Shelf Go.Proofs Go.Proofs.YtjebkpcekkkbkaaW.PrintWords Go.Proofs.YtjebkpcekkkbkaaW.PrintLast Go.Proofs.YtjebkpcekkkbkaaW.PrintMore Go.Proofs.Ytjebkpcekkkbkaa.FBase
theorem texts1_f (l : List Int) (hl : Bytes l) (h1 : l.length ≤ 1048576) : edit_texts.f (l.length + 12) [l] = some (chk l).2 := by
  unfold edit_texts.f
  show edit_texts.l0 (l.length + 11 + 1) [l] 1 0 = _
  rw [edit_texts.l0, if_pos (by decide), if_pos (by decide), if_pos (by simp), show rd_L3 [l] 0 = l from rfl, Check_f l hl h1 (by omega)]
  simp only [Option.bind_some]
  by_cases h : (chk l).2 = 0
  · rw [if_pos h, show wrap64 (0 + 1) = 1 from by unfold wrap64; omega]
    show edit_texts.l0 (l.length + 10 + 1) [l] 1 1 = _
    rw [edit_texts.l0, if_neg (by decide), h]
  · rw [if_neg h]
theorem texts2_f (l t : List Int) (hl : Bytes l) (ht : Bytes t) (h1 : l.length ≤ 1048576) (h2 : t.length ≤ 140737488351232) : edit_texts.f (l.length + t.length + 12) [l, t] = some (if (chk l).2 ≠ 0 then (chk l).2 else (chk t).2) := by
  unfold edit_texts.f
  show edit_texts.l0 (l.length + t.length + 11 + 1) [l, t] 2 0 = _
  rw [edit_texts.l0, if_pos (by decide), if_pos (by decide), if_pos (by simp), show rd_L3 [l, t] 0 = l from rfl, Check_f l hl h1 (by omega)]
  simp only [Option.bind_some]
  by_cases h : (chk l).2 = 0
  · rw [if_pos h, show wrap64 (0 + 1) = 1 from by unfold wrap64; omega, if_neg (by omega)]
    show edit_texts.l0 (l.length + t.length + 10 + 1) [l, t] 2 1 = _
    rw [edit_texts.l0, if_pos (by decide), if_pos (by decide), if_pos (by simp), show rd_L3 [l, t] 1 = t from rfl, Check_F t ht (by omega) (by omega)]
    simp only [Option.bind_some]
    by_cases h' : (chk t).2 = 0
    · rw [if_pos h', show wrap64 (1 + 1) = 2 from by unfold wrap64; omega]
      show edit_texts.l0 (l.length + t.length + 9 + 1) [l, t] 2 2 = _
      rw [edit_texts.l0, if_neg (by decide), h']
    · rw [if_neg h']
  · rw [if_neg h, if_pos h]
theorem row1_C (W : World) (A : Option Addr) (c : Nat) (l : List Int) (hr : Kd.C (Kd.int .u8) W A l.length l) (hc : l.length ≤ c) (o : TypeId) :
    Kd.C (Kd.slice 5 (Kd.int .u8)) (W.alloc (.cells #[.slice A l.length c] o)) (some ⟨W.heap.size, 0, none⟩) 1 [l] := by
  refine ⟨rfl, by decide, fun _ => ⟨_, rfl, fun j p hj => ?_⟩⟩
  have hj0 : j = 0 := by
    have := (List.getElem?_eq_some_iff.1 hj).1
    simp at this
    omega
  subst hj0
  simp only [List.getElem?_cons_zero, Option.some.injEq] at hj
  subst hj
  refine ⟨[.slice A l.length c], rfl, ⟨A, c, rfl, hc, Kd.C_below hr (below_alloc (Below.refl _ _) _)⟩, fun i u hi => ?_⟩
  have hi0 : i = 0 := by
    have := (List.getElem?_eq_some_iff.1 hi).1
    simp at this
    omega
  subst hi0
  simp only [List.getElem?_cons_zero, Option.some.injEq] at hi
  subst hi
  rw [show (0 : Nat) * (Kd.slice 5 (Kd.int .u8)).sz + 0 = 0 from rfl, add_plain]
  exact (blk_cell (blk_new W _) 0).trans rfl
theorem row2_C (W : World) (A B : Option Addr) (c d : Nat) (l t : List Int) (hr : Kd.C (Kd.int .u8) W A l.length l) (hc : l.length ≤ c) (hr2 : Kd.C (Kd.int .u8) W B t.length t) (hd : t.length ≤ d) (o : TypeId) :
    Kd.C (Kd.slice 5 (Kd.int .u8)) (W.alloc (.cells #[.slice A l.length c, .slice B t.length d] o)) (some ⟨W.heap.size, 0, none⟩) 2 [l, t] := by
  refine ⟨rfl, by decide, fun _ => ⟨_, rfl, fun j p hj => ?_⟩⟩
  have hj0 : j = 0 ∨ j = 1 := by
    have := (List.getElem?_eq_some_iff.1 hj).1
    simp at this
    omega
  rcases hj0 with rfl | rfl
  · simp only [List.getElem?_cons_zero, Option.some.injEq] at hj
    subst hj
    refine ⟨[.slice A l.length c], rfl, ⟨A, c, rfl, hc, Kd.C_below hr (below_alloc (Below.refl _ _) _)⟩, fun i u hi => ?_⟩
    have hi0 : i = 0 := by
      have := (List.getElem?_eq_some_iff.1 hi).1
      simp at this
      omega
    subst hi0
    simp only [List.getElem?_cons_zero, Option.some.injEq] at hi
    subst hi
    rw [show (0 : Nat) * (Kd.slice 5 (Kd.int .u8)).sz + 0 = 0 from rfl, add_plain]
    exact (blk_cell (blk_new W _) 0).trans rfl
  · simp only [List.getElem?_cons_succ, List.getElem?_cons_zero, Option.some.injEq] at hj
    subst hj
    refine ⟨[.slice B t.length d], rfl, ⟨B, d, rfl, hd, Kd.C_below hr2 (below_alloc (Below.refl _ _) _)⟩, fun i u hi => ?_⟩
    have hi0 : i = 0 := by
      have := (List.getElem?_eq_some_iff.1 hi).1
      simp at this
      omega
    subst hi0
    simp only [List.getElem?_cons_zero, Option.some.injEq] at hi
    subst hi
    rw [show (1 : Nat) * (Kd.slice 5 (Kd.int .u8)).sz + 0 = 1 from rfl, add_plain]
    exact (blk_cell (blk_new W _) 1).trans rfl
set_option maxRecDepth 100000 in
set_option maxHeartbeats 1000000 in
theorem BClone_ok (A : Option Addr) (c : Nat) (l : List Int) (w : World) (hr : Kd.C (Kd.int .u8) w A l.length l) (hc : l.length ≤ c) (hn : A = none → c = 0) (hs : l.length ≤ 140737488355328) :
    Calls Try.prog 63 #[.slice A l.length c] w fun e w' => ∃ v : Value, e = .returned v ∧ Kd.R (Kd.int .u8) 5 w' w.heap.size (fun _ => True) v l ∧ Below w.heap.size w w' := by
  have HR := Aside0.mk hr
  have HC := Aside0.mk hc
  clear hr
  cases A with
  | none =>
    obtain rfl := hn rfl
    obtain rfl : l = [] := by cases l with | nil => rfl | cons _ _ => simp at hc
    have e0 := fun (w : World) (a : Option Addr) (n c n2 c2 : Nat) => Lib.run_eql_slice_nil (P := Try.prog) w 22 5 a n c n2 c2 Try.underlying22
    go_enter Try.func63, Try.ntmps63
    go_wp2
    go_ret
    exact ⟨_, rfl, Kd.R_nil _ _ _ _ _, Below.refl _ _⟩
  | some ad =>
    clear hc
    have e0 := fun (w : World) (a : Option Addr) (n c n2 c2 : Nat) => Lib.run_eql_slice_nil (P := Try.prog) w 22 5 a n c n2 c2 Try.underlying22
    go_enter Try.func63, Try.ntmps63
    go_wp2_with (first | ((with_reducible refine gate_dst (N := 5) rfl ?_); refine Kd.R_lit (Kd.int .u8) _ 5 ?hg (N := 5) ?hd (xs := ([] : List Int)) (inner := []) (ok := fun _ => True) (okp := fun _ => True) ?hr ?hp (fun _ hk => hk) trivial (Below.refl _ _) (Nat.le_refl _) (by simp) ?_; (case hd => rfl); (case hg => rfl); (case hr => first | (go_simp; done) | (go_simp; rfl)); (case hp => exact (Reps.none _ _)); intro v1 w5 ho hb hg_ hnew_; clear hg_ hnew_; have HO := Aside0.mk ho; have HB := Aside0.mk hb; clear hb ho) | ((with_reducible refine gate_builtin (b := .append) (xs := #[.tmp 5, .tmp 6]) rfl ?_); at_builtin; refine Kd.R_append_rows (Kd.int .u8) (w0 := w) w.heap.size rfl (.tmp 5) (.tmp 6) 22 5 (.int .u8 0) 1 rfl Try.underlying22 info5 rfl (by decide) (by omega) v1 [] l _ _ _ (fun _ => True) (fun _ => False) rfl rfl ?aO ?aR (fun _ _ h => h) (fun _ h => h.elim) ?aF ?aB ?aS ?aL ?_; (case aR => exact Kd.C_below HR.out (by repeat (first | exact HB.out | apply below_alloc | apply pw_below_drewN | apply below_drew1))); (case aB => exact (by repeat (first | exact HB.out | apply below_alloc | apply pw_below_drewN | apply below_drew1))); (case aF => exact (fun _ _ => trivial)); (case aO => exact HO.out); (case aS => exact below_size (by repeat (first | exact HB.out | apply below_alloc | apply pw_below_drewN | apply below_drew1))); (case aL => simp; omega); intro v2 w7 ho hb hg hat; have HB2 := Aside0.mk hb; have HO2 := Aside0.mk ho; clear ho hb hg hat))
    go_ret
    exact ⟨_, rfl, HO2.out, HB2.out⟩
theorem cut_hm (W : World) (A : Option Addr) (c : Nat) (l : List Int) (x1 : Int) (hC : Kd.C (Kd.int .u8) W A l.length l) (hc : l.length ≤ c) (h0 : 0 ≤ x1) (h2 : x1 ≤ l.length) :
    (∀ W1 : World, (Instr.slice 22 (.slice A l.length c) none (some (.int .i64 x1)) (some (.int .i64 x1))).run Try.prog W1 = .ok (.slice A (l.take x1.toNat).length (l.take x1.toNat).length) W1) ∧
      Kd.C (Kd.int .u8) W A (l.take x1.toNat).length (l.take x1.toNat) := by
  obtain ⟨i0, hi0, _, hsz, _⟩ := info_parts info5
  have hml : (l.take x1.toNat).length = x1.toNat := by rw [List.length_take]; omega
  refine ⟨fun W1 => ?_, Kd.C_take hC (m := x1.toNat) (by omega)⟩
  have hel : Try.prog.elem 22 = 5 := by simp [Program.elem, Try.underlying22]
  have hu : Try.prog.underlying 22 = some (.slice (Try.prog.elem 22)) := by rw [hel]; exact Try.underlying22
  have ha : (A.map fun x => x.add 0) = A := by cases A <;> simp [Addr.add]
  rw [run_slice_hm W1 22 A l.length c hu .i64 .i64 x1 x1 h0 (Int.le_refl _) (by omega), hel, hml]
  simp [sizeOf, typeInfo, hi0, sliced, Result.andThen, ha]
theorem cut_suf (W : World) (A : Option Addr) (c : Nat) (l : List Int) (x0 : Int) (hC : Kd.C (Kd.int .u8) W A l.length l) (hc : l.length ≤ c) (h0 : 0 ≤ x0) (h2 : x0 ≤ l.length) :
    ∃ B d, (∀ W1 : World, (Instr.slice 22 (.slice A l.length c) (some (.int .i64 x0)) none none).run Try.prog W1 = .ok (.slice B (l.drop x0.toNat).length d) W1) ∧
      Kd.C (Kd.int .u8) W B (l.drop x0.toNat).length (l.drop x0.toNat) ∧ (l.drop x0.toNat).length ≤ d := by
  obtain ⟨i0, hi0, _, hsz, _⟩ := info_parts info5
  have hcut := cut_from (P := Try.prog) 22 5 .i64 Try.underlying22 hi0 1 hsz A l.length c x0 h0 h2
  have hmid := Kd.C_mid hC (lo := x0.toNat) (hi := l.length) (by omega) (by omega) hc
  have hml : (l.drop x0.toNat).length = l.length - x0.toNat := by rw [List.length_drop]
  rw [List.take_length] at hmid
  refine ⟨_, c - x0.toNat, fun W1 => ?_, by rw [hml]; rw [hml] at hmid; exact hmid, ?_⟩
  · rw [hml]; exact hcut W1
  · rw [hml]; omega
set_option maxRecDepth 100000 in
set_option maxHeartbeats 4000000 in
theorem joined_ok (A : Option Addr) (c : Nat) (l : List Int) (x0 x1 : Int) (s : ByteArray) (w : World) (hr : Kd.C (Kd.int .u8) w A l.length l) (hc : l.length ≤ c) (h0 : 0 ≤ x0) (h1 : x0 ≤ x1) (h2 : x1 ≤ l.length) (hs : l.length + s.size ≤ 140737488355328) :
    Calls Try.prog 86 #[.slice A l.length c, .agg #[.int .i64 x0, .int .i64 x1], .string s] w fun e w' => ∃ v : Value, e = .returned v ∧ Kd.R (Kd.int .u8) 5 w' w.heap.size (fun _ => True) v (l.take x0.toNat ++ bytesOf s ++ l.drop x1.toNat) ∧ Below w.heap.size w w' := by
  have hrb : Kd.C (Kd.int .u8) (w.alloc (.cells #[.int .i64 x0, .int .i64 x1] 44)) A l.length l := Kd.C_below hr (below_alloc (Below.refl _ _) _)
  have c0 : (w.alloc (.cells #[.int .i64 x0, .int .i64 x1] 44)).cell? ⟨w.heap.size, 0, none⟩ = some (.int .i64 x0) := (blk_cell (blk_new w _) 0).trans rfl
  have c1 : (w.alloc (.cells #[.int .i64 x0, .int .i64 x1] 44)).cell? ⟨w.heap.size, 1, none⟩ = some (.int .i64 x1) := (blk_cell (blk_new w _) 1).trans rfl
  obtain ⟨E1, hC1⟩ := cut_hm _ A c l x0 hrb hc h0 (by omega)
  obtain ⟨B, d, E2, hC2, hd2⟩ := cut_suf _ A c l x1 hrb hc (by omega) h2
  have k1 : (l.take x0.toNat).length ≤ l.length := by rw [List.length_take]; omega
  have k2 : (l.take x0.toNat).length + (l.drop x1.toNat).length ≤ l.length := by rw [List.length_take, List.length_drop]; omega
  generalize l.take x0.toNat = hd at *
  generalize l.drop x1.toNat = tl at *
  have HL1 : Aside0 (hd.length + s.size ≤ 140737488355328) := ⟨by omega⟩
  have HL2 : Aside0 ((hd ++ bytesOf s).length + tl.length ≤ 140737488355328) := ⟨by rw [List.length_append, bytesOf_length]; omega⟩
  obtain ⟨out, hout⟩ : ∃ out, hd ++ bytesOf s ++ tl = out := ⟨_, rfl⟩
  have HLO : Aside0 (out.length ≤ 140737488355328) := ⟨by rw [← hout, List.length_append]; exact HL2.out⟩
  rw [hout]
  have HOUT := Aside0.mk hout
  have HC1 := Aside0.mk hC1
  have HC2 := Aside0.mk hC2
  clear hout hC1 hC2 hr hrb k1 k2 hd2
  go_enter Try.func86, Try.ntmps86
  go_wp2_with (first | ((with_reducible refine gate_builtin (b := .append) (xs := #[.tmp 13, .tmp 14]) rfl ?_); at_builtin; refine ap_append_str (w0 := (w.alloc (.cells #[.int .i64 x0, .int .i64 x1] 44))) (w.alloc (.cells #[.int .i64 x0, .int .i64 x1] 44)).heap.size rfl (.tmp 13) (.tmp 14) 22 9 5 rfl Try.underlying22 Try.underlying9 info5 _ hd s rfl rfl ?bO ?bB ?bS ?bL ?_; (case bO => exact Ap.full _ HC1.out); (case bB => exact Below.refl _ _); (case bS => exact Nat.le_refl _); (case bL => exact HL1.out); intro v1 w1 hA hb hsz; have HA1 := Aside0.mk hA; have HB1 := Aside0.mk hb; have c0' : w1.cell? ⟨w.heap.size, 0, none⟩ = some (.int .i64 x0) := cell_below c0 hb; have c1' : w1.cell? ⟨w.heap.size, 1, none⟩ = some (.int .i64 x1) := cell_below c1 hb; clear hA hb hsz) | ((with_reducible refine gate_builtin (b := .append) (xs := #[.tmp 16, .tmp 20]) rfl ?_); at_builtin; refine ap_append (w0 := (w.alloc (.cells #[.int .i64 x0, .int .i64 x1] 44))) (w.alloc (.cells #[.int .i64 x0, .int .i64 x1] 44)).heap.size rfl (.tmp 16) (.tmp 20) 22 5 rfl Try.underlying22 info5 v1 (hd ++ bytesOf s) tl B tl.length d rfl rfl rfl HA1.out ?eR HB1.out HB1.out.size ?eL ?_; (case eR => exact Kd.C_below HC2.out HB1.out); (case eL => exact HL2.out); intro v2 w2 hA hb hsz; rw [HOUT.out] at hA; obtain ⟨A3, c3, rfl, hl3, hn3, hC3⟩ := hA.read; have HB2 := Aside0.mk hb; have HC3 := Aside0.mk hC3; have HL3 := Aside0.mk hl3; have HN3 := Aside0.mk hn3; clear hA hb hsz hl3 hn3 hC3) | (go_at_call 63; refine (BClone_ok A3 c3 out _ HC3.out HL3.out HN3.out HLO.out).mono ?_; rintro e w3 ⟨v3, rfl, hR, hb⟩; have HR3 := Aside0.mk hR; have HB3 := Aside0.mk hb; clear hR hb))
  go_ret
  have hB2 : Below w.heap.size w w2 := below_step (below_alloc (Below.refl _ _) _) HB2.out
  exact ⟨_, rfl, Kd.R_lower HR3.out hB2.size, below_step hB2 HB3.out⟩
set_option maxRecDepth 100000 in
set_option maxHeartbeats 1000000 in
theorem MSpan_e1 (p : Option Addr) (x0 x1 x2 x3 va ea : Int) (w : World) (h1 : ∀ W, Below w.heap.size w W → Calls Try.prog 62 #[.pointer p, .agg #[.int .i64 x0, .int .i64 x1]] W fun e W' => e = .returned (.tuple #[.int .i64 va, .int .i64 ea]) ∧ Below W.heap.size W W') (hz : ea ≠ 0) : Calls Try.prog 26 #[.pointer p, .agg #[.int .i64 x0, .int .i64 x1, .int .i64 x2, .int .i64 x3]] w fun e w' => e = .returned (.tuple #[.agg #[.int .i64 0, .int .i64 0], .int .i64 ea]) ∧ Below w.heap.size w w' := by
  have hb1 := below_alloc (Below.refl _ w) (.cells #[.int .i64 x0, .int .i64 x1, .int .i64 x2, .int .i64 x3] 27)
  have hb2 : Below (w.alloc (.cells #[.int .i64 x0, .int .i64 x1, .int .i64 x2, .int .i64 x3] 27)).heap.size (w.alloc (.cells #[.int .i64 x0, .int .i64 x1, .int .i64 x2, .int .i64 x3] 27)) ((w.alloc (.cells #[.int .i64 x0, .int .i64 x1, .int .i64 x2, .int .i64 x3] 27)).alloc (.cells #[.int .i64 0, .int .i64 0] 44)) := below_alloc (Below.refl _ _) _
  have hg : IsBlk ((w.alloc (.cells #[.int .i64 x0, .int .i64 x1, .int .i64 x2, .int .i64 x3] 27)).alloc (.cells #[.int .i64 0, .int .i64 0] 44)) (w.alloc (.cells #[.int .i64 x0, .int .i64 x1, .int .i64 x2, .int .i64 x3] 27)).heap.size (.cells #[.int .i64 0, .int .i64 0] 44) := blk_new _ _
  rw [World.size_alloc] at hg
  have HS : Aside0 (Sta w ((w.alloc (.cells #[.int .i64 x0, .int .i64 x1, .int .i64 x2, .int .i64 x3] 27)).alloc (.cells #[.int .i64 0, .int .i64 0] 44)) (fun W => IsBlk W w.heap.size (.cells #[.int .i64 x0, .int .i64 x1, .int .i64 x2, .int .i64 x3] 27) ∧ IsBlk W (w.heap.size + 1) (.cells #[.int .i64 0, .int .i64 0] 44))) := ⟨⟨below_step hb1 hb2, ⟨IsBlk.below (blk_new w _) hb2, hg⟩, keeps_and (keeps_blk _ _) (keeps_blk _ _)⟩⟩
  clear hb1 hb2 hg
  have n1 := blk_lt HS.out.now.1
  have n2 := blk_lt HS.out.now.2
  have c0 : ((w.alloc (.cells #[.int .i64 x0, .int .i64 x1, .int .i64 x2, .int .i64 x3] 27)).alloc (.cells #[.int .i64 0, .int .i64 0] 44)).cell? ⟨w.heap.size, 0, none⟩ = some (.int .i64 x0) := HS.out.now.1.cell 0
  have c1 : ((w.alloc (.cells #[.int .i64 x0, .int .i64 x1, .int .i64 x2, .int .i64 x3] 27)).alloc (.cells #[.int .i64 0, .int .i64 0] 44)).cell? ⟨w.heap.size, 1, none⟩ = some (.int .i64 x1) := HS.out.now.1.cell 1
  have c2 : ((w.alloc (.cells #[.int .i64 x0, .int .i64 x1, .int .i64 x2, .int .i64 x3] 27)).alloc (.cells #[.int .i64 0, .int .i64 0] 44)).cell? ⟨w.heap.size, 2, none⟩ = some (.int .i64 x2) := HS.out.now.1.cell 2
  have c3 : ((w.alloc (.cells #[.int .i64 x0, .int .i64 x1, .int .i64 x2, .int .i64 x3] 27)).alloc (.cells #[.int .i64 0, .int .i64 0] 44)).cell? ⟨w.heap.size, 3, none⟩ = some (.int .i64 x3) := HS.out.now.1.cell 3
  have k0 : ((w.alloc (.cells #[.int .i64 x0, .int .i64 x1, .int .i64 x2, .int .i64 x3] 27)).alloc (.cells #[.int .i64 0, .int .i64 0] 44)).cell? ⟨w.heap.size + 1, 0, none⟩ = some (.int .i64 0) := HS.out.now.2.cell 0
  have f0 := HS.out.now.2.frozen 0
  have k1 : ((w.alloc (.cells #[.int .i64 x0, .int .i64 x1, .int .i64 x2, .int .i64 x3] 27)).alloc (.cells #[.int .i64 0, .int .i64 0] 44)).cell? ⟨w.heap.size + 1, 1, none⟩ = some (.int .i64 0) := HS.out.now.2.cell 1
  have f1 := HS.out.now.2.frozen 1
  have H1 := Aside0.mk h1
  clear h1
  have hz1 : (ea != 0) = true := bne_iff_ne.mpr hz
  clear hz
  have t1 := True.intro
  have t2 := True.intro
  go_enter Try.func26, Try.ntmps26
  go_wp2_with (have _t := t1; go_at_call 62; refine (H1.out _ (HS.out.step (by repeat (first | exact Below.refl _ _ | apply below_alloc | apply pw_below_drewN | apply below_drew1))).bel).mono ?_; rintro e w1 ⟨rfl, hb⟩; have m_ := Aside0.mk (HS.out.call (by repeat (first | exact Below.refl _ _ | apply below_alloc | apply pw_below_drewN | apply below_drew1)) hb); clear HS hb; have HS := m_; clear m_; have n1 := blk_lt HS.out.now.1; have n2 := blk_lt HS.out.now.2; have c0 : w1.cell? ⟨w.heap.size, 0, none⟩ = some (.int .i64 x0) := HS.out.now.1.cell 0; have c1 : w1.cell? ⟨w.heap.size, 1, none⟩ = some (.int .i64 x1) := HS.out.now.1.cell 1; have c2 : w1.cell? ⟨w.heap.size, 2, none⟩ = some (.int .i64 x2) := HS.out.now.1.cell 2; have c3 : w1.cell? ⟨w.heap.size, 3, none⟩ = some (.int .i64 x3) := HS.out.now.1.cell 3; have k0 : w1.cell? ⟨w.heap.size + 1, 0, none⟩ = some (.int .i64 0) := HS.out.now.2.cell 0; have f0 := HS.out.now.2.frozen 0; have k1 : w1.cell? ⟨w.heap.size + 1, 1, none⟩ = some (.int .i64 0) := HS.out.now.2.cell 1; have f1 := HS.out.now.2.frozen 1; clear t1 _t)
  all_goals try (go_step3; go_wp2)
  first | rw [Exit.noGoto_ret] | skip
  refine bodyPost_ret (v := .tuple #[.agg #[.int .i64 0, .int .i64 0], .int .i64 ea]) (by simp [results, Try.results26, go_sem, *]) rfl ⟨rfl, ?_⟩
  have hS := HS.out.bel
  repeat (first | exact hS | apply below_alloc | apply pw_below_drewN | apply below_drew1 | refine Below.setCell ?_ (by simp) _)
set_option maxRecDepth 100000 in
set_option maxHeartbeats 1000000 in
theorem MSpan_e2 (p : Option Addr) (x0 x1 x2 x3 va vb eb : Int) (w : World) (h1 : ∀ W, Below w.heap.size w W → Calls Try.prog 62 #[.pointer p, .agg #[.int .i64 x0, .int .i64 x1]] W fun e W' => e = .returned (.tuple #[.int .i64 va, .int .i64 0]) ∧ Below W.heap.size W W') (h2 : ∀ W, Below w.heap.size w W → Calls Try.prog 62 #[.pointer p, .agg #[.int .i64 x2, .int .i64 x3]] W fun e W' => e = .returned (.tuple #[.int .i64 vb, .int .i64 eb]) ∧ Below W.heap.size W W') (hz : eb ≠ 0) : Calls Try.prog 26 #[.pointer p, .agg #[.int .i64 x0, .int .i64 x1, .int .i64 x2, .int .i64 x3]] w fun e w' => e = .returned (.tuple #[.agg #[.int .i64 0, .int .i64 0], .int .i64 eb]) ∧ Below w.heap.size w w' := by
  have hb1 := below_alloc (Below.refl _ w) (.cells #[.int .i64 x0, .int .i64 x1, .int .i64 x2, .int .i64 x3] 27)
  have hb2 : Below (w.alloc (.cells #[.int .i64 x0, .int .i64 x1, .int .i64 x2, .int .i64 x3] 27)).heap.size (w.alloc (.cells #[.int .i64 x0, .int .i64 x1, .int .i64 x2, .int .i64 x3] 27)) ((w.alloc (.cells #[.int .i64 x0, .int .i64 x1, .int .i64 x2, .int .i64 x3] 27)).alloc (.cells #[.int .i64 0, .int .i64 0] 44)) := below_alloc (Below.refl _ _) _
  have hg : IsBlk ((w.alloc (.cells #[.int .i64 x0, .int .i64 x1, .int .i64 x2, .int .i64 x3] 27)).alloc (.cells #[.int .i64 0, .int .i64 0] 44)) (w.alloc (.cells #[.int .i64 x0, .int .i64 x1, .int .i64 x2, .int .i64 x3] 27)).heap.size (.cells #[.int .i64 0, .int .i64 0] 44) := blk_new _ _
  rw [World.size_alloc] at hg
  have HS : Aside0 (Sta w ((w.alloc (.cells #[.int .i64 x0, .int .i64 x1, .int .i64 x2, .int .i64 x3] 27)).alloc (.cells #[.int .i64 0, .int .i64 0] 44)) (fun W => IsBlk W w.heap.size (.cells #[.int .i64 x0, .int .i64 x1, .int .i64 x2, .int .i64 x3] 27) ∧ IsBlk W (w.heap.size + 1) (.cells #[.int .i64 0, .int .i64 0] 44))) := ⟨⟨below_step hb1 hb2, ⟨IsBlk.below (blk_new w _) hb2, hg⟩, keeps_and (keeps_blk _ _) (keeps_blk _ _)⟩⟩
  clear hb1 hb2 hg
  have n1 := blk_lt HS.out.now.1
  have n2 := blk_lt HS.out.now.2
  have c0 : ((w.alloc (.cells #[.int .i64 x0, .int .i64 x1, .int .i64 x2, .int .i64 x3] 27)).alloc (.cells #[.int .i64 0, .int .i64 0] 44)).cell? ⟨w.heap.size, 0, none⟩ = some (.int .i64 x0) := HS.out.now.1.cell 0
  have c1 : ((w.alloc (.cells #[.int .i64 x0, .int .i64 x1, .int .i64 x2, .int .i64 x3] 27)).alloc (.cells #[.int .i64 0, .int .i64 0] 44)).cell? ⟨w.heap.size, 1, none⟩ = some (.int .i64 x1) := HS.out.now.1.cell 1
  have c2 : ((w.alloc (.cells #[.int .i64 x0, .int .i64 x1, .int .i64 x2, .int .i64 x3] 27)).alloc (.cells #[.int .i64 0, .int .i64 0] 44)).cell? ⟨w.heap.size, 2, none⟩ = some (.int .i64 x2) := HS.out.now.1.cell 2
  have c3 : ((w.alloc (.cells #[.int .i64 x0, .int .i64 x1, .int .i64 x2, .int .i64 x3] 27)).alloc (.cells #[.int .i64 0, .int .i64 0] 44)).cell? ⟨w.heap.size, 3, none⟩ = some (.int .i64 x3) := HS.out.now.1.cell 3
  have k0 : ((w.alloc (.cells #[.int .i64 x0, .int .i64 x1, .int .i64 x2, .int .i64 x3] 27)).alloc (.cells #[.int .i64 0, .int .i64 0] 44)).cell? ⟨w.heap.size + 1, 0, none⟩ = some (.int .i64 0) := HS.out.now.2.cell 0
  have f0 := HS.out.now.2.frozen 0
  have k1 : ((w.alloc (.cells #[.int .i64 x0, .int .i64 x1, .int .i64 x2, .int .i64 x3] 27)).alloc (.cells #[.int .i64 0, .int .i64 0] 44)).cell? ⟨w.heap.size + 1, 1, none⟩ = some (.int .i64 0) := HS.out.now.2.cell 1
  have f1 := HS.out.now.2.frozen 1
  have H1 := Aside0.mk h1
  clear h1
  have H2 := Aside0.mk h2
  clear h2
  have hz1 : (eb != 0) = true := bne_iff_ne.mpr hz
  clear hz
  have t1 := True.intro
  have t2 := True.intro
  go_enter Try.func26, Try.ntmps26
  go_wp2_with (first | (have _t := t1; go_at_call 62; refine (H1.out _ (HS.out.step (by repeat (first | exact Below.refl _ _ | apply below_alloc | apply pw_below_drewN | apply below_drew1))).bel).mono ?_; rintro e w1 ⟨rfl, hb⟩; have m_ := Aside0.mk (HS.out.call (by repeat (first | exact Below.refl _ _ | apply below_alloc | apply pw_below_drewN | apply below_drew1)) hb); clear HS hb; have HS := m_; clear m_; have n1 := blk_lt HS.out.now.1; have n2 := blk_lt HS.out.now.2; have c0 : w1.cell? ⟨w.heap.size, 0, none⟩ = some (.int .i64 x0) := HS.out.now.1.cell 0; have c1 : w1.cell? ⟨w.heap.size, 1, none⟩ = some (.int .i64 x1) := HS.out.now.1.cell 1; have c2 : w1.cell? ⟨w.heap.size, 2, none⟩ = some (.int .i64 x2) := HS.out.now.1.cell 2; have c3 : w1.cell? ⟨w.heap.size, 3, none⟩ = some (.int .i64 x3) := HS.out.now.1.cell 3; have k0 : w1.cell? ⟨w.heap.size + 1, 0, none⟩ = some (.int .i64 0) := HS.out.now.2.cell 0; have f0 := HS.out.now.2.frozen 0; have k1 : w1.cell? ⟨w.heap.size + 1, 1, none⟩ = some (.int .i64 0) := HS.out.now.2.cell 1; have f1 := HS.out.now.2.frozen 1; clear t1 _t) | (have _t := t2; go_at_call 62; refine (H2.out _ (HS.out.step (by repeat (first | exact Below.refl _ _ | apply below_alloc | apply pw_below_drewN | apply below_drew1))).bel).mono ?_; rintro e w2 ⟨rfl, hb⟩; have m_ := Aside0.mk (HS.out.call (by repeat (first | exact Below.refl _ _ | apply below_alloc | apply pw_below_drewN | apply below_drew1)) hb); clear HS hb; have HS := m_; clear m_; have n1 := blk_lt HS.out.now.1; have n2 := blk_lt HS.out.now.2; have c0 : w2.cell? ⟨w.heap.size, 0, none⟩ = some (.int .i64 x0) := HS.out.now.1.cell 0; have c1 : w2.cell? ⟨w.heap.size, 1, none⟩ = some (.int .i64 x1) := HS.out.now.1.cell 1; have c2 : w2.cell? ⟨w.heap.size, 2, none⟩ = some (.int .i64 x2) := HS.out.now.1.cell 2; have c3 : w2.cell? ⟨w.heap.size, 3, none⟩ = some (.int .i64 x3) := HS.out.now.1.cell 3; have k0 : w2.cell? ⟨w.heap.size + 1, 0, none⟩ = some (.int .i64 0) := HS.out.now.2.cell 0; have f0 := HS.out.now.2.frozen 0; have k1 : w2.cell? ⟨w.heap.size + 1, 1, none⟩ = some (.int .i64 0) := HS.out.now.2.cell 1; have f1 := HS.out.now.2.frozen 1; clear t2 _t))
  all_goals try (go_step3; go_wp2)
  first | rw [Exit.noGoto_ret] | skip
  refine bodyPost_ret (v := .tuple #[.agg #[.int .i64 0, .int .i64 0], .int .i64 eb]) (by simp [results, Try.results26, go_sem, *]) rfl ⟨rfl, ?_⟩
  have hS := HS.out.bel
  repeat (first | exact hS | apply below_alloc | apply pw_below_drewN | apply below_drew1 | refine Below.setCell ?_ (by simp) _)
set_option maxRecDepth 100000 in
set_option maxHeartbeats 1000000 in
theorem MSpan_rev (p : Option Addr) (x0 x1 x2 x3 va vb : Int) (w : World) (h1 : ∀ W, Below w.heap.size w W → Calls Try.prog 62 #[.pointer p, .agg #[.int .i64 x0, .int .i64 x1]] W fun e W' => e = .returned (.tuple #[.int .i64 va, .int .i64 0]) ∧ Below W.heap.size W W') (h2 : ∀ W, Below w.heap.size w W → Calls Try.prog 62 #[.pointer p, .agg #[.int .i64 x2, .int .i64 x3]] W fun e W' => e = .returned (.tuple #[.int .i64 vb, .int .i64 0]) ∧ Below W.heap.size W W') (hlt : vb < va) : Calls Try.prog 26 #[.pointer p, .agg #[.int .i64 x0, .int .i64 x1, .int .i64 x2, .int .i64 x3]] w fun e w' => e = .returned (.tuple #[.agg #[.int .i64 0, .int .i64 0], .int .i64 2]) ∧ Below w.heap.size w w' := by
  have hb1 := below_alloc (Below.refl _ w) (.cells #[.int .i64 x0, .int .i64 x1, .int .i64 x2, .int .i64 x3] 27)
  have hb2 : Below (w.alloc (.cells #[.int .i64 x0, .int .i64 x1, .int .i64 x2, .int .i64 x3] 27)).heap.size (w.alloc (.cells #[.int .i64 x0, .int .i64 x1, .int .i64 x2, .int .i64 x3] 27)) ((w.alloc (.cells #[.int .i64 x0, .int .i64 x1, .int .i64 x2, .int .i64 x3] 27)).alloc (.cells #[.int .i64 0, .int .i64 0] 44)) := below_alloc (Below.refl _ _) _
  have hg : IsBlk ((w.alloc (.cells #[.int .i64 x0, .int .i64 x1, .int .i64 x2, .int .i64 x3] 27)).alloc (.cells #[.int .i64 0, .int .i64 0] 44)) (w.alloc (.cells #[.int .i64 x0, .int .i64 x1, .int .i64 x2, .int .i64 x3] 27)).heap.size (.cells #[.int .i64 0, .int .i64 0] 44) := blk_new _ _
  rw [World.size_alloc] at hg
  have HS : Aside0 (Sta w ((w.alloc (.cells #[.int .i64 x0, .int .i64 x1, .int .i64 x2, .int .i64 x3] 27)).alloc (.cells #[.int .i64 0, .int .i64 0] 44)) (fun W => IsBlk W w.heap.size (.cells #[.int .i64 x0, .int .i64 x1, .int .i64 x2, .int .i64 x3] 27) ∧ IsBlk W (w.heap.size + 1) (.cells #[.int .i64 0, .int .i64 0] 44))) := ⟨⟨below_step hb1 hb2, ⟨IsBlk.below (blk_new w _) hb2, hg⟩, keeps_and (keeps_blk _ _) (keeps_blk _ _)⟩⟩
  clear hb1 hb2 hg
  have n1 := blk_lt HS.out.now.1
  have n2 := blk_lt HS.out.now.2
  have c0 : ((w.alloc (.cells #[.int .i64 x0, .int .i64 x1, .int .i64 x2, .int .i64 x3] 27)).alloc (.cells #[.int .i64 0, .int .i64 0] 44)).cell? ⟨w.heap.size, 0, none⟩ = some (.int .i64 x0) := HS.out.now.1.cell 0
  have c1 : ((w.alloc (.cells #[.int .i64 x0, .int .i64 x1, .int .i64 x2, .int .i64 x3] 27)).alloc (.cells #[.int .i64 0, .int .i64 0] 44)).cell? ⟨w.heap.size, 1, none⟩ = some (.int .i64 x1) := HS.out.now.1.cell 1
  have c2 : ((w.alloc (.cells #[.int .i64 x0, .int .i64 x1, .int .i64 x2, .int .i64 x3] 27)).alloc (.cells #[.int .i64 0, .int .i64 0] 44)).cell? ⟨w.heap.size, 2, none⟩ = some (.int .i64 x2) := HS.out.now.1.cell 2
  have c3 : ((w.alloc (.cells #[.int .i64 x0, .int .i64 x1, .int .i64 x2, .int .i64 x3] 27)).alloc (.cells #[.int .i64 0, .int .i64 0] 44)).cell? ⟨w.heap.size, 3, none⟩ = some (.int .i64 x3) := HS.out.now.1.cell 3
  have k0 : ((w.alloc (.cells #[.int .i64 x0, .int .i64 x1, .int .i64 x2, .int .i64 x3] 27)).alloc (.cells #[.int .i64 0, .int .i64 0] 44)).cell? ⟨w.heap.size + 1, 0, none⟩ = some (.int .i64 0) := HS.out.now.2.cell 0
  have f0 := HS.out.now.2.frozen 0
  have k1 : ((w.alloc (.cells #[.int .i64 x0, .int .i64 x1, .int .i64 x2, .int .i64 x3] 27)).alloc (.cells #[.int .i64 0, .int .i64 0] 44)).cell? ⟨w.heap.size + 1, 1, none⟩ = some (.int .i64 0) := HS.out.now.2.cell 1
  have f1 := HS.out.now.2.frozen 1
  have H1 := Aside0.mk h1
  clear h1
  have H2 := Aside0.mk h2
  clear h2
  have t1 := True.intro
  have t2 := True.intro
  go_enter Try.func26, Try.ntmps26
  go_wp2_with (first | (have _t := t1; go_at_call 62; refine (H1.out _ (HS.out.step (by repeat (first | exact Below.refl _ _ | apply below_alloc | apply pw_below_drewN | apply below_drew1))).bel).mono ?_; rintro e w1 ⟨rfl, hb⟩; have m_ := Aside0.mk (HS.out.call (by repeat (first | exact Below.refl _ _ | apply below_alloc | apply pw_below_drewN | apply below_drew1)) hb); clear HS hb; have HS := m_; clear m_; have n1 := blk_lt HS.out.now.1; have n2 := blk_lt HS.out.now.2; have c0 : w1.cell? ⟨w.heap.size, 0, none⟩ = some (.int .i64 x0) := HS.out.now.1.cell 0; have c1 : w1.cell? ⟨w.heap.size, 1, none⟩ = some (.int .i64 x1) := HS.out.now.1.cell 1; have c2 : w1.cell? ⟨w.heap.size, 2, none⟩ = some (.int .i64 x2) := HS.out.now.1.cell 2; have c3 : w1.cell? ⟨w.heap.size, 3, none⟩ = some (.int .i64 x3) := HS.out.now.1.cell 3; have k0 : w1.cell? ⟨w.heap.size + 1, 0, none⟩ = some (.int .i64 0) := HS.out.now.2.cell 0; have f0 := HS.out.now.2.frozen 0; have k1 : w1.cell? ⟨w.heap.size + 1, 1, none⟩ = some (.int .i64 0) := HS.out.now.2.cell 1; have f1 := HS.out.now.2.frozen 1; clear t1 _t) | (have _t := t2; go_at_call 62; refine (H2.out _ (HS.out.step (by repeat (first | exact Below.refl _ _ | apply below_alloc | apply pw_below_drewN | apply below_drew1))).bel).mono ?_; rintro e w2 ⟨rfl, hb⟩; have m_ := Aside0.mk (HS.out.call (by repeat (first | exact Below.refl _ _ | apply below_alloc | apply pw_below_drewN | apply below_drew1)) hb); clear HS hb; have HS := m_; clear m_; have n1 := blk_lt HS.out.now.1; have n2 := blk_lt HS.out.now.2; have c0 : w2.cell? ⟨w.heap.size, 0, none⟩ = some (.int .i64 x0) := HS.out.now.1.cell 0; have c1 : w2.cell? ⟨w.heap.size, 1, none⟩ = some (.int .i64 x1) := HS.out.now.1.cell 1; have c2 : w2.cell? ⟨w.heap.size, 2, none⟩ = some (.int .i64 x2) := HS.out.now.1.cell 2; have c3 : w2.cell? ⟨w.heap.size, 3, none⟩ = some (.int .i64 x3) := HS.out.now.1.cell 3; have k0 : w2.cell? ⟨w.heap.size + 1, 0, none⟩ = some (.int .i64 0) := HS.out.now.2.cell 0; have f0 := HS.out.now.2.frozen 0; have k1 : w2.cell? ⟨w.heap.size + 1, 1, none⟩ = some (.int .i64 0) := HS.out.now.2.cell 1; have f1 := HS.out.now.2.frozen 1; clear t2 _t))
  all_goals try (go_step3; go_wp2)
  first | rw [Exit.noGoto_ret] | skip
  refine bodyPost_ret (v := .tuple #[.agg #[.int .i64 0, .int .i64 0], .int .i64 2]) (by simp [results, Try.results26, go_sem, *]) rfl ⟨rfl, ?_⟩
  have hS := HS.out.bel
  repeat (first | exact hS | apply below_alloc | apply pw_below_drewN | apply below_drew1 | refine Below.setCell ?_ (by simp) _)
set_option maxRecDepth 100000 in
set_option maxHeartbeats 1000000 in
theorem MSpan_ok (p : Option Addr) (x0 x1 x2 x3 va vb : Int) (w : World) (h1 : ∀ W, Below w.heap.size w W → Calls Try.prog 62 #[.pointer p, .agg #[.int .i64 x0, .int .i64 x1]] W fun e W' => e = .returned (.tuple #[.int .i64 va, .int .i64 0]) ∧ Below W.heap.size W W') (h2 : ∀ W, Below w.heap.size w W → Calls Try.prog 62 #[.pointer p, .agg #[.int .i64 x2, .int .i64 x3]] W fun e W' => e = .returned (.tuple #[.int .i64 vb, .int .i64 0]) ∧ Below W.heap.size W W') (hlt : va ≤ vb) : Calls Try.prog 26 #[.pointer p, .agg #[.int .i64 x0, .int .i64 x1, .int .i64 x2, .int .i64 x3]] w fun e w' => e = .returned (.tuple #[.agg #[.int .i64 va, .int .i64 vb], .int .i64 0]) ∧ Below w.heap.size w w' := by
  have hb1 := below_alloc (Below.refl _ w) (.cells #[.int .i64 x0, .int .i64 x1, .int .i64 x2, .int .i64 x3] 27)
  have hb2 : Below (w.alloc (.cells #[.int .i64 x0, .int .i64 x1, .int .i64 x2, .int .i64 x3] 27)).heap.size (w.alloc (.cells #[.int .i64 x0, .int .i64 x1, .int .i64 x2, .int .i64 x3] 27)) ((w.alloc (.cells #[.int .i64 x0, .int .i64 x1, .int .i64 x2, .int .i64 x3] 27)).alloc (.cells #[.int .i64 0, .int .i64 0] 44)) := below_alloc (Below.refl _ _) _
  have hg : IsBlk ((w.alloc (.cells #[.int .i64 x0, .int .i64 x1, .int .i64 x2, .int .i64 x3] 27)).alloc (.cells #[.int .i64 0, .int .i64 0] 44)) (w.alloc (.cells #[.int .i64 x0, .int .i64 x1, .int .i64 x2, .int .i64 x3] 27)).heap.size (.cells #[.int .i64 0, .int .i64 0] 44) := blk_new _ _
  rw [World.size_alloc] at hg
  have HS : Aside0 (Sta w ((w.alloc (.cells #[.int .i64 x0, .int .i64 x1, .int .i64 x2, .int .i64 x3] 27)).alloc (.cells #[.int .i64 0, .int .i64 0] 44)) (fun W => IsBlk W w.heap.size (.cells #[.int .i64 x0, .int .i64 x1, .int .i64 x2, .int .i64 x3] 27) ∧ IsBlk W (w.heap.size + 1) (.cells #[.int .i64 0, .int .i64 0] 44))) := ⟨⟨below_step hb1 hb2, ⟨IsBlk.below (blk_new w _) hb2, hg⟩, keeps_and (keeps_blk _ _) (keeps_blk _ _)⟩⟩
  clear hb1 hb2 hg
  have n1 := blk_lt HS.out.now.1
  have n2 := blk_lt HS.out.now.2
  have c0 : ((w.alloc (.cells #[.int .i64 x0, .int .i64 x1, .int .i64 x2, .int .i64 x3] 27)).alloc (.cells #[.int .i64 0, .int .i64 0] 44)).cell? ⟨w.heap.size, 0, none⟩ = some (.int .i64 x0) := HS.out.now.1.cell 0
  have c1 : ((w.alloc (.cells #[.int .i64 x0, .int .i64 x1, .int .i64 x2, .int .i64 x3] 27)).alloc (.cells #[.int .i64 0, .int .i64 0] 44)).cell? ⟨w.heap.size, 1, none⟩ = some (.int .i64 x1) := HS.out.now.1.cell 1
  have c2 : ((w.alloc (.cells #[.int .i64 x0, .int .i64 x1, .int .i64 x2, .int .i64 x3] 27)).alloc (.cells #[.int .i64 0, .int .i64 0] 44)).cell? ⟨w.heap.size, 2, none⟩ = some (.int .i64 x2) := HS.out.now.1.cell 2
  have c3 : ((w.alloc (.cells #[.int .i64 x0, .int .i64 x1, .int .i64 x2, .int .i64 x3] 27)).alloc (.cells #[.int .i64 0, .int .i64 0] 44)).cell? ⟨w.heap.size, 3, none⟩ = some (.int .i64 x3) := HS.out.now.1.cell 3
  have k0 : ((w.alloc (.cells #[.int .i64 x0, .int .i64 x1, .int .i64 x2, .int .i64 x3] 27)).alloc (.cells #[.int .i64 0, .int .i64 0] 44)).cell? ⟨w.heap.size + 1, 0, none⟩ = some (.int .i64 0) := HS.out.now.2.cell 0
  have f0 := HS.out.now.2.frozen 0
  have k1 : ((w.alloc (.cells #[.int .i64 x0, .int .i64 x1, .int .i64 x2, .int .i64 x3] 27)).alloc (.cells #[.int .i64 0, .int .i64 0] 44)).cell? ⟨w.heap.size + 1, 1, none⟩ = some (.int .i64 0) := HS.out.now.2.cell 1
  have f1 := HS.out.now.2.frozen 1
  have H1 := Aside0.mk h1
  clear h1
  have H2 := Aside0.mk h2
  clear h2
  have t1 := True.intro
  have t2 := True.intro
  go_enter Try.func26, Try.ntmps26
  go_wp2_with (first | (have _t := t1; go_at_call 62; refine (H1.out _ (HS.out.step (by repeat (first | exact Below.refl _ _ | apply below_alloc | apply pw_below_drewN | apply below_drew1))).bel).mono ?_; rintro e w1 ⟨rfl, hb⟩; have m_ := Aside0.mk (HS.out.call (by repeat (first | exact Below.refl _ _ | apply below_alloc | apply pw_below_drewN | apply below_drew1)) hb); clear HS hb; have HS := m_; clear m_; have n1 := blk_lt HS.out.now.1; have n2 := blk_lt HS.out.now.2; have c0 : w1.cell? ⟨w.heap.size, 0, none⟩ = some (.int .i64 x0) := HS.out.now.1.cell 0; have c1 : w1.cell? ⟨w.heap.size, 1, none⟩ = some (.int .i64 x1) := HS.out.now.1.cell 1; have c2 : w1.cell? ⟨w.heap.size, 2, none⟩ = some (.int .i64 x2) := HS.out.now.1.cell 2; have c3 : w1.cell? ⟨w.heap.size, 3, none⟩ = some (.int .i64 x3) := HS.out.now.1.cell 3; have k0 : w1.cell? ⟨w.heap.size + 1, 0, none⟩ = some (.int .i64 0) := HS.out.now.2.cell 0; have f0 := HS.out.now.2.frozen 0; have k1 : w1.cell? ⟨w.heap.size + 1, 1, none⟩ = some (.int .i64 0) := HS.out.now.2.cell 1; have f1 := HS.out.now.2.frozen 1; clear t1 _t) | (have _t := t2; go_at_call 62; refine (H2.out _ (HS.out.step (by repeat (first | exact Below.refl _ _ | apply below_alloc | apply pw_below_drewN | apply below_drew1))).bel).mono ?_; rintro e w2 ⟨rfl, hb⟩; have m_ := Aside0.mk (HS.out.call (by repeat (first | exact Below.refl _ _ | apply below_alloc | apply pw_below_drewN | apply below_drew1)) hb); clear HS hb; have HS := m_; clear m_; have n1 := blk_lt HS.out.now.1; have n2 := blk_lt HS.out.now.2; have c0 : w2.cell? ⟨w.heap.size, 0, none⟩ = some (.int .i64 x0) := HS.out.now.1.cell 0; have c1 : w2.cell? ⟨w.heap.size, 1, none⟩ = some (.int .i64 x1) := HS.out.now.1.cell 1; have c2 : w2.cell? ⟨w.heap.size, 2, none⟩ = some (.int .i64 x2) := HS.out.now.1.cell 2; have c3 : w2.cell? ⟨w.heap.size, 3, none⟩ = some (.int .i64 x3) := HS.out.now.1.cell 3; have k0 : w2.cell? ⟨w.heap.size + 1, 0, none⟩ = some (.int .i64 0) := HS.out.now.2.cell 0; have f0 := HS.out.now.2.frozen 0; have k1 : w2.cell? ⟨w.heap.size + 1, 1, none⟩ = some (.int .i64 0) := HS.out.now.2.cell 1; have f1 := HS.out.now.2.frozen 1; clear t2 _t))
  all_goals try (go_step3; go_wp2)
  first | rw [Exit.noGoto_ret] | skip
  refine bodyPost_ret (v := .tuple #[.agg #[.int .i64 va, .int .i64 vb], .int .i64 0]) (by simp [results, Try.results26, go_sem, *]) rfl ⟨rfl, ?_⟩
  have hS := HS.out.bel
  repeat (first | exact hS | apply below_alloc | apply pw_below_drewN | apply below_drew1 | refine Below.setCell ?_ (by simp) _)
set_option maxRecDepth 100000 in
set_option maxHeartbeats 1000000 in
theorem MRange_ok (p : Option Addr) (x0 x1 a ca b cb : Int) (w : World) (h1 : ∀ W, Below w.heap.size w W → Calls Try.prog 80 #[.pointer p, .int .i64 x0] W fun e W' => e = .returned (.tuple #[.agg #[.int .i64 a, .int .i64 ca], .int .i64 0]) ∧ Below W.heap.size W W') (h2 : ∀ W, Below w.heap.size w W → Calls Try.prog 80 #[.pointer p, .int .i64 x1] W fun e W' => e = .returned (.tuple #[.agg #[.int .i64 b, .int .i64 cb], .int .i64 0]) ∧ Below W.heap.size W W') (hlt : x0 ≤ x1) : Calls Try.prog 53 #[.pointer p, .agg #[.int .i64 x0, .int .i64 x1]] w fun e w' => e = .returned (.tuple #[.agg #[.int .i64 a, .int .i64 ca, .int .i64 b, .int .i64 cb], .int .i64 0]) ∧ Below w.heap.size w w' := by
  have hb1 := below_alloc (Below.refl _ w) (.cells #[.int .i64 x0, .int .i64 x1] 44)
  have hb2 : Below (w.alloc (.cells #[.int .i64 x0, .int .i64 x1] 44)).heap.size (w.alloc (.cells #[.int .i64 x0, .int .i64 x1] 44)) ((w.alloc (.cells #[.int .i64 x0, .int .i64 x1] 44)).alloc (.cells #[.int .i64 0, .int .i64 0, .int .i64 0, .int .i64 0] 27)) := below_alloc (Below.refl _ _) _
  have hg : IsBlk ((w.alloc (.cells #[.int .i64 x0, .int .i64 x1] 44)).alloc (.cells #[.int .i64 0, .int .i64 0, .int .i64 0, .int .i64 0] 27)) (w.alloc (.cells #[.int .i64 x0, .int .i64 x1] 44)).heap.size (.cells #[.int .i64 0, .int .i64 0, .int .i64 0, .int .i64 0] 27) := blk_new _ _
  rw [World.size_alloc] at hg
  have HS : Aside0 (Sta w ((w.alloc (.cells #[.int .i64 x0, .int .i64 x1] 44)).alloc (.cells #[.int .i64 0, .int .i64 0, .int .i64 0, .int .i64 0] 27)) (fun W => IsBlk W w.heap.size (.cells #[.int .i64 x0, .int .i64 x1] 44) ∧ IsBlk W (w.heap.size + 1) (.cells #[.int .i64 0, .int .i64 0, .int .i64 0, .int .i64 0] 27))) := ⟨⟨below_step hb1 hb2, ⟨IsBlk.below (blk_new w _) hb2, hg⟩, keeps_and (keeps_blk _ _) (keeps_blk _ _)⟩⟩
  clear hb1 hb2 hg
  have n1 := blk_lt HS.out.now.1
  have n2 := blk_lt HS.out.now.2
  have c0 : ((w.alloc (.cells #[.int .i64 x0, .int .i64 x1] 44)).alloc (.cells #[.int .i64 0, .int .i64 0, .int .i64 0, .int .i64 0] 27)).cell? ⟨w.heap.size, 0, none⟩ = some (.int .i64 x0) := HS.out.now.1.cell 0
  have c1 : ((w.alloc (.cells #[.int .i64 x0, .int .i64 x1] 44)).alloc (.cells #[.int .i64 0, .int .i64 0, .int .i64 0, .int .i64 0] 27)).cell? ⟨w.heap.size, 1, none⟩ = some (.int .i64 x1) := HS.out.now.1.cell 1
  have k0 : ((w.alloc (.cells #[.int .i64 x0, .int .i64 x1] 44)).alloc (.cells #[.int .i64 0, .int .i64 0, .int .i64 0, .int .i64 0] 27)).cell? ⟨w.heap.size + 1, 0, none⟩ = some (.int .i64 0) := HS.out.now.2.cell 0
  have f0 := HS.out.now.2.frozen 0
  have k1 : ((w.alloc (.cells #[.int .i64 x0, .int .i64 x1] 44)).alloc (.cells #[.int .i64 0, .int .i64 0, .int .i64 0, .int .i64 0] 27)).cell? ⟨w.heap.size + 1, 1, none⟩ = some (.int .i64 0) := HS.out.now.2.cell 1
  have f1 := HS.out.now.2.frozen 1
  have k2 : ((w.alloc (.cells #[.int .i64 x0, .int .i64 x1] 44)).alloc (.cells #[.int .i64 0, .int .i64 0, .int .i64 0, .int .i64 0] 27)).cell? ⟨w.heap.size + 1, 2, none⟩ = some (.int .i64 0) := HS.out.now.2.cell 2
  have f2 := HS.out.now.2.frozen 2
  have k3 : ((w.alloc (.cells #[.int .i64 x0, .int .i64 x1] 44)).alloc (.cells #[.int .i64 0, .int .i64 0, .int .i64 0, .int .i64 0] 27)).cell? ⟨w.heap.size + 1, 3, none⟩ = some (.int .i64 0) := HS.out.now.2.cell 3
  have f3 := HS.out.now.2.frozen 3
  have H1 := Aside0.mk h1
  clear h1
  have H2 := Aside0.mk h2
  clear h2
  have t1 := True.intro
  have t2 := True.intro
  go_enter Try.func53, Try.ntmps53
  go_wp2_with (first | (have _t := t1; go_at_call 80; refine (H1.out _ (HS.out.step (by repeat (first | exact Below.refl _ _ | apply below_alloc | apply pw_below_drewN | apply below_drew1))).bel).mono ?_; rintro e w1 ⟨rfl, hb⟩; have m_ := Aside0.mk (HS.out.call (by repeat (first | exact Below.refl _ _ | apply below_alloc | apply pw_below_drewN | apply below_drew1)) hb); clear HS hb; have HS := m_; clear m_; have n1 := blk_lt HS.out.now.1; have n2 := blk_lt HS.out.now.2; have c0 : w1.cell? ⟨w.heap.size, 0, none⟩ = some (.int .i64 x0) := HS.out.now.1.cell 0; have c1 : w1.cell? ⟨w.heap.size, 1, none⟩ = some (.int .i64 x1) := HS.out.now.1.cell 1; have k0 : w1.cell? ⟨w.heap.size + 1, 0, none⟩ = some (.int .i64 0) := HS.out.now.2.cell 0; have f0 := HS.out.now.2.frozen 0; have k1 : w1.cell? ⟨w.heap.size + 1, 1, none⟩ = some (.int .i64 0) := HS.out.now.2.cell 1; have f1 := HS.out.now.2.frozen 1; have k2 : w1.cell? ⟨w.heap.size + 1, 2, none⟩ = some (.int .i64 0) := HS.out.now.2.cell 2; have f2 := HS.out.now.2.frozen 2; have k3 : w1.cell? ⟨w.heap.size + 1, 3, none⟩ = some (.int .i64 0) := HS.out.now.2.cell 3; have f3 := HS.out.now.2.frozen 3; have c0a := cell_alloc1 c0; have c1a := cell_alloc1 c1; have k0a := cell_alloc1 k0; have f0a := froz_alloc1 k0 f0; have k1a := cell_alloc1 k1; have f1a := froz_alloc1 k1 f1; have k2a := cell_alloc1 k2; have f2a := froz_alloc1 k2 f2; have k3a := cell_alloc1 k3; have f3a := froz_alloc1 k3 f3; clear t1 _t) | (have _t := t2; go_at_call 80; refine (H2.out _ (HS.out.step (by repeat (first | exact Below.refl _ _ | apply below_alloc | apply pw_below_drewN | apply below_drew1))).bel).mono ?_; rintro e w2 ⟨rfl, hb⟩; have hp0 := cell_below ((blk_cell (blk_new w1 (.cells #[.int .i64 a, .int .i64 ca] 25)) 0).trans rfl) hb; have hp1 := cell_below ((blk_cell (blk_new w1 (.cells #[.int .i64 a, .int .i64 ca] 25)) 1).trans rfl) hb; have hp0a := cell_alloc1 hp0; have hp1a := cell_alloc1 hp1; have m_ := Aside0.mk (HS.out.call (by repeat (first | exact Below.refl _ _ | apply below_alloc | apply pw_below_drewN | apply below_drew1)) hb); clear HS hb; have HS := m_; clear m_; have n1 := blk_lt HS.out.now.1; have n2 := blk_lt HS.out.now.2; have c0 : w2.cell? ⟨w.heap.size, 0, none⟩ = some (.int .i64 x0) := HS.out.now.1.cell 0; have c1 : w2.cell? ⟨w.heap.size, 1, none⟩ = some (.int .i64 x1) := HS.out.now.1.cell 1; have k0 : w2.cell? ⟨w.heap.size + 1, 0, none⟩ = some (.int .i64 0) := HS.out.now.2.cell 0; have f0 := HS.out.now.2.frozen 0; have k1 : w2.cell? ⟨w.heap.size + 1, 1, none⟩ = some (.int .i64 0) := HS.out.now.2.cell 1; have f1 := HS.out.now.2.frozen 1; have k2 : w2.cell? ⟨w.heap.size + 1, 2, none⟩ = some (.int .i64 0) := HS.out.now.2.cell 2; have f2 := HS.out.now.2.frozen 2; have k3 : w2.cell? ⟨w.heap.size + 1, 3, none⟩ = some (.int .i64 0) := HS.out.now.2.cell 3; have f3 := HS.out.now.2.frozen 3; have c0a := cell_alloc1 c0; have c1a := cell_alloc1 c1; have k0a := cell_alloc1 k0; have f0a := froz_alloc1 k0 f0; have k1a := cell_alloc1 k1; have f1a := froz_alloc1 k1 f1; have k2a := cell_alloc1 k2; have f2a := froz_alloc1 k2 f2; have k3a := cell_alloc1 k3; have f3a := froz_alloc1 k3 f3; clear t2 _t))
  all_goals try (go_step3; go_wp2)
  first | rw [Exit.noGoto_ret] | skip
  refine bodyPost_ret (v := .tuple #[.agg #[.int .i64 a, .int .i64 ca, .int .i64 b, .int .i64 cb], .int .i64 0]) (by simp [results, Try.results53, go_sem, *]) rfl ⟨rfl, ?_⟩
  have hS := HS.out.bel
  repeat (first | exact hS | apply below_alloc | apply pw_below_drewN | apply below_drew1 | refine Below.setCell ?_ (by simp) _)
set_option maxRecDepth 100000 in
set_option maxHeartbeats 1000000 in
theorem RSpan_e1 (p : Option Addr) (x0 x1 x2 x3 va ea : Int) (w : World) (h1 : ∀ W, Below w.heap.size w W → Calls Try.prog 84 #[.pointer p, .agg #[.int .i64 x0, .int .i64 x1]] W fun e W' => e = .returned (.tuple #[.int .i64 va, .int .i64 ea]) ∧ Below W.heap.size W W') (hz : ea ≠ 0) : Calls Try.prog 115 #[.pointer p, .agg #[.int .i64 x0, .int .i64 x1, .int .i64 x2, .int .i64 x3]] w fun e w' => e = .returned (.tuple #[.agg #[.int .i64 0, .int .i64 0], .int .i64 ea]) ∧ Below w.heap.size w w' := by
  have hb1 := below_alloc (Below.refl _ w) (.cells #[.int .i64 x0, .int .i64 x1, .int .i64 x2, .int .i64 x3] 27)
  have hb2 : Below (w.alloc (.cells #[.int .i64 x0, .int .i64 x1, .int .i64 x2, .int .i64 x3] 27)).heap.size (w.alloc (.cells #[.int .i64 x0, .int .i64 x1, .int .i64 x2, .int .i64 x3] 27)) ((w.alloc (.cells #[.int .i64 x0, .int .i64 x1, .int .i64 x2, .int .i64 x3] 27)).alloc (.cells #[.int .i64 0, .int .i64 0] 44)) := below_alloc (Below.refl _ _) _
  have hg : IsBlk ((w.alloc (.cells #[.int .i64 x0, .int .i64 x1, .int .i64 x2, .int .i64 x3] 27)).alloc (.cells #[.int .i64 0, .int .i64 0] 44)) (w.alloc (.cells #[.int .i64 x0, .int .i64 x1, .int .i64 x2, .int .i64 x3] 27)).heap.size (.cells #[.int .i64 0, .int .i64 0] 44) := blk_new _ _
  rw [World.size_alloc] at hg
  have HS : Aside0 (Sta w ((w.alloc (.cells #[.int .i64 x0, .int .i64 x1, .int .i64 x2, .int .i64 x3] 27)).alloc (.cells #[.int .i64 0, .int .i64 0] 44)) (fun W => IsBlk W w.heap.size (.cells #[.int .i64 x0, .int .i64 x1, .int .i64 x2, .int .i64 x3] 27) ∧ IsBlk W (w.heap.size + 1) (.cells #[.int .i64 0, .int .i64 0] 44))) := ⟨⟨below_step hb1 hb2, ⟨IsBlk.below (blk_new w _) hb2, hg⟩, keeps_and (keeps_blk _ _) (keeps_blk _ _)⟩⟩
  clear hb1 hb2 hg
  have n1 := blk_lt HS.out.now.1
  have n2 := blk_lt HS.out.now.2
  have c0 : ((w.alloc (.cells #[.int .i64 x0, .int .i64 x1, .int .i64 x2, .int .i64 x3] 27)).alloc (.cells #[.int .i64 0, .int .i64 0] 44)).cell? ⟨w.heap.size, 0, none⟩ = some (.int .i64 x0) := HS.out.now.1.cell 0
  have c1 : ((w.alloc (.cells #[.int .i64 x0, .int .i64 x1, .int .i64 x2, .int .i64 x3] 27)).alloc (.cells #[.int .i64 0, .int .i64 0] 44)).cell? ⟨w.heap.size, 1, none⟩ = some (.int .i64 x1) := HS.out.now.1.cell 1
  have c2 : ((w.alloc (.cells #[.int .i64 x0, .int .i64 x1, .int .i64 x2, .int .i64 x3] 27)).alloc (.cells #[.int .i64 0, .int .i64 0] 44)).cell? ⟨w.heap.size, 2, none⟩ = some (.int .i64 x2) := HS.out.now.1.cell 2
  have c3 : ((w.alloc (.cells #[.int .i64 x0, .int .i64 x1, .int .i64 x2, .int .i64 x3] 27)).alloc (.cells #[.int .i64 0, .int .i64 0] 44)).cell? ⟨w.heap.size, 3, none⟩ = some (.int .i64 x3) := HS.out.now.1.cell 3
  have k0 : ((w.alloc (.cells #[.int .i64 x0, .int .i64 x1, .int .i64 x2, .int .i64 x3] 27)).alloc (.cells #[.int .i64 0, .int .i64 0] 44)).cell? ⟨w.heap.size + 1, 0, none⟩ = some (.int .i64 0) := HS.out.now.2.cell 0
  have f0 := HS.out.now.2.frozen 0
  have k1 : ((w.alloc (.cells #[.int .i64 x0, .int .i64 x1, .int .i64 x2, .int .i64 x3] 27)).alloc (.cells #[.int .i64 0, .int .i64 0] 44)).cell? ⟨w.heap.size + 1, 1, none⟩ = some (.int .i64 0) := HS.out.now.2.cell 1
  have f1 := HS.out.now.2.frozen 1
  have H1 := Aside0.mk h1
  clear h1
  have hz1 : (ea != 0) = true := bne_iff_ne.mpr hz
  clear hz
  have t1 := True.intro
  have t2 := True.intro
  go_enter Try.func115, Try.ntmps115
  go_wp2_with (have _t := t1; go_at_call 84; refine (H1.out _ (HS.out.step (by repeat (first | exact Below.refl _ _ | apply below_alloc | apply pw_below_drewN | apply below_drew1))).bel).mono ?_; rintro e w1 ⟨rfl, hb⟩; have m_ := Aside0.mk (HS.out.call (by repeat (first | exact Below.refl _ _ | apply below_alloc | apply pw_below_drewN | apply below_drew1)) hb); clear HS hb; have HS := m_; clear m_; have n1 := blk_lt HS.out.now.1; have n2 := blk_lt HS.out.now.2; have c0 : w1.cell? ⟨w.heap.size, 0, none⟩ = some (.int .i64 x0) := HS.out.now.1.cell 0; have c1 : w1.cell? ⟨w.heap.size, 1, none⟩ = some (.int .i64 x1) := HS.out.now.1.cell 1; have c2 : w1.cell? ⟨w.heap.size, 2, none⟩ = some (.int .i64 x2) := HS.out.now.1.cell 2; have c3 : w1.cell? ⟨w.heap.size, 3, none⟩ = some (.int .i64 x3) := HS.out.now.1.cell 3; have k0 : w1.cell? ⟨w.heap.size + 1, 0, none⟩ = some (.int .i64 0) := HS.out.now.2.cell 0; have f0 := HS.out.now.2.frozen 0; have k1 : w1.cell? ⟨w.heap.size + 1, 1, none⟩ = some (.int .i64 0) := HS.out.now.2.cell 1; have f1 := HS.out.now.2.frozen 1; clear t1 _t)
  first | rw [Exit.noGoto_ret] | skip
  refine bodyPost_ret (v := .tuple #[.agg #[.int .i64 0, .int .i64 0], .int .i64 ea]) (by simp [results, Try.results115, go_sem, *]) rfl ⟨rfl, ?_⟩
  have hS := HS.out.bel
  repeat (first | exact hS | apply below_alloc | apply pw_below_drewN | apply below_drew1 | refine Below.setCell ?_ (by simp) _)
set_option maxRecDepth 100000 in
set_option maxHeartbeats 1000000 in
theorem RSpan_e2 (p : Option Addr) (x0 x1 x2 x3 va vb eb : Int) (w : World) (h1 : ∀ W, Below w.heap.size w W → Calls Try.prog 84 #[.pointer p, .agg #[.int .i64 x0, .int .i64 x1]] W fun e W' => e = .returned (.tuple #[.int .i64 va, .int .i64 0]) ∧ Below W.heap.size W W') (h2 : ∀ W, Below w.heap.size w W → Calls Try.prog 84 #[.pointer p, .agg #[.int .i64 x2, .int .i64 x3]] W fun e W' => e = .returned (.tuple #[.int .i64 vb, .int .i64 eb]) ∧ Below W.heap.size W W') (hz : eb ≠ 0) : Calls Try.prog 115 #[.pointer p, .agg #[.int .i64 x0, .int .i64 x1, .int .i64 x2, .int .i64 x3]] w fun e w' => e = .returned (.tuple #[.agg #[.int .i64 0, .int .i64 0], .int .i64 eb]) ∧ Below w.heap.size w w' := by
  have hb1 := below_alloc (Below.refl _ w) (.cells #[.int .i64 x0, .int .i64 x1, .int .i64 x2, .int .i64 x3] 27)
  have hb2 : Below (w.alloc (.cells #[.int .i64 x0, .int .i64 x1, .int .i64 x2, .int .i64 x3] 27)).heap.size (w.alloc (.cells #[.int .i64 x0, .int .i64 x1, .int .i64 x2, .int .i64 x3] 27)) ((w.alloc (.cells #[.int .i64 x0, .int .i64 x1, .int .i64 x2, .int .i64 x3] 27)).alloc (.cells #[.int .i64 0, .int .i64 0] 44)) := below_alloc (Below.refl _ _) _
  have hg : IsBlk ((w.alloc (.cells #[.int .i64 x0, .int .i64 x1, .int .i64 x2, .int .i64 x3] 27)).alloc (.cells #[.int .i64 0, .int .i64 0] 44)) (w.alloc (.cells #[.int .i64 x0, .int .i64 x1, .int .i64 x2, .int .i64 x3] 27)).heap.size (.cells #[.int .i64 0, .int .i64 0] 44) := blk_new _ _
  rw [World.size_alloc] at hg
  have HS : Aside0 (Sta w ((w.alloc (.cells #[.int .i64 x0, .int .i64 x1, .int .i64 x2, .int .i64 x3] 27)).alloc (.cells #[.int .i64 0, .int .i64 0] 44)) (fun W => IsBlk W w.heap.size (.cells #[.int .i64 x0, .int .i64 x1, .int .i64 x2, .int .i64 x3] 27) ∧ IsBlk W (w.heap.size + 1) (.cells #[.int .i64 0, .int .i64 0] 44))) := ⟨⟨below_step hb1 hb2, ⟨IsBlk.below (blk_new w _) hb2, hg⟩, keeps_and (keeps_blk _ _) (keeps_blk _ _)⟩⟩
  clear hb1 hb2 hg
  have n1 := blk_lt HS.out.now.1
  have n2 := blk_lt HS.out.now.2
  have c0 : ((w.alloc (.cells #[.int .i64 x0, .int .i64 x1, .int .i64 x2, .int .i64 x3] 27)).alloc (.cells #[.int .i64 0, .int .i64 0] 44)).cell? ⟨w.heap.size, 0, none⟩ = some (.int .i64 x0) := HS.out.now.1.cell 0
  have c1 : ((w.alloc (.cells #[.int .i64 x0, .int .i64 x1, .int .i64 x2, .int .i64 x3] 27)).alloc (.cells #[.int .i64 0, .int .i64 0] 44)).cell? ⟨w.heap.size, 1, none⟩ = some (.int .i64 x1) := HS.out.now.1.cell 1
  have c2 : ((w.alloc (.cells #[.int .i64 x0, .int .i64 x1, .int .i64 x2, .int .i64 x3] 27)).alloc (.cells #[.int .i64 0, .int .i64 0] 44)).cell? ⟨w.heap.size, 2, none⟩ = some (.int .i64 x2) := HS.out.now.1.cell 2
  have c3 : ((w.alloc (.cells #[.int .i64 x0, .int .i64 x1, .int .i64 x2, .int .i64 x3] 27)).alloc (.cells #[.int .i64 0, .int .i64 0] 44)).cell? ⟨w.heap.size, 3, none⟩ = some (.int .i64 x3) := HS.out.now.1.cell 3
  have k0 : ((w.alloc (.cells #[.int .i64 x0, .int .i64 x1, .int .i64 x2, .int .i64 x3] 27)).alloc (.cells #[.int .i64 0, .int .i64 0] 44)).cell? ⟨w.heap.size + 1, 0, none⟩ = some (.int .i64 0) := HS.out.now.2.cell 0
  have f0 := HS.out.now.2.frozen 0
  have k1 : ((w.alloc (.cells #[.int .i64 x0, .int .i64 x1, .int .i64 x2, .int .i64 x3] 27)).alloc (.cells #[.int .i64 0, .int .i64 0] 44)).cell? ⟨w.heap.size + 1, 1, none⟩ = some (.int .i64 0) := HS.out.now.2.cell 1
  have f1 := HS.out.now.2.frozen 1
  have H1 := Aside0.mk h1
  clear h1
  have H2 := Aside0.mk h2
  clear h2
  have hz1 : (eb != 0) = true := bne_iff_ne.mpr hz
  clear hz
  have t1 := True.intro
  have t2 := True.intro
  go_enter Try.func115, Try.ntmps115
  go_wp2_with (first | (have _t := t1; go_at_call 84; refine (H1.out _ (HS.out.step (by repeat (first | exact Below.refl _ _ | apply below_alloc | apply pw_below_drewN | apply below_drew1))).bel).mono ?_; rintro e w1 ⟨rfl, hb⟩; have m_ := Aside0.mk (HS.out.call (by repeat (first | exact Below.refl _ _ | apply below_alloc | apply pw_below_drewN | apply below_drew1)) hb); clear HS hb; have HS := m_; clear m_; have n1 := blk_lt HS.out.now.1; have n2 := blk_lt HS.out.now.2; have c0 : w1.cell? ⟨w.heap.size, 0, none⟩ = some (.int .i64 x0) := HS.out.now.1.cell 0; have c1 : w1.cell? ⟨w.heap.size, 1, none⟩ = some (.int .i64 x1) := HS.out.now.1.cell 1; have c2 : w1.cell? ⟨w.heap.size, 2, none⟩ = some (.int .i64 x2) := HS.out.now.1.cell 2; have c3 : w1.cell? ⟨w.heap.size, 3, none⟩ = some (.int .i64 x3) := HS.out.now.1.cell 3; have k0 : w1.cell? ⟨w.heap.size + 1, 0, none⟩ = some (.int .i64 0) := HS.out.now.2.cell 0; have f0 := HS.out.now.2.frozen 0; have k1 : w1.cell? ⟨w.heap.size + 1, 1, none⟩ = some (.int .i64 0) := HS.out.now.2.cell 1; have f1 := HS.out.now.2.frozen 1; clear t1 _t) | (have _t := t2; go_at_call 84; refine (H2.out _ (HS.out.step (by repeat (first | exact Below.refl _ _ | apply below_alloc | apply pw_below_drewN | apply below_drew1))).bel).mono ?_; rintro e w2 ⟨rfl, hb⟩; have m_ := Aside0.mk (HS.out.call (by repeat (first | exact Below.refl _ _ | apply below_alloc | apply pw_below_drewN | apply below_drew1)) hb); clear HS hb; have HS := m_; clear m_; have n1 := blk_lt HS.out.now.1; have n2 := blk_lt HS.out.now.2; have c0 : w2.cell? ⟨w.heap.size, 0, none⟩ = some (.int .i64 x0) := HS.out.now.1.cell 0; have c1 : w2.cell? ⟨w.heap.size, 1, none⟩ = some (.int .i64 x1) := HS.out.now.1.cell 1; have c2 : w2.cell? ⟨w.heap.size, 2, none⟩ = some (.int .i64 x2) := HS.out.now.1.cell 2; have c3 : w2.cell? ⟨w.heap.size, 3, none⟩ = some (.int .i64 x3) := HS.out.now.1.cell 3; have k0 : w2.cell? ⟨w.heap.size + 1, 0, none⟩ = some (.int .i64 0) := HS.out.now.2.cell 0; have f0 := HS.out.now.2.frozen 0; have k1 : w2.cell? ⟨w.heap.size + 1, 1, none⟩ = some (.int .i64 0) := HS.out.now.2.cell 1; have f1 := HS.out.now.2.frozen 1; clear t2 _t))
  first | rw [Exit.noGoto_ret] | skip
  refine bodyPost_ret (v := .tuple #[.agg #[.int .i64 0, .int .i64 0], .int .i64 eb]) (by simp [results, Try.results115, go_sem, *]) rfl ⟨rfl, ?_⟩
  have hS := HS.out.bel
  repeat (first | exact hS | apply below_alloc | apply pw_below_drewN | apply below_drew1 | refine Below.setCell ?_ (by simp) _)
set_option maxRecDepth 100000 in
set_option maxHeartbeats 1000000 in
theorem RSpan_rev (p : Option Addr) (x0 x1 x2 x3 va vb : Int) (w : World) (h1 : ∀ W, Below w.heap.size w W → Calls Try.prog 84 #[.pointer p, .agg #[.int .i64 x0, .int .i64 x1]] W fun e W' => e = .returned (.tuple #[.int .i64 va, .int .i64 0]) ∧ Below W.heap.size W W') (h2 : ∀ W, Below w.heap.size w W → Calls Try.prog 84 #[.pointer p, .agg #[.int .i64 x2, .int .i64 x3]] W fun e W' => e = .returned (.tuple #[.int .i64 vb, .int .i64 0]) ∧ Below W.heap.size W W') (hlt : vb < va) : Calls Try.prog 115 #[.pointer p, .agg #[.int .i64 x0, .int .i64 x1, .int .i64 x2, .int .i64 x3]] w fun e w' => e = .returned (.tuple #[.agg #[.int .i64 0, .int .i64 0], .int .i64 2]) ∧ Below w.heap.size w w' := by
  have hb1 := below_alloc (Below.refl _ w) (.cells #[.int .i64 x0, .int .i64 x1, .int .i64 x2, .int .i64 x3] 27)
  have hb2 : Below (w.alloc (.cells #[.int .i64 x0, .int .i64 x1, .int .i64 x2, .int .i64 x3] 27)).heap.size (w.alloc (.cells #[.int .i64 x0, .int .i64 x1, .int .i64 x2, .int .i64 x3] 27)) ((w.alloc (.cells #[.int .i64 x0, .int .i64 x1, .int .i64 x2, .int .i64 x3] 27)).alloc (.cells #[.int .i64 0, .int .i64 0] 44)) := below_alloc (Below.refl _ _) _
  have hg : IsBlk ((w.alloc (.cells #[.int .i64 x0, .int .i64 x1, .int .i64 x2, .int .i64 x3] 27)).alloc (.cells #[.int .i64 0, .int .i64 0] 44)) (w.alloc (.cells #[.int .i64 x0, .int .i64 x1, .int .i64 x2, .int .i64 x3] 27)).heap.size (.cells #[.int .i64 0, .int .i64 0] 44) := blk_new _ _
  rw [World.size_alloc] at hg
  have HS : Aside0 (Sta w ((w.alloc (.cells #[.int .i64 x0, .int .i64 x1, .int .i64 x2, .int .i64 x3] 27)).alloc (.cells #[.int .i64 0, .int .i64 0] 44)) (fun W => IsBlk W w.heap.size (.cells #[.int .i64 x0, .int .i64 x1, .int .i64 x2, .int .i64 x3] 27) ∧ IsBlk W (w.heap.size + 1) (.cells #[.int .i64 0, .int .i64 0] 44))) := ⟨⟨below_step hb1 hb2, ⟨IsBlk.below (blk_new w _) hb2, hg⟩, keeps_and (keeps_blk _ _) (keeps_blk _ _)⟩⟩
  clear hb1 hb2 hg
  have n1 := blk_lt HS.out.now.1
  have n2 := blk_lt HS.out.now.2
  have c0 : ((w.alloc (.cells #[.int .i64 x0, .int .i64 x1, .int .i64 x2, .int .i64 x3] 27)).alloc (.cells #[.int .i64 0, .int .i64 0] 44)).cell? ⟨w.heap.size, 0, none⟩ = some (.int .i64 x0) := HS.out.now.1.cell 0
  have c1 : ((w.alloc (.cells #[.int .i64 x0, .int .i64 x1, .int .i64 x2, .int .i64 x3] 27)).alloc (.cells #[.int .i64 0, .int .i64 0] 44)).cell? ⟨w.heap.size, 1, none⟩ = some (.int .i64 x1) := HS.out.now.1.cell 1
  have c2 : ((w.alloc (.cells #[.int .i64 x0, .int .i64 x1, .int .i64 x2, .int .i64 x3] 27)).alloc (.cells #[.int .i64 0, .int .i64 0] 44)).cell? ⟨w.heap.size, 2, none⟩ = some (.int .i64 x2) := HS.out.now.1.cell 2
  have c3 : ((w.alloc (.cells #[.int .i64 x0, .int .i64 x1, .int .i64 x2, .int .i64 x3] 27)).alloc (.cells #[.int .i64 0, .int .i64 0] 44)).cell? ⟨w.heap.size, 3, none⟩ = some (.int .i64 x3) := HS.out.now.1.cell 3
  have k0 : ((w.alloc (.cells #[.int .i64 x0, .int .i64 x1, .int .i64 x2, .int .i64 x3] 27)).alloc (.cells #[.int .i64 0, .int .i64 0] 44)).cell? ⟨w.heap.size + 1, 0, none⟩ = some (.int .i64 0) := HS.out.now.2.cell 0
  have f0 := HS.out.now.2.frozen 0
  have k1 : ((w.alloc (.cells #[.int .i64 x0, .int .i64 x1, .int .i64 x2, .int .i64 x3] 27)).alloc (.cells #[.int .i64 0, .int .i64 0] 44)).cell? ⟨w.heap.size + 1, 1, none⟩ = some (.int .i64 0) := HS.out.now.2.cell 1
  have f1 := HS.out.now.2.frozen 1
  have H1 := Aside0.mk h1
  clear h1
  have H2 := Aside0.mk h2
  clear h2
  have t1 := True.intro
  have t2 := True.intro
  go_enter Try.func115, Try.ntmps115
  go_wp2_with (first | (have _t := t1; go_at_call 84; refine (H1.out _ (HS.out.step (by repeat (first | exact Below.refl _ _ | apply below_alloc | apply pw_below_drewN | apply below_drew1))).bel).mono ?_; rintro e w1 ⟨rfl, hb⟩; have m_ := Aside0.mk (HS.out.call (by repeat (first | exact Below.refl _ _ | apply below_alloc | apply pw_below_drewN | apply below_drew1)) hb); clear HS hb; have HS := m_; clear m_; have n1 := blk_lt HS.out.now.1; have n2 := blk_lt HS.out.now.2; have c0 : w1.cell? ⟨w.heap.size, 0, none⟩ = some (.int .i64 x0) := HS.out.now.1.cell 0; have c1 : w1.cell? ⟨w.heap.size, 1, none⟩ = some (.int .i64 x1) := HS.out.now.1.cell 1; have c2 : w1.cell? ⟨w.heap.size, 2, none⟩ = some (.int .i64 x2) := HS.out.now.1.cell 2; have c3 : w1.cell? ⟨w.heap.size, 3, none⟩ = some (.int .i64 x3) := HS.out.now.1.cell 3; have k0 : w1.cell? ⟨w.heap.size + 1, 0, none⟩ = some (.int .i64 0) := HS.out.now.2.cell 0; have f0 := HS.out.now.2.frozen 0; have k1 : w1.cell? ⟨w.heap.size + 1, 1, none⟩ = some (.int .i64 0) := HS.out.now.2.cell 1; have f1 := HS.out.now.2.frozen 1; clear t1 _t) | (have _t := t2; go_at_call 84; refine (H2.out _ (HS.out.step (by repeat (first | exact Below.refl _ _ | apply below_alloc | apply pw_below_drewN | apply below_drew1))).bel).mono ?_; rintro e w2 ⟨rfl, hb⟩; have m_ := Aside0.mk (HS.out.call (by repeat (first | exact Below.refl _ _ | apply below_alloc | apply pw_below_drewN | apply below_drew1)) hb); clear HS hb; have HS := m_; clear m_; have n1 := blk_lt HS.out.now.1; have n2 := blk_lt HS.out.now.2; have c0 : w2.cell? ⟨w.heap.size, 0, none⟩ = some (.int .i64 x0) := HS.out.now.1.cell 0; have c1 : w2.cell? ⟨w.heap.size, 1, none⟩ = some (.int .i64 x1) := HS.out.now.1.cell 1; have c2 : w2.cell? ⟨w.heap.size, 2, none⟩ = some (.int .i64 x2) := HS.out.now.1.cell 2; have c3 : w2.cell? ⟨w.heap.size, 3, none⟩ = some (.int .i64 x3) := HS.out.now.1.cell 3; have k0 : w2.cell? ⟨w.heap.size + 1, 0, none⟩ = some (.int .i64 0) := HS.out.now.2.cell 0; have f0 := HS.out.now.2.frozen 0; have k1 : w2.cell? ⟨w.heap.size + 1, 1, none⟩ = some (.int .i64 0) := HS.out.now.2.cell 1; have f1 := HS.out.now.2.frozen 1; clear t2 _t))
  first | rw [Exit.noGoto_ret] | skip
  refine bodyPost_ret (v := .tuple #[.agg #[.int .i64 0, .int .i64 0], .int .i64 2]) (by simp [results, Try.results115, go_sem, *]) rfl ⟨rfl, ?_⟩
  have hS := HS.out.bel
  repeat (first | exact hS | apply below_alloc | apply pw_below_drewN | apply below_drew1 | refine Below.setCell ?_ (by simp) _)
set_option maxRecDepth 100000 in
set_option maxHeartbeats 1000000 in
theorem RSpan_ok (p : Option Addr) (x0 x1 x2 x3 va vb : Int) (w : World) (h1 : ∀ W, Below w.heap.size w W → Calls Try.prog 84 #[.pointer p, .agg #[.int .i64 x0, .int .i64 x1]] W fun e W' => e = .returned (.tuple #[.int .i64 va, .int .i64 0]) ∧ Below W.heap.size W W') (h2 : ∀ W, Below w.heap.size w W → Calls Try.prog 84 #[.pointer p, .agg #[.int .i64 x2, .int .i64 x3]] W fun e W' => e = .returned (.tuple #[.int .i64 vb, .int .i64 0]) ∧ Below W.heap.size W W') (hlt : va ≤ vb) : Calls Try.prog 115 #[.pointer p, .agg #[.int .i64 x0, .int .i64 x1, .int .i64 x2, .int .i64 x3]] w fun e w' => e = .returned (.tuple #[.agg #[.int .i64 va, .int .i64 vb], .int .i64 0]) ∧ Below w.heap.size w w' := by
  have hb1 := below_alloc (Below.refl _ w) (.cells #[.int .i64 x0, .int .i64 x1, .int .i64 x2, .int .i64 x3] 27)
  have hb2 : Below (w.alloc (.cells #[.int .i64 x0, .int .i64 x1, .int .i64 x2, .int .i64 x3] 27)).heap.size (w.alloc (.cells #[.int .i64 x0, .int .i64 x1, .int .i64 x2, .int .i64 x3] 27)) ((w.alloc (.cells #[.int .i64 x0, .int .i64 x1, .int .i64 x2, .int .i64 x3] 27)).alloc (.cells #[.int .i64 0, .int .i64 0] 44)) := below_alloc (Below.refl _ _) _
  have hg : IsBlk ((w.alloc (.cells #[.int .i64 x0, .int .i64 x1, .int .i64 x2, .int .i64 x3] 27)).alloc (.cells #[.int .i64 0, .int .i64 0] 44)) (w.alloc (.cells #[.int .i64 x0, .int .i64 x1, .int .i64 x2, .int .i64 x3] 27)).heap.size (.cells #[.int .i64 0, .int .i64 0] 44) := blk_new _ _
  rw [World.size_alloc] at hg
  have HS : Aside0 (Sta w ((w.alloc (.cells #[.int .i64 x0, .int .i64 x1, .int .i64 x2, .int .i64 x3] 27)).alloc (.cells #[.int .i64 0, .int .i64 0] 44)) (fun W => IsBlk W w.heap.size (.cells #[.int .i64 x0, .int .i64 x1, .int .i64 x2, .int .i64 x3] 27) ∧ IsBlk W (w.heap.size + 1) (.cells #[.int .i64 0, .int .i64 0] 44))) := ⟨⟨below_step hb1 hb2, ⟨IsBlk.below (blk_new w _) hb2, hg⟩, keeps_and (keeps_blk _ _) (keeps_blk _ _)⟩⟩
  clear hb1 hb2 hg
  have n1 := blk_lt HS.out.now.1
  have n2 := blk_lt HS.out.now.2
  have c0 : ((w.alloc (.cells #[.int .i64 x0, .int .i64 x1, .int .i64 x2, .int .i64 x3] 27)).alloc (.cells #[.int .i64 0, .int .i64 0] 44)).cell? ⟨w.heap.size, 0, none⟩ = some (.int .i64 x0) := HS.out.now.1.cell 0
  have c1 : ((w.alloc (.cells #[.int .i64 x0, .int .i64 x1, .int .i64 x2, .int .i64 x3] 27)).alloc (.cells #[.int .i64 0, .int .i64 0] 44)).cell? ⟨w.heap.size, 1, none⟩ = some (.int .i64 x1) := HS.out.now.1.cell 1
  have c2 : ((w.alloc (.cells #[.int .i64 x0, .int .i64 x1, .int .i64 x2, .int .i64 x3] 27)).alloc (.cells #[.int .i64 0, .int .i64 0] 44)).cell? ⟨w.heap.size, 2, none⟩ = some (.int .i64 x2) := HS.out.now.1.cell 2
  have c3 : ((w.alloc (.cells #[.int .i64 x0, .int .i64 x1, .int .i64 x2, .int .i64 x3] 27)).alloc (.cells #[.int .i64 0, .int .i64 0] 44)).cell? ⟨w.heap.size, 3, none⟩ = some (.int .i64 x3) := HS.out.now.1.cell 3
  have k0 : ((w.alloc (.cells #[.int .i64 x0, .int .i64 x1, .int .i64 x2, .int .i64 x3] 27)).alloc (.cells #[.int .i64 0, .int .i64 0] 44)).cell? ⟨w.heap.size + 1, 0, none⟩ = some (.int .i64 0) := HS.out.now.2.cell 0
  have f0 := HS.out.now.2.frozen 0
  have k1 : ((w.alloc (.cells #[.int .i64 x0, .int .i64 x1, .int .i64 x2, .int .i64 x3] 27)).alloc (.cells #[.int .i64 0, .int .i64 0] 44)).cell? ⟨w.heap.size + 1, 1, none⟩ = some (.int .i64 0) := HS.out.now.2.cell 1
  have f1 := HS.out.now.2.frozen 1
  have H1 := Aside0.mk h1
  clear h1
  have H2 := Aside0.mk h2
  clear h2
  have t1 := True.intro
  have t2 := True.intro
  go_enter Try.func115, Try.ntmps115
  go_wp2_with (first | (have _t := t1; go_at_call 84; refine (H1.out _ (HS.out.step (by repeat (first | exact Below.refl _ _ | apply below_alloc | apply pw_below_drewN | apply below_drew1))).bel).mono ?_; rintro e w1 ⟨rfl, hb⟩; have m_ := Aside0.mk (HS.out.call (by repeat (first | exact Below.refl _ _ | apply below_alloc | apply pw_below_drewN | apply below_drew1)) hb); clear HS hb; have HS := m_; clear m_; have n1 := blk_lt HS.out.now.1; have n2 := blk_lt HS.out.now.2; have c0 : w1.cell? ⟨w.heap.size, 0, none⟩ = some (.int .i64 x0) := HS.out.now.1.cell 0; have c1 : w1.cell? ⟨w.heap.size, 1, none⟩ = some (.int .i64 x1) := HS.out.now.1.cell 1; have c2 : w1.cell? ⟨w.heap.size, 2, none⟩ = some (.int .i64 x2) := HS.out.now.1.cell 2; have c3 : w1.cell? ⟨w.heap.size, 3, none⟩ = some (.int .i64 x3) := HS.out.now.1.cell 3; have k0 : w1.cell? ⟨w.heap.size + 1, 0, none⟩ = some (.int .i64 0) := HS.out.now.2.cell 0; have f0 := HS.out.now.2.frozen 0; have k1 : w1.cell? ⟨w.heap.size + 1, 1, none⟩ = some (.int .i64 0) := HS.out.now.2.cell 1; have f1 := HS.out.now.2.frozen 1; clear t1 _t) | (have _t := t2; go_at_call 84; refine (H2.out _ (HS.out.step (by repeat (first | exact Below.refl _ _ | apply below_alloc | apply pw_below_drewN | apply below_drew1))).bel).mono ?_; rintro e w2 ⟨rfl, hb⟩; have m_ := Aside0.mk (HS.out.call (by repeat (first | exact Below.refl _ _ | apply below_alloc | apply pw_below_drewN | apply below_drew1)) hb); clear HS hb; have HS := m_; clear m_; have n1 := blk_lt HS.out.now.1; have n2 := blk_lt HS.out.now.2; have c0 : w2.cell? ⟨w.heap.size, 0, none⟩ = some (.int .i64 x0) := HS.out.now.1.cell 0; have c1 : w2.cell? ⟨w.heap.size, 1, none⟩ = some (.int .i64 x1) := HS.out.now.1.cell 1; have c2 : w2.cell? ⟨w.heap.size, 2, none⟩ = some (.int .i64 x2) := HS.out.now.1.cell 2; have c3 : w2.cell? ⟨w.heap.size, 3, none⟩ = some (.int .i64 x3) := HS.out.now.1.cell 3; have k0 : w2.cell? ⟨w.heap.size + 1, 0, none⟩ = some (.int .i64 0) := HS.out.now.2.cell 0; have f0 := HS.out.now.2.frozen 0; have k1 : w2.cell? ⟨w.heap.size + 1, 1, none⟩ = some (.int .i64 0) := HS.out.now.2.cell 1; have f1 := HS.out.now.2.frozen 1; clear t2 _t))
  first | rw [Exit.noGoto_ret] | skip
  refine bodyPost_ret (v := .tuple #[.agg #[.int .i64 va, .int .i64 vb], .int .i64 0]) (by simp [results, Try.results115, go_sem, *]) rfl ⟨rfl, ?_⟩
  have hS := HS.out.bel
  repeat (first | exact hS | apply below_alloc | apply pw_below_drewN | apply below_drew1 | refine Below.setCell ?_ (by simp) _)
end Go.Proofs.Ytjebkpcekkkbkaa.B
