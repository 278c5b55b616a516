/-
  Texts of this session, one behind the other: N6, N7, N8, N9, N11, N10, H6, N12, N13, N14, N15, N16, Q0, N17, N19, O5, O6, O7, O8, O9.
-/
import Derived.Test.YtjebkpcekkkbkaaZO142
set_option linter.unusedSimpArgs false
set_option linter.unusedVariables false
namespace Go.Proofs.Ytjebkpcekkkbkaa.B
open Go.RowKit Go.Shelf Go.Proofs Go.Proofs.YtjebkpcekkkbkaaW.PrintWords Go.Proofs.YtjebkpcekkkbkaaW.PrintLast Go.Proofs.YtjebkpcekkkbkaaW.PrintMore Go.Proofs.Ytjebkpcekkkbkaa.FBase
theorem bytes_step {w W : World} {e : TypeId} {s : ByteArray} (h : Below w.heap.size w W) : Below w.heap.size w (Lib.bytesWorld W e s) := bytes_below h h.size e s
theorem bytes_at (W : World) (e : TypeId) (s : ByteArray) (g : Nat) (hg : W.heap.size = g) (hs : s.size ≤ 9223372036854775807) : Kd.C (Kd.int .u8) (Lib.bytesWorld W e s) (some ⟨g, 0, none⟩) s.size (bytesOf s) := by
  subst hg
  exact bytes_C W e s hs
theorem row2_Cm (W : World) (A B : Option Addr) (c d : Nat) (l t : List Int) (m : Nat) (hm : t.length = m) (hr : Kd.C (Kd.int .u8) W A l.length l) (hc : l.length ≤ c) (hr2 : Kd.C (Kd.int .u8) W B m t) (hd : m ≤ d) (o : TypeId) :
    Kd.C (Kd.slice 5 (Kd.int .u8)) (W.alloc (.cells #[.slice A l.length c, .slice B m d] o)) (some ⟨W.heap.size, 0, none⟩) [l, t].length [l, t] := by
  subst hm
  exact row2_C W A B c d l t hr hc hr2 hd o
set_option maxRecDepth 100000 in
set_option maxHeartbeats 2000000 in
theorem change_bad (A : Option Addr) (c : Nat) (l : List Int) (wh : Bool) (x0 x1 x2 x3 : Int) (s : ByteArray) (w : World) (hr : Kd.C (Kd.int .u8) w A l.length l) (hc : l.length ≤ c) (hB : Bytes l) (hs : l.length ≤ 1048576) (hs2 : s.size ≤ 140737488351232) (r : Int) (hk : (if (chk l).2 ≠ 0 then (chk l).2 else (chk (bytesOf s)).2) = r) (hz : r ≠ 0) :
    Calls Try.prog 59 #[.slice A l.length c, .agg #[.bool wh, .int .i64 x0, .int .i64 x1, .int .i64 x2, .int .i64 x3, .string s]] w fun e w' => ∃ v : Value, e = .returned (.tuple #[.agg #[.int .i64 0, .int .i64 0], v, .int .i64 r]) ∧ Kd.R (Kd.int .u8) 5 w' w.heap.size (fun _ => True) v [] ∧ Below w.heap.size w w' := by
  have hb1 := below_alloc (Below.refl _ w) (.cells #[.bool wh, .int .i64 x0, .int .i64 x1, .int .i64 x2, .int .i64 x3, .string s] 29)
  have hb2 : Below (w.alloc (.cells #[.bool wh, .int .i64 x0, .int .i64 x1, .int .i64 x2, .int .i64 x3, .string s] 29)).heap.size (w.alloc (.cells #[.bool wh, .int .i64 x0, .int .i64 x1, .int .i64 x2, .int .i64 x3, .string s] 29)) ((w.alloc (.cells #[.bool wh, .int .i64 x0, .int .i64 x1, .int .i64 x2, .int .i64 x3, .string s] 29)).alloc (.cells #[.int .i64 0, .int .i64 0] 44)) := below_alloc (Below.refl _ _) _
  have hg : IsBlk ((w.alloc (.cells #[.bool wh, .int .i64 x0, .int .i64 x1, .int .i64 x2, .int .i64 x3, .string s] 29)).alloc (.cells #[.int .i64 0, .int .i64 0] 44)) (w.alloc (.cells #[.bool wh, .int .i64 x0, .int .i64 x1, .int .i64 x2, .int .i64 x3, .string s] 29)).heap.size (.cells #[.int .i64 0, .int .i64 0] 44) := blk_new _ _
  rw [World.size_alloc] at hg
  have HS : Aside0 (Sta w ((w.alloc (.cells #[.bool wh, .int .i64 x0, .int .i64 x1, .int .i64 x2, .int .i64 x3, .string s] 29)).alloc (.cells #[.int .i64 0, .int .i64 0] 44)) (fun W => IsBlk W w.heap.size (.cells #[.bool wh, .int .i64 x0, .int .i64 x1, .int .i64 x2, .int .i64 x3, .string s] 29) ∧ IsBlk W (w.heap.size + 1) (.cells #[.int .i64 0, .int .i64 0] 44) ∧ Kd.C (Kd.int .u8) W A l.length l)) := ⟨⟨below_step hb1 hb2, ⟨IsBlk.below (blk_new w _) hb2, hg, Kd.C_below (Kd.C_below hr hb1) hb2⟩, keeps_and (keeps_blk _ _) (keeps_and (keeps_blk _ _) (keeps_C _ _ _ _))⟩⟩
  clear hb1 hb2 hg hr
  have n1 := blk_lt HS.out.now.1
  have n2 := blk_lt HS.out.now.2.1
  have c0 : ((w.alloc (.cells #[.bool wh, .int .i64 x0, .int .i64 x1, .int .i64 x2, .int .i64 x3, .string s] 29)).alloc (.cells #[.int .i64 0, .int .i64 0] 44)).cell? ⟨w.heap.size, 0, none⟩ = some (.bool wh) := HS.out.now.1.cell 0
  have c1 : ((w.alloc (.cells #[.bool wh, .int .i64 x0, .int .i64 x1, .int .i64 x2, .int .i64 x3, .string s] 29)).alloc (.cells #[.int .i64 0, .int .i64 0] 44)).cell? ⟨w.heap.size, 1, none⟩ = some (.int .i64 x0) := HS.out.now.1.cell 1
  have c2 : ((w.alloc (.cells #[.bool wh, .int .i64 x0, .int .i64 x1, .int .i64 x2, .int .i64 x3, .string s] 29)).alloc (.cells #[.int .i64 0, .int .i64 0] 44)).cell? ⟨w.heap.size, 2, none⟩ = some (.int .i64 x1) := HS.out.now.1.cell 2
  have c3 : ((w.alloc (.cells #[.bool wh, .int .i64 x0, .int .i64 x1, .int .i64 x2, .int .i64 x3, .string s] 29)).alloc (.cells #[.int .i64 0, .int .i64 0] 44)).cell? ⟨w.heap.size, 3, none⟩ = some (.int .i64 x2) := HS.out.now.1.cell 3
  have c4 : ((w.alloc (.cells #[.bool wh, .int .i64 x0, .int .i64 x1, .int .i64 x2, .int .i64 x3, .string s] 29)).alloc (.cells #[.int .i64 0, .int .i64 0] 44)).cell? ⟨w.heap.size, 4, none⟩ = some (.int .i64 x3) := HS.out.now.1.cell 4
  have c5 : ((w.alloc (.cells #[.bool wh, .int .i64 x0, .int .i64 x1, .int .i64 x2, .int .i64 x3, .string s] 29)).alloc (.cells #[.int .i64 0, .int .i64 0] 44)).cell? ⟨w.heap.size, 5, none⟩ = some (.string s) := HS.out.now.1.cell 5
  have k0 : ((w.alloc (.cells #[.bool wh, .int .i64 x0, .int .i64 x1, .int .i64 x2, .int .i64 x3, .string s] 29)).alloc (.cells #[.int .i64 0, .int .i64 0] 44)).cell? ⟨w.heap.size + 1, 0, none⟩ = some (.int .i64 0) := HS.out.now.2.1.cell 0
  have f0 := HS.out.now.2.1.frozen 0
  have k1 : ((w.alloc (.cells #[.bool wh, .int .i64 x0, .int .i64 x1, .int .i64 x2, .int .i64 x3, .string s] 29)).alloc (.cells #[.int .i64 0, .int .i64 0] 44)).cell? ⟨w.heap.size + 1, 1, none⟩ = some (.int .i64 0) := HS.out.now.2.1.cell 1
  have f1 := HS.out.now.2.1.frozen 1
  have kb := fun W : World => print_bytes (P := Try.prog) 9 22 5 Try.underlying9 Try.underlying22 Try.underlying5 s W
  have HT := Aside0.mk (texts2_f l (bytesOf s) hB (bytesOf_B s) hs (by rw [bytesOf_length]; exact hs2))
  have HC := Aside0.mk hc
  have HBY := Aside0.mk hB
  clear hc hB
  rw [hk] at HT
  have hz1 : (r != 0) = true := bne_iff_ne.mpr hz
  clear hz hk
  go_enter Try.func59, Try.ntmps59
  go_wp2_with (go_at_call 51; refine (edit_texts.calls _ _ _ [l, bytesOf s] _ _ (row2_Cm _ _ _ _ _ l (bytesOf s) s.size (bytesOf_length s) (HS.out.step (by repeat (first | exact Below.refl _ _ | apply below_alloc | apply pw_below_drewN | apply below_drew1 | apply bytes_step))).now.2.2 HC.out (bytes_at _ _ s _ (by simp) (by omega)) (grownCap_ge _ _ _ _) _) (Nat.le_refl _) HT.out).mono ?_; rintro e w1 ⟨rfl, hd⟩; have hb := hd.below; clear hd; have m_ := Aside0.mk (HS.out.call (by repeat (first | exact Below.refl _ _ | apply below_alloc | apply pw_below_drewN | apply below_drew1 | apply bytes_step)) hb); clear HS hb ; have HS := m_; clear m_; have n1 := blk_lt HS.out.now.1; have n2 := blk_lt HS.out.now.2.1; have c0 : w1.cell? ⟨w.heap.size, 0, none⟩ = some (.bool wh) := HS.out.now.1.cell 0; have c0a := cell_alloc1 c0; have c1 : w1.cell? ⟨w.heap.size, 1, none⟩ = some (.int .i64 x0) := HS.out.now.1.cell 1; have c1a := cell_alloc1 c1; have c2 : w1.cell? ⟨w.heap.size, 2, none⟩ = some (.int .i64 x1) := HS.out.now.1.cell 2; have c2a := cell_alloc1 c2; have c3 : w1.cell? ⟨w.heap.size, 3, none⟩ = some (.int .i64 x2) := HS.out.now.1.cell 3; have c3a := cell_alloc1 c3; have c4 : w1.cell? ⟨w.heap.size, 4, none⟩ = some (.int .i64 x3) := HS.out.now.1.cell 4; have c4a := cell_alloc1 c4; have c5 : w1.cell? ⟨w.heap.size, 5, none⟩ = some (.string s) := HS.out.now.1.cell 5; have c5a := cell_alloc1 c5; have k0 : w1.cell? ⟨w.heap.size + 1, 0, none⟩ = some (.int .i64 0) := HS.out.now.2.1.cell 0; have f0 := HS.out.now.2.1.frozen 0; have k0a := cell_alloc1 k0; have f0a := froz_alloc1 k0 f0; have k1 : w1.cell? ⟨w.heap.size + 1, 1, none⟩ = some (.int .i64 0) := HS.out.now.2.1.cell 1; have f1 := HS.out.now.2.1.frozen 1; have k1a := cell_alloc1 k1; have f1a := froz_alloc1 k1 f1)
  first | rw [Exit.noGoto_ret] | skip
  refine bodyPost_ret (v := .tuple #[.agg #[.int .i64 0, .int .i64 0], .slice none 0 0, .int .i64 r]) (by simp [results, Try.results59, go_sem, *]) rfl ⟨_, rfl, Kd.R_nil _ _ _ _ _, ?_⟩
  have hS := HS.out.bel
  repeat (first | exact hS | apply below_alloc | apply pw_below_drewN | apply below_drew1 | refine Below.setCell ?_ (by simp) _)
theorem r_set {W : World} {e base : Nat} {v : Value} {xs : List Int} (h : Kd.R (Kd.int .u8) e W base (fun _ => True) v xs) {p : Addr} (hp : p.block < base) (u : Value) : Kd.R (Kd.int .u8) e (W.setCell p u) base (fun _ => True) v xs :=
  Kd.R_mono (Kd.R_far (p := p) (Kd.R_bound h) (fun k hk => by have := hk.2.1; omega) u) (fun _ _ => trivial)
set_option maxRecDepth 100000 in
set_option maxHeartbeats 2000000 in
theorem change_whole_no (A : Option Addr) (c : Nat) (l : List Int) (x0 x1 x2 x3 : Int) (s : ByteArray) (w : World) (hr : Kd.C (Kd.int .u8) w A l.length l) (hc : l.length ≤ c) (hB : Bytes l) (hs : l.length ≤ 1048576) (hs2 : s.size ≤ 140737488351232) (hl : (chk l).2 = 0) (ht : (chk (bytesOf s)).2 = 0) (hlim0 : 8192 < s.size) :
    Calls Try.prog 59 #[.slice A l.length c, .agg #[.bool true, .int .i64 x0, .int .i64 x1, .int .i64 x2, .int .i64 x3, .string s]] w fun e w' => ∃ v : Value, e = .returned (.tuple #[.agg #[.int .i64 0, .int .i64 0], v, .int .i64 5]) ∧ Kd.R (Kd.int .u8) 5 w' w.heap.size (fun _ => True) v [] ∧ Below w.heap.size w w' := by
  have hb1 := below_alloc (Below.refl _ w) (.cells #[.bool true, .int .i64 x0, .int .i64 x1, .int .i64 x2, .int .i64 x3, .string s] 29)
  have hb2 : Below (w.alloc (.cells #[.bool true, .int .i64 x0, .int .i64 x1, .int .i64 x2, .int .i64 x3, .string s] 29)).heap.size (w.alloc (.cells #[.bool true, .int .i64 x0, .int .i64 x1, .int .i64 x2, .int .i64 x3, .string s] 29)) ((w.alloc (.cells #[.bool true, .int .i64 x0, .int .i64 x1, .int .i64 x2, .int .i64 x3, .string s] 29)).alloc (.cells #[.int .i64 0, .int .i64 0] 44)) := below_alloc (Below.refl _ _) _
  have hg : IsBlk ((w.alloc (.cells #[.bool true, .int .i64 x0, .int .i64 x1, .int .i64 x2, .int .i64 x3, .string s] 29)).alloc (.cells #[.int .i64 0, .int .i64 0] 44)) (w.alloc (.cells #[.bool true, .int .i64 x0, .int .i64 x1, .int .i64 x2, .int .i64 x3, .string s] 29)).heap.size (.cells #[.int .i64 0, .int .i64 0] 44) := blk_new _ _
  rw [World.size_alloc] at hg
  have HS : Aside0 (Sta w ((w.alloc (.cells #[.bool true, .int .i64 x0, .int .i64 x1, .int .i64 x2, .int .i64 x3, .string s] 29)).alloc (.cells #[.int .i64 0, .int .i64 0] 44)) (fun W => IsBlk W w.heap.size (.cells #[.bool true, .int .i64 x0, .int .i64 x1, .int .i64 x2, .int .i64 x3, .string s] 29) ∧ IsBlk W (w.heap.size + 1) (.cells #[.int .i64 0, .int .i64 0] 44) ∧ Kd.C (Kd.int .u8) W A l.length l)) := ⟨⟨below_step hb1 hb2, ⟨IsBlk.below (blk_new w _) hb2, hg, Kd.C_below (Kd.C_below hr hb1) hb2⟩, keeps_and (keeps_blk _ _) (keeps_and (keeps_blk _ _) (keeps_C _ _ _ _))⟩⟩
  clear hb1 hb2 hg hr
  have n1 := blk_lt HS.out.now.1
  have n2 := blk_lt HS.out.now.2.1
  have c0 : ((w.alloc (.cells #[.bool true, .int .i64 x0, .int .i64 x1, .int .i64 x2, .int .i64 x3, .string s] 29)).alloc (.cells #[.int .i64 0, .int .i64 0] 44)).cell? ⟨w.heap.size, 0, none⟩ = some (.bool true) := HS.out.now.1.cell 0
  have c1 : ((w.alloc (.cells #[.bool true, .int .i64 x0, .int .i64 x1, .int .i64 x2, .int .i64 x3, .string s] 29)).alloc (.cells #[.int .i64 0, .int .i64 0] 44)).cell? ⟨w.heap.size, 1, none⟩ = some (.int .i64 x0) := HS.out.now.1.cell 1
  have c2 : ((w.alloc (.cells #[.bool true, .int .i64 x0, .int .i64 x1, .int .i64 x2, .int .i64 x3, .string s] 29)).alloc (.cells #[.int .i64 0, .int .i64 0] 44)).cell? ⟨w.heap.size, 2, none⟩ = some (.int .i64 x1) := HS.out.now.1.cell 2
  have c3 : ((w.alloc (.cells #[.bool true, .int .i64 x0, .int .i64 x1, .int .i64 x2, .int .i64 x3, .string s] 29)).alloc (.cells #[.int .i64 0, .int .i64 0] 44)).cell? ⟨w.heap.size, 3, none⟩ = some (.int .i64 x2) := HS.out.now.1.cell 3
  have c4 : ((w.alloc (.cells #[.bool true, .int .i64 x0, .int .i64 x1, .int .i64 x2, .int .i64 x3, .string s] 29)).alloc (.cells #[.int .i64 0, .int .i64 0] 44)).cell? ⟨w.heap.size, 4, none⟩ = some (.int .i64 x3) := HS.out.now.1.cell 4
  have c5 : ((w.alloc (.cells #[.bool true, .int .i64 x0, .int .i64 x1, .int .i64 x2, .int .i64 x3, .string s] 29)).alloc (.cells #[.int .i64 0, .int .i64 0] 44)).cell? ⟨w.heap.size, 5, none⟩ = some (.string s) := HS.out.now.1.cell 5
  have k0 : ((w.alloc (.cells #[.bool true, .int .i64 x0, .int .i64 x1, .int .i64 x2, .int .i64 x3, .string s] 29)).alloc (.cells #[.int .i64 0, .int .i64 0] 44)).cell? ⟨w.heap.size + 1, 0, none⟩ = some (.int .i64 0) := HS.out.now.2.1.cell 0
  have f0 := HS.out.now.2.1.frozen 0
  have k1 : ((w.alloc (.cells #[.bool true, .int .i64 x0, .int .i64 x1, .int .i64 x2, .int .i64 x3, .string s] 29)).alloc (.cells #[.int .i64 0, .int .i64 0] 44)).cell? ⟨w.heap.size + 1, 1, none⟩ = some (.int .i64 0) := HS.out.now.2.1.cell 1
  have f1 := HS.out.now.2.1.frozen 1
  have kb := fun W : World => print_bytes (P := Try.prog) 9 22 5 Try.underlying9 Try.underlying22 Try.underlying5 s W
  have HT := Aside0.mk (texts2_f l (bytesOf s) hB (bytesOf_B s) hs (by rw [bytesOf_length]; exact hs2))
  have HC := Aside0.mk hc
  have HBY := Aside0.mk hB
  clear hc hB
  rw [hl, ht, if_neg (by simp)] at HT
  obtain ⟨a, ha⟩ : ∃ a : Int, a = 0 := ⟨_, rfl⟩
  obtain ⟨b, hb⟩ : ∃ b : Int, b = l.length := ⟨_, rfl⟩
  have hlim : 8192 < (l.length : Int) - (b - a) + s.size := by omega
  have ha0 : 0 ≤ a := by omega
  have hab : a ≤ b := by omega
  have hbl : b ≤ l.length := by omega
  have HR0 := Aside0.mk (HS.out.now.2.2)
  go_enter Try.func59, Try.ntmps59
  go_upto_region 14 with (go_at_call 51; refine (edit_texts.calls _ _ _ [l, bytesOf s] _ _ (row2_Cm _ _ _ _ _ l (bytesOf s) s.size (bytesOf_length s) (HS.out.step (by repeat (first | exact Below.refl _ _ | apply below_alloc | apply pw_below_drewN | apply below_drew1 | apply bytes_step))).now.2.2 HC.out (bytes_at _ _ s _ (by simp) (by omega)) (grownCap_ge _ _ _ _) _) (Nat.le_refl _) HT.out).mono ?_; rintro e w1 ⟨rfl, hd⟩; have hb := hd.below; clear hd; have m_ := Aside0.mk (HS.out.call (by repeat (first | exact Below.refl _ _ | apply below_alloc | apply pw_below_drewN | apply below_drew1 | apply bytes_step)) hb); clear HS hb ; have HS := m_; clear m_; have n1 := blk_lt HS.out.now.1; have n2 := blk_lt HS.out.now.2.1; have c0 : w1.cell? ⟨w.heap.size, 0, none⟩ = some (.bool true) := HS.out.now.1.cell 0; have c0a := cell_alloc1 c0; have c1 : w1.cell? ⟨w.heap.size, 1, none⟩ = some (.int .i64 x0) := HS.out.now.1.cell 1; have c1a := cell_alloc1 c1; have c2 : w1.cell? ⟨w.heap.size, 2, none⟩ = some (.int .i64 x1) := HS.out.now.1.cell 2; have c2a := cell_alloc1 c2; have c3 : w1.cell? ⟨w.heap.size, 3, none⟩ = some (.int .i64 x2) := HS.out.now.1.cell 3; have c3a := cell_alloc1 c3; have c4 : w1.cell? ⟨w.heap.size, 4, none⟩ = some (.int .i64 x3) := HS.out.now.1.cell 4; have c4a := cell_alloc1 c4; have c5 : w1.cell? ⟨w.heap.size, 5, none⟩ = some (.string s) := HS.out.now.1.cell 5; have c5a := cell_alloc1 c5; have k0 : w1.cell? ⟨w.heap.size + 1, 0, none⟩ = some (.int .i64 0) := HS.out.now.2.1.cell 0; have f0 := HS.out.now.2.1.frozen 0; have k0a := cell_alloc1 k0; have f0a := froz_alloc1 k0 f0; have k1 : w1.cell? ⟨w.heap.size + 1, 1, none⟩ = some (.int .i64 0) := HS.out.now.2.1.cell 1; have f1 := HS.out.now.2.1.frozen 1; have k1a := cell_alloc1 k1; have f1a := froz_alloc1 k1 f1)
  have b8n : IsBlk (w1.alloc (.cells #[.int .i64 0, .int .i64 l.length] 44)) w1.heap.size (.cells #[.int .i64 a, .int .i64 b] 44 (0, 0)) := by rw [ha, hb]; exact blk_new _ _
  have h9 := HS.out.step (below_alloc (Below.refl w1.heap.size w1) (.cells #[.int .i64 0, .int .i64 l.length] 44))
  have HS9 : Aside0 (Sta w (w1.alloc (.cells #[.int .i64 0, .int .i64 l.length] 44)) (fun W => IsBlk W w.heap.size (.cells #[.bool true, .int .i64 x0, .int .i64 x1, .int .i64 x2, .int .i64 x3, .string s] 29) ∧ IsBlk W (w.heap.size + 1) (.cells #[.int .i64 0, .int .i64 0] 44) ∧ Kd.C (Kd.int .u8) W A l.length l ∧ IsBlk W w1.heap.size (.cells #[.int .i64 a, .int .i64 b] 44 (0, 0)))) := ⟨⟨h9.bel, ⟨h9.now.1, h9.now.2.1, h9.now.2.2, b8n⟩, keeps_and (keeps_blk _ _) (keeps_and (keeps_blk _ _) (keeps_and (keeps_C _ _ _ _) (keeps_blk _ _)))⟩⟩
  have ge8 := n2
  have ge9 : w.heap.size < w1.heap.size := Nat.lt_of_succ_lt n2
  clear HS h9 b8n HT
  clear c0 c0a c1 c1a c2 c2a c3 c3a c4 c4a c5 c5a k0 k1 k0a k1a f0 f1 f0a f1a n1 n2
  generalize w1.alloc (.cells #[.int .i64 0, .int .i64 l.length] 44) = W9 at HS9 ⊢
  generalize w1.heap.size = b8 at HS9 ge8 ge9 ⊢
  have HS := HS9
  clear HS9
  have n1 := blk_lt HS.out.now.1
  have n2 := blk_lt HS.out.now.2.1
  have c0 : W9.cell? ⟨w.heap.size, 0, none⟩ = some (.bool true) := HS.out.now.1.cell 0
  have c1 : W9.cell? ⟨w.heap.size, 1, none⟩ = some (.int .i64 x0) := HS.out.now.1.cell 1
  have c2 : W9.cell? ⟨w.heap.size, 2, none⟩ = some (.int .i64 x1) := HS.out.now.1.cell 2
  have c3 : W9.cell? ⟨w.heap.size, 3, none⟩ = some (.int .i64 x2) := HS.out.now.1.cell 3
  have c4 : W9.cell? ⟨w.heap.size, 4, none⟩ = some (.int .i64 x3) := HS.out.now.1.cell 4
  have c5 : W9.cell? ⟨w.heap.size, 5, none⟩ = some (.string s) := HS.out.now.1.cell 5
  have k0 : W9.cell? ⟨w.heap.size + 1, 0, none⟩ = some (.int .i64 0) := HS.out.now.2.1.cell 0
  have f0 := HS.out.now.2.1.frozen 0
  have k1 : W9.cell? ⟨w.heap.size + 1, 1, none⟩ = some (.int .i64 0) := HS.out.now.2.1.cell 1
  have f1 := HS.out.now.2.1.frozen 1
  have q0 : W9.cell? ⟨b8, 0, none⟩ = some (.int .i64 a) := HS.out.now.2.2.2.cell 0
  have q1 : W9.cell? ⟨b8, 1, none⟩ = some (.int .i64 b) := HS.out.now.2.2.2.cell 1
  have g9 : decide (8192 < (l.length : Int) - (b - a) + s.size) = true := decide_eq_true (by omega)
  clear ha hb
  go_wp2
  first | rw [Exit.noGoto_ret] | skip
  refine bodyPost_ret (v := .tuple #[.agg #[.int .i64 0, .int .i64 0], .slice none 0 0, .int .i64 5]) (by simp [results, Try.results59, go_sem, *]) rfl ⟨_, rfl, Kd.R_nil _ _ _ _ _, ?_⟩
  have hS := HS.out.bel
  repeat (first | exact hS | apply below_alloc | apply pw_below_drewN | apply below_drew1 | refine Below.setCell ?_ (by simp) _)
set_option maxRecDepth 100000 in
set_option maxHeartbeats 2000000 in
theorem change_whole_ok (A : Option Addr) (c : Nat) (l : List Int) (x0 x1 x2 x3 : Int) (s : ByteArray) (w : World) (hr : Kd.C (Kd.int .u8) w A l.length l) (hc : l.length ≤ c) (hB : Bytes l) (hs : l.length ≤ 1048576) (hs2 : s.size ≤ 140737488351232) (hl : (chk l).2 = 0) (ht : (chk (bytesOf s)).2 = 0) (hlim0 : ¬ 8192 < s.size) (a b : Int) (ha : a = 0) (hb : b = l.length) :
    Calls Try.prog 59 #[.slice A l.length c, .agg #[.bool true, .int .i64 x0, .int .i64 x1, .int .i64 x2, .int .i64 x3, .string s]] w fun e w' => ∃ v : Value, e = .returned (.tuple #[.agg #[.int .i64 a, .int .i64 b], v, .int .i64 0]) ∧ Kd.R (Kd.int .u8) 5 w' w.heap.size (fun _ => True) v (l.take a.toNat ++ bytesOf s ++ l.drop b.toNat) ∧ Below w.heap.size w w' := by
  have hb1 := below_alloc (Below.refl _ w) (.cells #[.bool true, .int .i64 x0, .int .i64 x1, .int .i64 x2, .int .i64 x3, .string s] 29)
  have hb2 : Below (w.alloc (.cells #[.bool true, .int .i64 x0, .int .i64 x1, .int .i64 x2, .int .i64 x3, .string s] 29)).heap.size (w.alloc (.cells #[.bool true, .int .i64 x0, .int .i64 x1, .int .i64 x2, .int .i64 x3, .string s] 29)) ((w.alloc (.cells #[.bool true, .int .i64 x0, .int .i64 x1, .int .i64 x2, .int .i64 x3, .string s] 29)).alloc (.cells #[.int .i64 0, .int .i64 0] 44)) := below_alloc (Below.refl _ _) _
  have hg : IsBlk ((w.alloc (.cells #[.bool true, .int .i64 x0, .int .i64 x1, .int .i64 x2, .int .i64 x3, .string s] 29)).alloc (.cells #[.int .i64 0, .int .i64 0] 44)) (w.alloc (.cells #[.bool true, .int .i64 x0, .int .i64 x1, .int .i64 x2, .int .i64 x3, .string s] 29)).heap.size (.cells #[.int .i64 0, .int .i64 0] 44) := blk_new _ _
  rw [World.size_alloc] at hg
  have HS : Aside0 (Sta w ((w.alloc (.cells #[.bool true, .int .i64 x0, .int .i64 x1, .int .i64 x2, .int .i64 x3, .string s] 29)).alloc (.cells #[.int .i64 0, .int .i64 0] 44)) (fun W => IsBlk W w.heap.size (.cells #[.bool true, .int .i64 x0, .int .i64 x1, .int .i64 x2, .int .i64 x3, .string s] 29) ∧ IsBlk W (w.heap.size + 1) (.cells #[.int .i64 0, .int .i64 0] 44) ∧ Kd.C (Kd.int .u8) W A l.length l)) := ⟨⟨below_step hb1 hb2, ⟨IsBlk.below (blk_new w _) hb2, hg, Kd.C_below (Kd.C_below hr hb1) hb2⟩, keeps_and (keeps_blk _ _) (keeps_and (keeps_blk _ _) (keeps_C _ _ _ _))⟩⟩
  clear hb1 hb2 hg hr
  have n1 := blk_lt HS.out.now.1
  have n2 := blk_lt HS.out.now.2.1
  have c0 : ((w.alloc (.cells #[.bool true, .int .i64 x0, .int .i64 x1, .int .i64 x2, .int .i64 x3, .string s] 29)).alloc (.cells #[.int .i64 0, .int .i64 0] 44)).cell? ⟨w.heap.size, 0, none⟩ = some (.bool true) := HS.out.now.1.cell 0
  have c1 : ((w.alloc (.cells #[.bool true, .int .i64 x0, .int .i64 x1, .int .i64 x2, .int .i64 x3, .string s] 29)).alloc (.cells #[.int .i64 0, .int .i64 0] 44)).cell? ⟨w.heap.size, 1, none⟩ = some (.int .i64 x0) := HS.out.now.1.cell 1
  have c2 : ((w.alloc (.cells #[.bool true, .int .i64 x0, .int .i64 x1, .int .i64 x2, .int .i64 x3, .string s] 29)).alloc (.cells #[.int .i64 0, .int .i64 0] 44)).cell? ⟨w.heap.size, 2, none⟩ = some (.int .i64 x1) := HS.out.now.1.cell 2
  have c3 : ((w.alloc (.cells #[.bool true, .int .i64 x0, .int .i64 x1, .int .i64 x2, .int .i64 x3, .string s] 29)).alloc (.cells #[.int .i64 0, .int .i64 0] 44)).cell? ⟨w.heap.size, 3, none⟩ = some (.int .i64 x2) := HS.out.now.1.cell 3
  have c4 : ((w.alloc (.cells #[.bool true, .int .i64 x0, .int .i64 x1, .int .i64 x2, .int .i64 x3, .string s] 29)).alloc (.cells #[.int .i64 0, .int .i64 0] 44)).cell? ⟨w.heap.size, 4, none⟩ = some (.int .i64 x3) := HS.out.now.1.cell 4
  have c5 : ((w.alloc (.cells #[.bool true, .int .i64 x0, .int .i64 x1, .int .i64 x2, .int .i64 x3, .string s] 29)).alloc (.cells #[.int .i64 0, .int .i64 0] 44)).cell? ⟨w.heap.size, 5, none⟩ = some (.string s) := HS.out.now.1.cell 5
  have k0 : ((w.alloc (.cells #[.bool true, .int .i64 x0, .int .i64 x1, .int .i64 x2, .int .i64 x3, .string s] 29)).alloc (.cells #[.int .i64 0, .int .i64 0] 44)).cell? ⟨w.heap.size + 1, 0, none⟩ = some (.int .i64 0) := HS.out.now.2.1.cell 0
  have f0 := HS.out.now.2.1.frozen 0
  have k1 : ((w.alloc (.cells #[.bool true, .int .i64 x0, .int .i64 x1, .int .i64 x2, .int .i64 x3, .string s] 29)).alloc (.cells #[.int .i64 0, .int .i64 0] 44)).cell? ⟨w.heap.size + 1, 1, none⟩ = some (.int .i64 0) := HS.out.now.2.1.cell 1
  have f1 := HS.out.now.2.1.frozen 1
  have kb := fun W : World => print_bytes (P := Try.prog) 9 22 5 Try.underlying9 Try.underlying22 Try.underlying5 s W
  have HT := Aside0.mk (texts2_f l (bytesOf s) hB (bytesOf_B s) hs (by rw [bytesOf_length]; exact hs2))
  have HC := Aside0.mk hc
  have HBY := Aside0.mk hB
  clear hc hB
  rw [hl, ht, if_neg (by simp)] at HT
  have hlim : ¬ 8192 < (l.length : Int) - (b - a) + s.size := by omega
  have ha0 : 0 ≤ a := by omega
  have hab : a ≤ b := by omega
  have hbl : b ≤ l.length := by omega
  have HR0 := Aside0.mk (HS.out.now.2.2)
  go_enter Try.func59, Try.ntmps59
  go_upto_region 14 with (go_at_call 51; refine (edit_texts.calls _ _ _ [l, bytesOf s] _ _ (row2_Cm _ _ _ _ _ l (bytesOf s) s.size (bytesOf_length s) (HS.out.step (by repeat (first | exact Below.refl _ _ | apply below_alloc | apply pw_below_drewN | apply below_drew1 | apply bytes_step))).now.2.2 HC.out (bytes_at _ _ s _ (by simp) (by omega)) (grownCap_ge _ _ _ _) _) (Nat.le_refl _) HT.out).mono ?_; rintro e w1 ⟨rfl, hd⟩; have hb := hd.below; clear hd; have m_ := Aside0.mk (HS.out.call (by repeat (first | exact Below.refl _ _ | apply below_alloc | apply pw_below_drewN | apply below_drew1 | apply bytes_step)) hb); clear HS hb ; have HS := m_; clear m_; have n1 := blk_lt HS.out.now.1; have n2 := blk_lt HS.out.now.2.1; have c0 : w1.cell? ⟨w.heap.size, 0, none⟩ = some (.bool true) := HS.out.now.1.cell 0; have c0a := cell_alloc1 c0; have c1 : w1.cell? ⟨w.heap.size, 1, none⟩ = some (.int .i64 x0) := HS.out.now.1.cell 1; have c1a := cell_alloc1 c1; have c2 : w1.cell? ⟨w.heap.size, 2, none⟩ = some (.int .i64 x1) := HS.out.now.1.cell 2; have c2a := cell_alloc1 c2; have c3 : w1.cell? ⟨w.heap.size, 3, none⟩ = some (.int .i64 x2) := HS.out.now.1.cell 3; have c3a := cell_alloc1 c3; have c4 : w1.cell? ⟨w.heap.size, 4, none⟩ = some (.int .i64 x3) := HS.out.now.1.cell 4; have c4a := cell_alloc1 c4; have c5 : w1.cell? ⟨w.heap.size, 5, none⟩ = some (.string s) := HS.out.now.1.cell 5; have c5a := cell_alloc1 c5; have k0 : w1.cell? ⟨w.heap.size + 1, 0, none⟩ = some (.int .i64 0) := HS.out.now.2.1.cell 0; have f0 := HS.out.now.2.1.frozen 0; have k0a := cell_alloc1 k0; have f0a := froz_alloc1 k0 f0; have k1 : w1.cell? ⟨w.heap.size + 1, 1, none⟩ = some (.int .i64 0) := HS.out.now.2.1.cell 1; have f1 := HS.out.now.2.1.frozen 1; have k1a := cell_alloc1 k1; have f1a := froz_alloc1 k1 f1)
  have b8n : IsBlk (w1.alloc (.cells #[.int .i64 0, .int .i64 l.length] 44)) w1.heap.size (.cells #[.int .i64 a, .int .i64 b] 44 (0, 0)) := by rw [ha, hb]; exact blk_new _ _
  have h9 := HS.out.step (below_alloc (Below.refl w1.heap.size w1) (.cells #[.int .i64 0, .int .i64 l.length] 44))
  have HS9 : Aside0 (Sta w (w1.alloc (.cells #[.int .i64 0, .int .i64 l.length] 44)) (fun W => IsBlk W w.heap.size (.cells #[.bool true, .int .i64 x0, .int .i64 x1, .int .i64 x2, .int .i64 x3, .string s] 29) ∧ IsBlk W (w.heap.size + 1) (.cells #[.int .i64 0, .int .i64 0] 44) ∧ Kd.C (Kd.int .u8) W A l.length l ∧ IsBlk W w1.heap.size (.cells #[.int .i64 a, .int .i64 b] 44 (0, 0)))) := ⟨⟨h9.bel, ⟨h9.now.1, h9.now.2.1, h9.now.2.2, b8n⟩, keeps_and (keeps_blk _ _) (keeps_and (keeps_blk _ _) (keeps_and (keeps_C _ _ _ _) (keeps_blk _ _)))⟩⟩
  have ge8 := n2
  have ge9 : w.heap.size < w1.heap.size := Nat.lt_of_succ_lt n2
  clear HS h9 b8n HT
  clear c0 c0a c1 c1a c2 c2a c3 c3a c4 c4a c5 c5a k0 k1 k0a k1a f0 f1 f0a f1a n1 n2
  generalize w1.alloc (.cells #[.int .i64 0, .int .i64 l.length] 44) = W9 at HS9 ⊢
  generalize w1.heap.size = b8 at HS9 ge8 ge9 ⊢
  have HS := HS9
  clear HS9
  have n1 := blk_lt HS.out.now.1
  have n2 := blk_lt HS.out.now.2.1
  have c0 : W9.cell? ⟨w.heap.size, 0, none⟩ = some (.bool true) := HS.out.now.1.cell 0
  have c1 : W9.cell? ⟨w.heap.size, 1, none⟩ = some (.int .i64 x0) := HS.out.now.1.cell 1
  have c2 : W9.cell? ⟨w.heap.size, 2, none⟩ = some (.int .i64 x1) := HS.out.now.1.cell 2
  have c3 : W9.cell? ⟨w.heap.size, 3, none⟩ = some (.int .i64 x2) := HS.out.now.1.cell 3
  have c4 : W9.cell? ⟨w.heap.size, 4, none⟩ = some (.int .i64 x3) := HS.out.now.1.cell 4
  have c5 : W9.cell? ⟨w.heap.size, 5, none⟩ = some (.string s) := HS.out.now.1.cell 5
  have k0 : W9.cell? ⟨w.heap.size + 1, 0, none⟩ = some (.int .i64 0) := HS.out.now.2.1.cell 0
  have f0 := HS.out.now.2.1.frozen 0
  have k1 : W9.cell? ⟨w.heap.size + 1, 1, none⟩ = some (.int .i64 0) := HS.out.now.2.1.cell 1
  have f1 := HS.out.now.2.1.frozen 1
  have q0 : W9.cell? ⟨b8, 0, none⟩ = some (.int .i64 a) := HS.out.now.2.2.2.cell 0
  have q1 : W9.cell? ⟨b8, 1, none⟩ = some (.int .i64 b) := HS.out.now.2.2.2.cell 1
  have g9 : decide (8192 < (l.length : Int) - (b - a) + s.size) = false := decide_eq_false (by omega)
  clear ha hb
  have e1 := Nat.ne_of_lt ge8
  have e2 := Ne.symm e1
  have e3 := Nat.ne_of_lt ge9
  have e4 := Ne.symm e3
  go_upto_region 16 with (fail)
  go_region_held3 (fun wx => wx.cell? ⟨b8, 0, none⟩ = some (.int .i64 a) ∧ wx.cell? ⟨b8, 1, none⟩ = some (.int .i64 b) ∧ wx.cell? ⟨w.heap.size, 5, none⟩ = some (.string s)) (go_keep) ((go_at_call 86; refine (joined_ok A c l a b s _ (HS.out.step (by repeat (first | exact Below.refl _ _ | apply below_alloc | apply pw_below_drewN | apply below_drew1 | apply bytes_step))).now.2.2.1 HC.out ha0 hab hbl (by omega)).mono ?_; rintro e w5 ⟨v, rfl, hR, hb⟩; have HRR := Aside0.mk (Kd.R_lower hR (blk_lt (HS.out.step (by repeat (first | exact Below.refl _ _ | apply below_alloc | apply pw_below_drewN | apply below_drew1 | apply bytes_step))).now.2.1)); clear hR; have m_ := Aside0.mk (HS.out.call (by repeat (first | exact Below.refl _ _ | apply below_alloc | apply pw_below_drewN | apply below_drew1 | apply bytes_step)) hb); clear HS hb ; have HS := m_; clear m_; have n1 := blk_lt HS.out.now.1; have n2 := blk_lt HS.out.now.2.1; have c0 : w5.cell? ⟨w.heap.size, 0, none⟩ = some (.bool true) := HS.out.now.1.cell 0; have c1 : w5.cell? ⟨w.heap.size, 1, none⟩ = some (.int .i64 x0) := HS.out.now.1.cell 1; have c2 : w5.cell? ⟨w.heap.size, 2, none⟩ = some (.int .i64 x1) := HS.out.now.1.cell 2; have c3 : w5.cell? ⟨w.heap.size, 3, none⟩ = some (.int .i64 x2) := HS.out.now.1.cell 3; have c4 : w5.cell? ⟨w.heap.size, 4, none⟩ = some (.int .i64 x3) := HS.out.now.1.cell 4; have c5 : w5.cell? ⟨w.heap.size, 5, none⟩ = some (.string s) := HS.out.now.1.cell 5; have k0 : w5.cell? ⟨w.heap.size + 1, 0, none⟩ = some (.int .i64 0) := HS.out.now.2.1.cell 0; have f0 := HS.out.now.2.1.frozen 0; have k1 : w5.cell? ⟨w.heap.size + 1, 1, none⟩ = some (.int .i64 0) := HS.out.now.2.1.cell 1; have f1 := HS.out.now.2.1.frozen 1; have q0 : w5.cell? ⟨b8, 0, none⟩ = some (.int .i64 a) := HS.out.now.2.2.2.cell 0; have q1 : w5.cell? ⟨b8, 1, none⟩ = some (.int .i64 b) := HS.out.now.2.2.2.cell 1))
  all_goals
    go_wp2
    first | rw [Exit.noGoto_ret] | skip
    refine bodyPost_ret (v := .tuple #[.agg #[.int .i64 a, .int .i64 b], v, .int .i64 0]) (by simp [results, Try.results59, go_sem, *]) rfl ⟨v, rfl, Kd.R_lower (r_set (r_set HRR.out (by simp) _) (by simp) _) (by omega), ?_⟩
    have hS := HS.out.bel
    repeat (first | exact hS | apply below_alloc | apply pw_below_drewN | apply below_drew1 | refine Below.setCell ?_ (by simp) _)
theorem blk2 {W : World} {b : Nat} {z z1 : Value} {t : TypeId} (h : IsBlk W b (.cells #[z, z1] t (0, 0))) (u0 u1 : Value) :
    IsBlk ((W.setCell ⟨b, 0, none⟩ u0).setCell ⟨b, 1, none⟩ u1) b (.cells #[u0, u1] t (0, 0)) :=
  (blk_set (blk_set h 0 u0) 1 u1).trans rfl
set_option maxRecDepth 100000 in
set_option maxHeartbeats 2000000 in
theorem change_span_bad (A : Option Addr) (c : Nat) (l : List Int) (x0 x1 x2 x3 : Int) (s : ByteArray) (w : World) (hr : Kd.C (Kd.int .u8) w A l.length l) (hc : l.length ≤ c) (hB : Bytes l) (hs : l.length ≤ 1048576) (hs2 : s.size ≤ 140737488351232) (hn : A = none → c = 0) (hx1 : x1 ≤ 9223372036854775807) (hx3 : x3 ≤ 9223372036854775807) (hl : (chk l).2 = 0) (ht : (chk (bytesOf s)).2 = 0) (a b er : Int) (hma : (msp l x0 x1 x2 x3).1 = a) (hmb : (msp l x0 x1 x2 x3).2.1 = b) (hme : (msp l x0 x1 x2 x3).2.2 = er) (hz : er ≠ 0) (ew : Int) (hew : ew = if er = 2 then 150 else er) :
    Calls Try.prog 59 #[.slice A l.length c, .agg #[.bool false, .int .i64 x0, .int .i64 x1, .int .i64 x2, .int .i64 x3, .string s]] w fun e w' => ∃ v : Value, e = .returned (.tuple #[.agg #[.int .i64 0, .int .i64 0], v, .int .i64 ew]) ∧ Kd.R (Kd.int .u8) 5 w' w.heap.size (fun _ => True) v [] ∧ Below w.heap.size w w' := by
  have HRW := Aside0.mk hr
  have hb1 := below_alloc (Below.refl _ w) (.cells #[.bool false, .int .i64 x0, .int .i64 x1, .int .i64 x2, .int .i64 x3, .string s] 29)
  have hb2 : Below (w.alloc (.cells #[.bool false, .int .i64 x0, .int .i64 x1, .int .i64 x2, .int .i64 x3, .string s] 29)).heap.size (w.alloc (.cells #[.bool false, .int .i64 x0, .int .i64 x1, .int .i64 x2, .int .i64 x3, .string s] 29)) ((w.alloc (.cells #[.bool false, .int .i64 x0, .int .i64 x1, .int .i64 x2, .int .i64 x3, .string s] 29)).alloc (.cells #[.int .i64 0, .int .i64 0] 44)) := below_alloc (Below.refl _ _) _
  have hg : IsBlk ((w.alloc (.cells #[.bool false, .int .i64 x0, .int .i64 x1, .int .i64 x2, .int .i64 x3, .string s] 29)).alloc (.cells #[.int .i64 0, .int .i64 0] 44)) (w.alloc (.cells #[.bool false, .int .i64 x0, .int .i64 x1, .int .i64 x2, .int .i64 x3, .string s] 29)).heap.size (.cells #[.int .i64 0, .int .i64 0] 44) := blk_new _ _
  rw [World.size_alloc] at hg
  have HS : Aside0 (Sta w ((w.alloc (.cells #[.bool false, .int .i64 x0, .int .i64 x1, .int .i64 x2, .int .i64 x3, .string s] 29)).alloc (.cells #[.int .i64 0, .int .i64 0] 44)) (fun W => IsBlk W w.heap.size (.cells #[.bool false, .int .i64 x0, .int .i64 x1, .int .i64 x2, .int .i64 x3, .string s] 29) ∧ IsBlk W (w.heap.size + 1) (.cells #[.int .i64 0, .int .i64 0] 44) ∧ Kd.C (Kd.int .u8) W A l.length l)) := ⟨⟨below_step hb1 hb2, ⟨IsBlk.below (blk_new w _) hb2, hg, Kd.C_below (Kd.C_below hr hb1) hb2⟩, keeps_and (keeps_blk _ _) (keeps_and (keeps_blk _ _) (keeps_C _ _ _ _))⟩⟩
  clear hb1 hb2 hg hr
  have n1 := blk_lt HS.out.now.1
  have n2 := blk_lt HS.out.now.2.1
  have c0 : ((w.alloc (.cells #[.bool false, .int .i64 x0, .int .i64 x1, .int .i64 x2, .int .i64 x3, .string s] 29)).alloc (.cells #[.int .i64 0, .int .i64 0] 44)).cell? ⟨w.heap.size, 0, none⟩ = some (.bool false) := HS.out.now.1.cell 0
  have c1 : ((w.alloc (.cells #[.bool false, .int .i64 x0, .int .i64 x1, .int .i64 x2, .int .i64 x3, .string s] 29)).alloc (.cells #[.int .i64 0, .int .i64 0] 44)).cell? ⟨w.heap.size, 1, none⟩ = some (.int .i64 x0) := HS.out.now.1.cell 1
  have c2 : ((w.alloc (.cells #[.bool false, .int .i64 x0, .int .i64 x1, .int .i64 x2, .int .i64 x3, .string s] 29)).alloc (.cells #[.int .i64 0, .int .i64 0] 44)).cell? ⟨w.heap.size, 2, none⟩ = some (.int .i64 x1) := HS.out.now.1.cell 2
  have c3 : ((w.alloc (.cells #[.bool false, .int .i64 x0, .int .i64 x1, .int .i64 x2, .int .i64 x3, .string s] 29)).alloc (.cells #[.int .i64 0, .int .i64 0] 44)).cell? ⟨w.heap.size, 3, none⟩ = some (.int .i64 x2) := HS.out.now.1.cell 3
  have c4 : ((w.alloc (.cells #[.bool false, .int .i64 x0, .int .i64 x1, .int .i64 x2, .int .i64 x3, .string s] 29)).alloc (.cells #[.int .i64 0, .int .i64 0] 44)).cell? ⟨w.heap.size, 4, none⟩ = some (.int .i64 x3) := HS.out.now.1.cell 4
  have c5 : ((w.alloc (.cells #[.bool false, .int .i64 x0, .int .i64 x1, .int .i64 x2, .int .i64 x3, .string s] 29)).alloc (.cells #[.int .i64 0, .int .i64 0] 44)).cell? ⟨w.heap.size, 5, none⟩ = some (.string s) := HS.out.now.1.cell 5
  have k0 : ((w.alloc (.cells #[.bool false, .int .i64 x0, .int .i64 x1, .int .i64 x2, .int .i64 x3, .string s] 29)).alloc (.cells #[.int .i64 0, .int .i64 0] 44)).cell? ⟨w.heap.size + 1, 0, none⟩ = some (.int .i64 0) := HS.out.now.2.1.cell 0
  have f0 := HS.out.now.2.1.frozen 0
  have k1 : ((w.alloc (.cells #[.bool false, .int .i64 x0, .int .i64 x1, .int .i64 x2, .int .i64 x3, .string s] 29)).alloc (.cells #[.int .i64 0, .int .i64 0] 44)).cell? ⟨w.heap.size + 1, 1, none⟩ = some (.int .i64 0) := HS.out.now.2.1.cell 1
  have f1 := HS.out.now.2.1.frozen 1
  have kb := fun W : World => print_bytes (P := Try.prog) 9 22 5 Try.underlying9 Try.underlying22 Try.underlying5 s W
  have HT := Aside0.mk (texts2_f l (bytesOf s) hB (bytesOf_B s) hs (by rw [bytesOf_length]; exact hs2))
  have HC := Aside0.mk hc
  have HBY := Aside0.mk hB
  clear hc hB
  have hkk := Check_f l HBY.out hs (Nat.lt_succ_self _)
  have hv := (chk_V HBY.out).1 hl
  rw [show chk l = ((chk l).1, 0) from Prod.ext rfl hl] at hkk
  rw [hl, ht, if_neg (by simp)] at HT
  have HV := Aside0.mk hv
  have HK := Aside0.mk hkk
  have HMA := Aside0.mk hma
  have HMB := Aside0.mk hmb
  have HME := Aside0.mk hme
  clear hkk hv hma hmb hme hl ht
  have z9 : (er == 0) = false := beq_eq_false_iff_ne.mpr hz
  clear hz
  go_enter Try.func59, Try.ntmps59
  go_upto_region 9 with (first | (go_at_call 51; refine (edit_texts.calls _ _ _ [l, bytesOf s] _ _ (row2_Cm _ _ _ _ _ l (bytesOf s) s.size (bytesOf_length s) (HS.out.step (by repeat (first | exact Below.refl _ _ | apply below_alloc | apply pw_below_drewN | apply below_drew1 | apply bytes_step))).now.2.2 HC.out (bytes_at _ _ s _ (by simp) (by omega)) (grownCap_ge _ _ _ _) _) (Nat.le_refl _) HT.out).mono ?_; rintro e w1 ⟨rfl, hd⟩; have hb := hd.below; clear hd; have m_ := Aside0.mk (HS.out.call (by repeat (first | exact Below.refl _ _ | apply below_alloc | apply pw_below_drewN | apply below_drew1 | apply bytes_step)) hb); clear HS hb ; have HS := m_; clear m_; have n1 := blk_lt HS.out.now.1; have n2 := blk_lt HS.out.now.2.1; have c0 : w1.cell? ⟨w.heap.size, 0, none⟩ = some (.bool false) := HS.out.now.1.cell 0; have c0a := cell_alloc1 c0; have c1 : w1.cell? ⟨w.heap.size, 1, none⟩ = some (.int .i64 x0) := HS.out.now.1.cell 1; have c1a := cell_alloc1 c1; have c2 : w1.cell? ⟨w.heap.size, 2, none⟩ = some (.int .i64 x1) := HS.out.now.1.cell 2; have c2a := cell_alloc1 c2; have c3 : w1.cell? ⟨w.heap.size, 3, none⟩ = some (.int .i64 x2) := HS.out.now.1.cell 3; have c3a := cell_alloc1 c3; have c4 : w1.cell? ⟨w.heap.size, 4, none⟩ = some (.int .i64 x3) := HS.out.now.1.cell 4; have c4a := cell_alloc1 c4; have c5 : w1.cell? ⟨w.heap.size, 5, none⟩ = some (.string s) := HS.out.now.1.cell 5; have c5a := cell_alloc1 c5; have k0 : w1.cell? ⟨w.heap.size + 1, 0, none⟩ = some (.int .i64 0) := HS.out.now.2.1.cell 0; have f0 := HS.out.now.2.1.frozen 0; have k0a := cell_alloc1 k0; have f0a := froz_alloc1 k0 f0; have k1 : w1.cell? ⟨w.heap.size + 1, 1, none⟩ = some (.int .i64 0) := HS.out.now.2.1.cell 1; have f1 := HS.out.now.2.1.frozen 1; have k1a := cell_alloc1 k1; have f1a := froz_alloc1 k1 f1; have HGE := Aside0.mk n2) | (go_at_call 25; refine (MNew_ok _ A c l _ _ (HS.out.step (by repeat (first | exact Below.refl _ _ | apply below_alloc | apply pw_below_drewN | apply below_drew1 | apply bytes_step))).now.2.2 HC.out hn HK.out hs).mono ?_; rintro e w2 ⟨m, rfl, hM, hb⟩; have hbx := IsBlk.below (blk_new w1 (.cells #[.int .i64 0, .int .i64 l.length] 44)) hb; have m_ := Aside0.mk (((HS.out.call (by repeat (first | exact Below.refl _ _ | apply below_alloc | apply pw_below_drewN | apply below_drew1 | apply bytes_step)) hb).add hbx (keeps_blk _ _)).add hM (keeps_map _ _)); clear HS hb hbx hM; have HS := m_; clear m_; have n1 := blk_lt HS.out.now.2.2.1; have n2 := blk_lt HS.out.now.2.2.2.1; have c0 : w2.cell? ⟨w.heap.size, 0, none⟩ = some (.bool false) := HS.out.now.2.2.1.cell 0; have c1 : w2.cell? ⟨w.heap.size, 1, none⟩ = some (.int .i64 x0) := HS.out.now.2.2.1.cell 1; have c2 : w2.cell? ⟨w.heap.size, 2, none⟩ = some (.int .i64 x1) := HS.out.now.2.2.1.cell 2; have c3 : w2.cell? ⟨w.heap.size, 3, none⟩ = some (.int .i64 x2) := HS.out.now.2.2.1.cell 3; have c4 : w2.cell? ⟨w.heap.size, 4, none⟩ = some (.int .i64 x3) := HS.out.now.2.2.1.cell 4; have c5 : w2.cell? ⟨w.heap.size, 5, none⟩ = some (.string s) := HS.out.now.2.2.1.cell 5; have k0 : w2.cell? ⟨w.heap.size + 1, 0, none⟩ = some (.int .i64 0) := HS.out.now.2.2.2.1.cell 0; have f0 := HS.out.now.2.2.2.1.frozen 0; have k1 : w2.cell? ⟨w.heap.size + 1, 1, none⟩ = some (.int .i64 0) := HS.out.now.2.2.2.1.cell 1; have f1 := HS.out.now.2.2.2.1.frozen 1) | (go_at_call 26; refine (MSpan_is m l x0 x1 x2 x3 _ (HS.out.step (by repeat (first | exact Below.refl _ _ | apply below_alloc | apply pw_below_drewN | apply below_drew1 | apply bytes_step))).now.1 hs HBY.out HV.out hx1 hx3).mono ?_; rintro e w3 ⟨rfl, hb⟩; rw [HMA.out, HMB.out, HME.out]; have m_ := Aside0.mk (HS.out.call (by repeat (first | exact Below.refl _ _ | apply below_alloc | apply pw_below_drewN | apply below_drew1 | apply bytes_step)) hb); clear HS hb ; have HS := m_; clear m_; have n1 := blk_lt HS.out.now.2.2.1; have n2 := blk_lt HS.out.now.2.2.2.1; have c0 : w3.cell? ⟨w.heap.size, 0, none⟩ = some (.bool false) := HS.out.now.2.2.1.cell 0; have c1 : w3.cell? ⟨w.heap.size, 1, none⟩ = some (.int .i64 x0) := HS.out.now.2.2.1.cell 1; have c2 : w3.cell? ⟨w.heap.size, 2, none⟩ = some (.int .i64 x1) := HS.out.now.2.2.1.cell 2; have c3 : w3.cell? ⟨w.heap.size, 3, none⟩ = some (.int .i64 x2) := HS.out.now.2.2.1.cell 3; have c4 : w3.cell? ⟨w.heap.size, 4, none⟩ = some (.int .i64 x3) := HS.out.now.2.2.1.cell 4; have c5 : w3.cell? ⟨w.heap.size, 5, none⟩ = some (.string s) := HS.out.now.2.2.1.cell 5; have k0 : w3.cell? ⟨w.heap.size + 1, 0, none⟩ = some (.int .i64 0) := HS.out.now.2.2.2.1.cell 0; have f0 := HS.out.now.2.2.2.1.frozen 0; have k1 : w3.cell? ⟨w.heap.size + 1, 1, none⟩ = some (.int .i64 0) := HS.out.now.2.2.2.1.cell 1; have f1 := HS.out.now.2.2.2.1.frozen 1; have z0 : w3.cell? ⟨w1.heap.size, 0, none⟩ = some (.int .i64 0) := HS.out.now.2.1.cell 0; have z1 : w3.cell? ⟨w1.heap.size, 1, none⟩ = some (.int .i64 l.length) := HS.out.now.2.1.cell 1; have zf0 := HS.out.now.2.1.frozen 0; have zf1 := HS.out.now.2.1.frozen 1))
  have ge8 : w.heap.size + 1 < w1.heap.size := HGE.out
  have ge9 : w.heap.size < w1.heap.size := Nat.lt_of_succ_lt ge8
  have q9 : Below w.heap.size w ((w3.setCell ⟨w1.heap.size, 0, none⟩ (.int .i64 a)).setCell ⟨w1.heap.size, 1, none⟩ (.int .i64 b)) := (HS.out.bel.setCell (Nat.le_of_lt ge9) _).setCell (Nat.le_of_lt ge9) _
  have HS9 : Aside0 (Sta w ((w3.setCell ⟨w1.heap.size, 0, none⟩ (.int .i64 a)).setCell ⟨w1.heap.size, 1, none⟩ (.int .i64 b)) (fun W => IsBlk W w.heap.size (.cells #[.bool false, .int .i64 x0, .int .i64 x1, .int .i64 x2, .int .i64 x3, .string s] 29) ∧ IsBlk W (w.heap.size + 1) (.cells #[.int .i64 0, .int .i64 0] 44) ∧ Kd.C (Kd.int .u8) W A l.length l ∧ IsBlk W w1.heap.size (.cells #[.int .i64 a, .int .i64 b] 44 (0, 0)))) := ⟨⟨q9, ⟨(HS.out.now.2.2.1.other (Nat.ne_of_lt ge9) _).other (Nat.ne_of_lt ge9) _, (HS.out.now.2.2.2.1.other (Nat.ne_of_lt ge8) _).other (Nat.ne_of_lt ge8) _, Kd.C_below HRW.out q9, blk2 HS.out.now.2.1 _ _⟩, keeps_and (keeps_blk _ _) (keeps_and (keeps_blk _ _) (keeps_and (keeps_C _ _ _ _) (keeps_blk _ _)))⟩⟩
  clear HS q9 HT
  clear c0 c1 c2 c3 c4 c5 k0 k1 f0 f1 n1 n2 z0 z1 zf0 zf1 HRW HGE
  generalize ((w3.setCell ⟨w1.heap.size, 0, none⟩ (.int .i64 a)).setCell ⟨w1.heap.size, 1, none⟩ (.int .i64 b)) = W9 at HS9 ⊢
  generalize w1.heap.size = b8 at HS9 ge8 ge9 ⊢
  have HS := HS9
  clear HS9
  have n1 := blk_lt HS.out.now.1
  have n2 := blk_lt HS.out.now.2.1
  have c0 : W9.cell? ⟨w.heap.size, 0, none⟩ = some (.bool false) := HS.out.now.1.cell 0
  have c1 : W9.cell? ⟨w.heap.size, 1, none⟩ = some (.int .i64 x0) := HS.out.now.1.cell 1
  have c2 : W9.cell? ⟨w.heap.size, 2, none⟩ = some (.int .i64 x1) := HS.out.now.1.cell 2
  have c3 : W9.cell? ⟨w.heap.size, 3, none⟩ = some (.int .i64 x2) := HS.out.now.1.cell 3
  have c4 : W9.cell? ⟨w.heap.size, 4, none⟩ = some (.int .i64 x3) := HS.out.now.1.cell 4
  have c5 : W9.cell? ⟨w.heap.size, 5, none⟩ = some (.string s) := HS.out.now.1.cell 5
  have k0 : W9.cell? ⟨w.heap.size + 1, 0, none⟩ = some (.int .i64 0) := HS.out.now.2.1.cell 0
  have f0 := HS.out.now.2.1.frozen 0
  have k1 : W9.cell? ⟨w.heap.size + 1, 1, none⟩ = some (.int .i64 0) := HS.out.now.2.1.cell 1
  have f1 := HS.out.now.2.1.frozen 1
  by_cases h2 : er = 2
  · obtain rfl : ew = 150 := by rw [hew, if_pos h2]
    subst h2
    clear hew
    go_wp2
    all_goals try (go_step3; go_wp2)
    first | rw [Exit.noGoto_ret] | skip
    refine bodyPost_ret (v := .tuple #[.agg #[.int .i64 0, .int .i64 0], .slice none 0 0, .int .i64 150]) (by simp [results, Try.results59, go_sem, *]) rfl ⟨_, rfl, Kd.R_nil _ _ _ _ _, ?_⟩
    have hS := HS.out.bel
    repeat (first | exact hS | apply below_alloc | apply pw_below_drewN | apply below_drew1 | refine Below.setCell ?_ (by simp) _)
  · obtain rfl : ew = er := by rw [hew, if_neg h2]
    have z2 : (ew == 2) = false := beq_eq_false_iff_ne.mpr h2
    clear hew h2
    go_wp2
    all_goals try (go_step3; go_wp2)
    first | rw [Exit.noGoto_ret] | skip
    refine bodyPost_ret (v := .tuple #[.agg #[.int .i64 0, .int .i64 0], .slice none 0 0, .int .i64 ew]) (by simp [results, Try.results59, go_sem, *]) rfl ⟨_, rfl, Kd.R_nil _ _ _ _ _, ?_⟩
    have hS := HS.out.bel
    repeat (first | exact hS | apply below_alloc | apply pw_below_drewN | apply below_drew1 | refine Below.setCell ?_ (by simp) _)
set_option maxRecDepth 100000 in
set_option maxHeartbeats 2000000 in
theorem change_range_no (A : Option Addr) (c : Nat) (l : List Int) (x0 x1 x2 x3 : Int) (s : ByteArray) (w : World) (hr : Kd.C (Kd.int .u8) w A l.length l) (hc : l.length ≤ c) (hB : Bytes l) (hs : l.length ≤ 1048576) (hs2 : s.size ≤ 140737488351232) (hn : A = none → c = 0) (hx1 : x1 ≤ 9223372036854775807) (hx3 : x3 ≤ 9223372036854775807) (hl : (chk l).2 = 0) (ht : (chk (bytesOf s)).2 = 0) (a b : Int) (hma : (msp l x0 x1 x2 x3).1 = a) (hmb : (msp l x0 x1 x2 x3).2.1 = b) (hme : (msp l x0 x1 x2 x3).2.2 = 0) (ha0 : 0 ≤ a) (hab : a ≤ b) (hbl : b ≤ l.length) (hlim : 8192 < (l.length : Int) - (b - a) + s.size) :
    Calls Try.prog 59 #[.slice A l.length c, .agg #[.bool false, .int .i64 x0, .int .i64 x1, .int .i64 x2, .int .i64 x3, .string s]] w fun e w' => ∃ v : Value, e = .returned (.tuple #[.agg #[.int .i64 0, .int .i64 0], v, .int .i64 5]) ∧ Kd.R (Kd.int .u8) 5 w' w.heap.size (fun _ => True) v [] ∧ Below w.heap.size w w' := by
  have HRW := Aside0.mk hr
  have hb1 := below_alloc (Below.refl _ w) (.cells #[.bool false, .int .i64 x0, .int .i64 x1, .int .i64 x2, .int .i64 x3, .string s] 29)
  have hb2 : Below (w.alloc (.cells #[.bool false, .int .i64 x0, .int .i64 x1, .int .i64 x2, .int .i64 x3, .string s] 29)).heap.size (w.alloc (.cells #[.bool false, .int .i64 x0, .int .i64 x1, .int .i64 x2, .int .i64 x3, .string s] 29)) ((w.alloc (.cells #[.bool false, .int .i64 x0, .int .i64 x1, .int .i64 x2, .int .i64 x3, .string s] 29)).alloc (.cells #[.int .i64 0, .int .i64 0] 44)) := below_alloc (Below.refl _ _) _
  have hg : IsBlk ((w.alloc (.cells #[.bool false, .int .i64 x0, .int .i64 x1, .int .i64 x2, .int .i64 x3, .string s] 29)).alloc (.cells #[.int .i64 0, .int .i64 0] 44)) (w.alloc (.cells #[.bool false, .int .i64 x0, .int .i64 x1, .int .i64 x2, .int .i64 x3, .string s] 29)).heap.size (.cells #[.int .i64 0, .int .i64 0] 44) := blk_new _ _
  rw [World.size_alloc] at hg
  have HS : Aside0 (Sta w ((w.alloc (.cells #[.bool false, .int .i64 x0, .int .i64 x1, .int .i64 x2, .int .i64 x3, .string s] 29)).alloc (.cells #[.int .i64 0, .int .i64 0] 44)) (fun W => IsBlk W w.heap.size (.cells #[.bool false, .int .i64 x0, .int .i64 x1, .int .i64 x2, .int .i64 x3, .string s] 29) ∧ IsBlk W (w.heap.size + 1) (.cells #[.int .i64 0, .int .i64 0] 44) ∧ Kd.C (Kd.int .u8) W A l.length l)) := ⟨⟨below_step hb1 hb2, ⟨IsBlk.below (blk_new w _) hb2, hg, Kd.C_below (Kd.C_below hr hb1) hb2⟩, keeps_and (keeps_blk _ _) (keeps_and (keeps_blk _ _) (keeps_C _ _ _ _))⟩⟩
  clear hb1 hb2 hg hr
  have n1 := blk_lt HS.out.now.1
  have n2 := blk_lt HS.out.now.2.1
  have c0 : ((w.alloc (.cells #[.bool false, .int .i64 x0, .int .i64 x1, .int .i64 x2, .int .i64 x3, .string s] 29)).alloc (.cells #[.int .i64 0, .int .i64 0] 44)).cell? ⟨w.heap.size, 0, none⟩ = some (.bool false) := HS.out.now.1.cell 0
  have c1 : ((w.alloc (.cells #[.bool false, .int .i64 x0, .int .i64 x1, .int .i64 x2, .int .i64 x3, .string s] 29)).alloc (.cells #[.int .i64 0, .int .i64 0] 44)).cell? ⟨w.heap.size, 1, none⟩ = some (.int .i64 x0) := HS.out.now.1.cell 1
  have c2 : ((w.alloc (.cells #[.bool false, .int .i64 x0, .int .i64 x1, .int .i64 x2, .int .i64 x3, .string s] 29)).alloc (.cells #[.int .i64 0, .int .i64 0] 44)).cell? ⟨w.heap.size, 2, none⟩ = some (.int .i64 x1) := HS.out.now.1.cell 2
  have c3 : ((w.alloc (.cells #[.bool false, .int .i64 x0, .int .i64 x1, .int .i64 x2, .int .i64 x3, .string s] 29)).alloc (.cells #[.int .i64 0, .int .i64 0] 44)).cell? ⟨w.heap.size, 3, none⟩ = some (.int .i64 x2) := HS.out.now.1.cell 3
  have c4 : ((w.alloc (.cells #[.bool false, .int .i64 x0, .int .i64 x1, .int .i64 x2, .int .i64 x3, .string s] 29)).alloc (.cells #[.int .i64 0, .int .i64 0] 44)).cell? ⟨w.heap.size, 4, none⟩ = some (.int .i64 x3) := HS.out.now.1.cell 4
  have c5 : ((w.alloc (.cells #[.bool false, .int .i64 x0, .int .i64 x1, .int .i64 x2, .int .i64 x3, .string s] 29)).alloc (.cells #[.int .i64 0, .int .i64 0] 44)).cell? ⟨w.heap.size, 5, none⟩ = some (.string s) := HS.out.now.1.cell 5
  have k0 : ((w.alloc (.cells #[.bool false, .int .i64 x0, .int .i64 x1, .int .i64 x2, .int .i64 x3, .string s] 29)).alloc (.cells #[.int .i64 0, .int .i64 0] 44)).cell? ⟨w.heap.size + 1, 0, none⟩ = some (.int .i64 0) := HS.out.now.2.1.cell 0
  have f0 := HS.out.now.2.1.frozen 0
  have k1 : ((w.alloc (.cells #[.bool false, .int .i64 x0, .int .i64 x1, .int .i64 x2, .int .i64 x3, .string s] 29)).alloc (.cells #[.int .i64 0, .int .i64 0] 44)).cell? ⟨w.heap.size + 1, 1, none⟩ = some (.int .i64 0) := HS.out.now.2.1.cell 1
  have f1 := HS.out.now.2.1.frozen 1
  have kb := fun W : World => print_bytes (P := Try.prog) 9 22 5 Try.underlying9 Try.underlying22 Try.underlying5 s W
  have HT := Aside0.mk (texts2_f l (bytesOf s) hB (bytesOf_B s) hs (by rw [bytesOf_length]; exact hs2))
  have HC := Aside0.mk hc
  have HBY := Aside0.mk hB
  clear hc hB
  have hkk := Check_f l HBY.out hs (Nat.lt_succ_self _)
  have hv := (chk_V HBY.out).1 hl
  rw [show chk l = ((chk l).1, 0) from Prod.ext rfl hl] at hkk
  rw [hl, ht, if_neg (by simp)] at HT
  have HV := Aside0.mk hv
  have HK := Aside0.mk hkk
  have HMA := Aside0.mk hma
  have HMB := Aside0.mk hmb
  have HME := Aside0.mk hme
  clear hkk hv hma hmb hme hl ht
  go_enter Try.func59, Try.ntmps59
  go_upto_region 9 with (first | (go_at_call 51; refine (edit_texts.calls _ _ _ [l, bytesOf s] _ _ (row2_Cm _ _ _ _ _ l (bytesOf s) s.size (bytesOf_length s) (HS.out.step (by repeat (first | exact Below.refl _ _ | apply below_alloc | apply pw_below_drewN | apply below_drew1 | apply bytes_step))).now.2.2 HC.out (bytes_at _ _ s _ (by simp) (by omega)) (grownCap_ge _ _ _ _) _) (Nat.le_refl _) HT.out).mono ?_; rintro e w1 ⟨rfl, hd⟩; have hb := hd.below; clear hd; have m_ := Aside0.mk (HS.out.call (by repeat (first | exact Below.refl _ _ | apply below_alloc | apply pw_below_drewN | apply below_drew1 | apply bytes_step)) hb); clear HS hb ; have HS := m_; clear m_; have n1 := blk_lt HS.out.now.1; have n2 := blk_lt HS.out.now.2.1; have c0 : w1.cell? ⟨w.heap.size, 0, none⟩ = some (.bool false) := HS.out.now.1.cell 0; have c0a := cell_alloc1 c0; have c1 : w1.cell? ⟨w.heap.size, 1, none⟩ = some (.int .i64 x0) := HS.out.now.1.cell 1; have c1a := cell_alloc1 c1; have c2 : w1.cell? ⟨w.heap.size, 2, none⟩ = some (.int .i64 x1) := HS.out.now.1.cell 2; have c2a := cell_alloc1 c2; have c3 : w1.cell? ⟨w.heap.size, 3, none⟩ = some (.int .i64 x2) := HS.out.now.1.cell 3; have c3a := cell_alloc1 c3; have c4 : w1.cell? ⟨w.heap.size, 4, none⟩ = some (.int .i64 x3) := HS.out.now.1.cell 4; have c4a := cell_alloc1 c4; have c5 : w1.cell? ⟨w.heap.size, 5, none⟩ = some (.string s) := HS.out.now.1.cell 5; have c5a := cell_alloc1 c5; have k0 : w1.cell? ⟨w.heap.size + 1, 0, none⟩ = some (.int .i64 0) := HS.out.now.2.1.cell 0; have f0 := HS.out.now.2.1.frozen 0; have k0a := cell_alloc1 k0; have f0a := froz_alloc1 k0 f0; have k1 : w1.cell? ⟨w.heap.size + 1, 1, none⟩ = some (.int .i64 0) := HS.out.now.2.1.cell 1; have f1 := HS.out.now.2.1.frozen 1; have k1a := cell_alloc1 k1; have f1a := froz_alloc1 k1 f1; have HGE := Aside0.mk n2) | (go_at_call 25; refine (MNew_ok _ A c l _ _ (HS.out.step (by repeat (first | exact Below.refl _ _ | apply below_alloc | apply pw_below_drewN | apply below_drew1 | apply bytes_step))).now.2.2 HC.out hn HK.out hs).mono ?_; rintro e w2 ⟨m, rfl, hM, hb⟩; have hbx := IsBlk.below (blk_new w1 (.cells #[.int .i64 0, .int .i64 l.length] 44)) hb; have m_ := Aside0.mk (((HS.out.call (by repeat (first | exact Below.refl _ _ | apply below_alloc | apply pw_below_drewN | apply below_drew1 | apply bytes_step)) hb).add hbx (keeps_blk _ _)).add hM (keeps_map _ _)); clear HS hb hbx hM; have HS := m_; clear m_; have n1 := blk_lt HS.out.now.2.2.1; have n2 := blk_lt HS.out.now.2.2.2.1; have c0 : w2.cell? ⟨w.heap.size, 0, none⟩ = some (.bool false) := HS.out.now.2.2.1.cell 0; have c1 : w2.cell? ⟨w.heap.size, 1, none⟩ = some (.int .i64 x0) := HS.out.now.2.2.1.cell 1; have c2 : w2.cell? ⟨w.heap.size, 2, none⟩ = some (.int .i64 x1) := HS.out.now.2.2.1.cell 2; have c3 : w2.cell? ⟨w.heap.size, 3, none⟩ = some (.int .i64 x2) := HS.out.now.2.2.1.cell 3; have c4 : w2.cell? ⟨w.heap.size, 4, none⟩ = some (.int .i64 x3) := HS.out.now.2.2.1.cell 4; have c5 : w2.cell? ⟨w.heap.size, 5, none⟩ = some (.string s) := HS.out.now.2.2.1.cell 5; have k0 : w2.cell? ⟨w.heap.size + 1, 0, none⟩ = some (.int .i64 0) := HS.out.now.2.2.2.1.cell 0; have f0 := HS.out.now.2.2.2.1.frozen 0; have k1 : w2.cell? ⟨w.heap.size + 1, 1, none⟩ = some (.int .i64 0) := HS.out.now.2.2.2.1.cell 1; have f1 := HS.out.now.2.2.2.1.frozen 1) | (go_at_call 26; refine (MSpan_is m l x0 x1 x2 x3 _ (HS.out.step (by repeat (first | exact Below.refl _ _ | apply below_alloc | apply pw_below_drewN | apply below_drew1 | apply bytes_step))).now.1 hs HBY.out HV.out hx1 hx3).mono ?_; rintro e w3 ⟨rfl, hb⟩; rw [HMA.out, HMB.out, HME.out]; have m_ := Aside0.mk (HS.out.call (by repeat (first | exact Below.refl _ _ | apply below_alloc | apply pw_below_drewN | apply below_drew1 | apply bytes_step)) hb); clear HS hb ; have HS := m_; clear m_; have n1 := blk_lt HS.out.now.2.2.1; have n2 := blk_lt HS.out.now.2.2.2.1; have c0 : w3.cell? ⟨w.heap.size, 0, none⟩ = some (.bool false) := HS.out.now.2.2.1.cell 0; have c1 : w3.cell? ⟨w.heap.size, 1, none⟩ = some (.int .i64 x0) := HS.out.now.2.2.1.cell 1; have c2 : w3.cell? ⟨w.heap.size, 2, none⟩ = some (.int .i64 x1) := HS.out.now.2.2.1.cell 2; have c3 : w3.cell? ⟨w.heap.size, 3, none⟩ = some (.int .i64 x2) := HS.out.now.2.2.1.cell 3; have c4 : w3.cell? ⟨w.heap.size, 4, none⟩ = some (.int .i64 x3) := HS.out.now.2.2.1.cell 4; have c5 : w3.cell? ⟨w.heap.size, 5, none⟩ = some (.string s) := HS.out.now.2.2.1.cell 5; have k0 : w3.cell? ⟨w.heap.size + 1, 0, none⟩ = some (.int .i64 0) := HS.out.now.2.2.2.1.cell 0; have f0 := HS.out.now.2.2.2.1.frozen 0; have k1 : w3.cell? ⟨w.heap.size + 1, 1, none⟩ = some (.int .i64 0) := HS.out.now.2.2.2.1.cell 1; have f1 := HS.out.now.2.2.2.1.frozen 1; have z0 : w3.cell? ⟨w1.heap.size, 0, none⟩ = some (.int .i64 0) := HS.out.now.2.1.cell 0; have z1 : w3.cell? ⟨w1.heap.size, 1, none⟩ = some (.int .i64 l.length) := HS.out.now.2.1.cell 1; have zf0 := HS.out.now.2.1.frozen 0; have zf1 := HS.out.now.2.1.frozen 1))
  have ge8 : w.heap.size + 1 < w1.heap.size := HGE.out
  have ge9 : w.heap.size < w1.heap.size := Nat.lt_of_succ_lt ge8
  have q9 : Below w.heap.size w ((w3.setCell ⟨w1.heap.size, 0, none⟩ (.int .i64 a)).setCell ⟨w1.heap.size, 1, none⟩ (.int .i64 b)) := (HS.out.bel.setCell (Nat.le_of_lt ge9) _).setCell (Nat.le_of_lt ge9) _
  have HS9 : Aside0 (Sta w ((w3.setCell ⟨w1.heap.size, 0, none⟩ (.int .i64 a)).setCell ⟨w1.heap.size, 1, none⟩ (.int .i64 b)) (fun W => IsBlk W w.heap.size (.cells #[.bool false, .int .i64 x0, .int .i64 x1, .int .i64 x2, .int .i64 x3, .string s] 29) ∧ IsBlk W (w.heap.size + 1) (.cells #[.int .i64 0, .int .i64 0] 44) ∧ Kd.C (Kd.int .u8) W A l.length l ∧ IsBlk W w1.heap.size (.cells #[.int .i64 a, .int .i64 b] 44 (0, 0)))) := ⟨⟨q9, ⟨(HS.out.now.2.2.1.other (Nat.ne_of_lt ge9) _).other (Nat.ne_of_lt ge9) _, (HS.out.now.2.2.2.1.other (Nat.ne_of_lt ge8) _).other (Nat.ne_of_lt ge8) _, Kd.C_below HRW.out q9, blk2 HS.out.now.2.1 _ _⟩, keeps_and (keeps_blk _ _) (keeps_and (keeps_blk _ _) (keeps_and (keeps_C _ _ _ _) (keeps_blk _ _)))⟩⟩
  clear HS q9 HT
  clear c0 c1 c2 c3 c4 c5 k0 k1 f0 f1 n1 n2 z0 z1 zf0 zf1 HRW HGE
  generalize ((w3.setCell ⟨w1.heap.size, 0, none⟩ (.int .i64 a)).setCell ⟨w1.heap.size, 1, none⟩ (.int .i64 b)) = W9 at HS9 ⊢
  generalize w1.heap.size = b8 at HS9 ge8 ge9 ⊢
  have HS := HS9
  clear HS9
  have n1 := blk_lt HS.out.now.1
  have n2 := blk_lt HS.out.now.2.1
  have c0 : W9.cell? ⟨w.heap.size, 0, none⟩ = some (.bool false) := HS.out.now.1.cell 0
  have c1 : W9.cell? ⟨w.heap.size, 1, none⟩ = some (.int .i64 x0) := HS.out.now.1.cell 1
  have c2 : W9.cell? ⟨w.heap.size, 2, none⟩ = some (.int .i64 x1) := HS.out.now.1.cell 2
  have c3 : W9.cell? ⟨w.heap.size, 3, none⟩ = some (.int .i64 x2) := HS.out.now.1.cell 3
  have c4 : W9.cell? ⟨w.heap.size, 4, none⟩ = some (.int .i64 x3) := HS.out.now.1.cell 4
  have c5 : W9.cell? ⟨w.heap.size, 5, none⟩ = some (.string s) := HS.out.now.1.cell 5
  have k0 : W9.cell? ⟨w.heap.size + 1, 0, none⟩ = some (.int .i64 0) := HS.out.now.2.1.cell 0
  have f0 := HS.out.now.2.1.frozen 0
  have k1 : W9.cell? ⟨w.heap.size + 1, 1, none⟩ = some (.int .i64 0) := HS.out.now.2.1.cell 1
  have f1 := HS.out.now.2.1.frozen 1
  have q0 : W9.cell? ⟨b8, 0, none⟩ = some (.int .i64 a) := HS.out.now.2.2.2.cell 0
  have q1 : W9.cell? ⟨b8, 1, none⟩ = some (.int .i64 b) := HS.out.now.2.2.2.cell 1
  have g9 : decide (8192 < (l.length : Int) - (b - a) + s.size) = true := decide_eq_true (by omega)
  go_wp2
  all_goals try (go_step3; go_wp2)
  first | rw [Exit.noGoto_ret] | skip
  refine bodyPost_ret (v := .tuple #[.agg #[.int .i64 0, .int .i64 0], .slice none 0 0, .int .i64 5]) (by simp [results, Try.results59, go_sem, *]) rfl ⟨_, rfl, Kd.R_nil _ _ _ _ _, ?_⟩
  have hS := HS.out.bel
  repeat (first | exact hS | apply below_alloc | apply pw_below_drewN | apply below_drew1 | refine Below.setCell ?_ (by simp) _)
set_option maxRecDepth 100000 in
set_option maxHeartbeats 2000000 in
theorem change_range_ok (A : Option Addr) (c : Nat) (l : List Int) (x0 x1 x2 x3 : Int) (s : ByteArray) (w : World) (hr : Kd.C (Kd.int .u8) w A l.length l) (hc : l.length ≤ c) (hB : Bytes l) (hs : l.length ≤ 1048576) (hs2 : s.size ≤ 140737488351232) (hn : A = none → c = 0) (hx1 : x1 ≤ 9223372036854775807) (hx3 : x3 ≤ 9223372036854775807) (hl : (chk l).2 = 0) (ht : (chk (bytesOf s)).2 = 0) (a b : Int) (hma : (msp l x0 x1 x2 x3).1 = a) (hmb : (msp l x0 x1 x2 x3).2.1 = b) (hme : (msp l x0 x1 x2 x3).2.2 = 0) (ha0 : 0 ≤ a) (hab : a ≤ b) (hbl : b ≤ l.length) (hlim : ¬ 8192 < (l.length : Int) - (b - a) + s.size) :
    Calls Try.prog 59 #[.slice A l.length c, .agg #[.bool false, .int .i64 x0, .int .i64 x1, .int .i64 x2, .int .i64 x3, .string s]] w fun e w' => ∃ v : Value, e = .returned (.tuple #[.agg #[.int .i64 a, .int .i64 b], v, .int .i64 0]) ∧ Kd.R (Kd.int .u8) 5 w' w.heap.size (fun _ => True) v (l.take a.toNat ++ bytesOf s ++ l.drop b.toNat) ∧ Below w.heap.size w w' := by
  have HRW := Aside0.mk hr
  have hb1 := below_alloc (Below.refl _ w) (.cells #[.bool false, .int .i64 x0, .int .i64 x1, .int .i64 x2, .int .i64 x3, .string s] 29)
  have hb2 : Below (w.alloc (.cells #[.bool false, .int .i64 x0, .int .i64 x1, .int .i64 x2, .int .i64 x3, .string s] 29)).heap.size (w.alloc (.cells #[.bool false, .int .i64 x0, .int .i64 x1, .int .i64 x2, .int .i64 x3, .string s] 29)) ((w.alloc (.cells #[.bool false, .int .i64 x0, .int .i64 x1, .int .i64 x2, .int .i64 x3, .string s] 29)).alloc (.cells #[.int .i64 0, .int .i64 0] 44)) := below_alloc (Below.refl _ _) _
  have hg : IsBlk ((w.alloc (.cells #[.bool false, .int .i64 x0, .int .i64 x1, .int .i64 x2, .int .i64 x3, .string s] 29)).alloc (.cells #[.int .i64 0, .int .i64 0] 44)) (w.alloc (.cells #[.bool false, .int .i64 x0, .int .i64 x1, .int .i64 x2, .int .i64 x3, .string s] 29)).heap.size (.cells #[.int .i64 0, .int .i64 0] 44) := blk_new _ _
  rw [World.size_alloc] at hg
  have HS : Aside0 (Sta w ((w.alloc (.cells #[.bool false, .int .i64 x0, .int .i64 x1, .int .i64 x2, .int .i64 x3, .string s] 29)).alloc (.cells #[.int .i64 0, .int .i64 0] 44)) (fun W => IsBlk W w.heap.size (.cells #[.bool false, .int .i64 x0, .int .i64 x1, .int .i64 x2, .int .i64 x3, .string s] 29) ∧ IsBlk W (w.heap.size + 1) (.cells #[.int .i64 0, .int .i64 0] 44) ∧ Kd.C (Kd.int .u8) W A l.length l)) := ⟨⟨below_step hb1 hb2, ⟨IsBlk.below (blk_new w _) hb2, hg, Kd.C_below (Kd.C_below hr hb1) hb2⟩, keeps_and (keeps_blk _ _) (keeps_and (keeps_blk _ _) (keeps_C _ _ _ _))⟩⟩
  clear hb1 hb2 hg hr
  have n1 := blk_lt HS.out.now.1
  have n2 := blk_lt HS.out.now.2.1
  have c0 : ((w.alloc (.cells #[.bool false, .int .i64 x0, .int .i64 x1, .int .i64 x2, .int .i64 x3, .string s] 29)).alloc (.cells #[.int .i64 0, .int .i64 0] 44)).cell? ⟨w.heap.size, 0, none⟩ = some (.bool false) := HS.out.now.1.cell 0
  have c1 : ((w.alloc (.cells #[.bool false, .int .i64 x0, .int .i64 x1, .int .i64 x2, .int .i64 x3, .string s] 29)).alloc (.cells #[.int .i64 0, .int .i64 0] 44)).cell? ⟨w.heap.size, 1, none⟩ = some (.int .i64 x0) := HS.out.now.1.cell 1
  have c2 : ((w.alloc (.cells #[.bool false, .int .i64 x0, .int .i64 x1, .int .i64 x2, .int .i64 x3, .string s] 29)).alloc (.cells #[.int .i64 0, .int .i64 0] 44)).cell? ⟨w.heap.size, 2, none⟩ = some (.int .i64 x1) := HS.out.now.1.cell 2
  have c3 : ((w.alloc (.cells #[.bool false, .int .i64 x0, .int .i64 x1, .int .i64 x2, .int .i64 x3, .string s] 29)).alloc (.cells #[.int .i64 0, .int .i64 0] 44)).cell? ⟨w.heap.size, 3, none⟩ = some (.int .i64 x2) := HS.out.now.1.cell 3
  have c4 : ((w.alloc (.cells #[.bool false, .int .i64 x0, .int .i64 x1, .int .i64 x2, .int .i64 x3, .string s] 29)).alloc (.cells #[.int .i64 0, .int .i64 0] 44)).cell? ⟨w.heap.size, 4, none⟩ = some (.int .i64 x3) := HS.out.now.1.cell 4
  have c5 : ((w.alloc (.cells #[.bool false, .int .i64 x0, .int .i64 x1, .int .i64 x2, .int .i64 x3, .string s] 29)).alloc (.cells #[.int .i64 0, .int .i64 0] 44)).cell? ⟨w.heap.size, 5, none⟩ = some (.string s) := HS.out.now.1.cell 5
  have k0 : ((w.alloc (.cells #[.bool false, .int .i64 x0, .int .i64 x1, .int .i64 x2, .int .i64 x3, .string s] 29)).alloc (.cells #[.int .i64 0, .int .i64 0] 44)).cell? ⟨w.heap.size + 1, 0, none⟩ = some (.int .i64 0) := HS.out.now.2.1.cell 0
  have f0 := HS.out.now.2.1.frozen 0
  have k1 : ((w.alloc (.cells #[.bool false, .int .i64 x0, .int .i64 x1, .int .i64 x2, .int .i64 x3, .string s] 29)).alloc (.cells #[.int .i64 0, .int .i64 0] 44)).cell? ⟨w.heap.size + 1, 1, none⟩ = some (.int .i64 0) := HS.out.now.2.1.cell 1
  have f1 := HS.out.now.2.1.frozen 1
  have kb := fun W : World => print_bytes (P := Try.prog) 9 22 5 Try.underlying9 Try.underlying22 Try.underlying5 s W
  have HT := Aside0.mk (texts2_f l (bytesOf s) hB (bytesOf_B s) hs (by rw [bytesOf_length]; exact hs2))
  have HC := Aside0.mk hc
  have HBY := Aside0.mk hB
  clear hc hB
  have hkk := Check_f l HBY.out hs (Nat.lt_succ_self _)
  have hv := (chk_V HBY.out).1 hl
  rw [show chk l = ((chk l).1, 0) from Prod.ext rfl hl] at hkk
  rw [hl, ht, if_neg (by simp)] at HT
  have HV := Aside0.mk hv
  have HK := Aside0.mk hkk
  have HMA := Aside0.mk hma
  have HMB := Aside0.mk hmb
  have HME := Aside0.mk hme
  clear hkk hv hma hmb hme hl ht
  go_enter Try.func59, Try.ntmps59
  go_upto_region 9 with (first | (go_at_call 51; refine (edit_texts.calls _ _ _ [l, bytesOf s] _ _ (row2_Cm _ _ _ _ _ l (bytesOf s) s.size (bytesOf_length s) (HS.out.step (by repeat (first | exact Below.refl _ _ | apply below_alloc | apply pw_below_drewN | apply below_drew1 | apply bytes_step))).now.2.2 HC.out (bytes_at _ _ s _ (by simp) (by omega)) (grownCap_ge _ _ _ _) _) (Nat.le_refl _) HT.out).mono ?_; rintro e w1 ⟨rfl, hd⟩; have hb := hd.below; clear hd; have m_ := Aside0.mk (HS.out.call (by repeat (first | exact Below.refl _ _ | apply below_alloc | apply pw_below_drewN | apply below_drew1 | apply bytes_step)) hb); clear HS hb ; have HS := m_; clear m_; have n1 := blk_lt HS.out.now.1; have n2 := blk_lt HS.out.now.2.1; have c0 : w1.cell? ⟨w.heap.size, 0, none⟩ = some (.bool false) := HS.out.now.1.cell 0; have c0a := cell_alloc1 c0; have c1 : w1.cell? ⟨w.heap.size, 1, none⟩ = some (.int .i64 x0) := HS.out.now.1.cell 1; have c1a := cell_alloc1 c1; have c2 : w1.cell? ⟨w.heap.size, 2, none⟩ = some (.int .i64 x1) := HS.out.now.1.cell 2; have c2a := cell_alloc1 c2; have c3 : w1.cell? ⟨w.heap.size, 3, none⟩ = some (.int .i64 x2) := HS.out.now.1.cell 3; have c3a := cell_alloc1 c3; have c4 : w1.cell? ⟨w.heap.size, 4, none⟩ = some (.int .i64 x3) := HS.out.now.1.cell 4; have c4a := cell_alloc1 c4; have c5 : w1.cell? ⟨w.heap.size, 5, none⟩ = some (.string s) := HS.out.now.1.cell 5; have c5a := cell_alloc1 c5; have k0 : w1.cell? ⟨w.heap.size + 1, 0, none⟩ = some (.int .i64 0) := HS.out.now.2.1.cell 0; have f0 := HS.out.now.2.1.frozen 0; have k0a := cell_alloc1 k0; have f0a := froz_alloc1 k0 f0; have k1 : w1.cell? ⟨w.heap.size + 1, 1, none⟩ = some (.int .i64 0) := HS.out.now.2.1.cell 1; have f1 := HS.out.now.2.1.frozen 1; have k1a := cell_alloc1 k1; have f1a := froz_alloc1 k1 f1; have HGE := Aside0.mk n2) | (go_at_call 25; refine (MNew_ok _ A c l _ _ (HS.out.step (by repeat (first | exact Below.refl _ _ | apply below_alloc | apply pw_below_drewN | apply below_drew1 | apply bytes_step))).now.2.2 HC.out hn HK.out hs).mono ?_; rintro e w2 ⟨m, rfl, hM, hb⟩; have hbx := IsBlk.below (blk_new w1 (.cells #[.int .i64 0, .int .i64 l.length] 44)) hb; have m_ := Aside0.mk (((HS.out.call (by repeat (first | exact Below.refl _ _ | apply below_alloc | apply pw_below_drewN | apply below_drew1 | apply bytes_step)) hb).add hbx (keeps_blk _ _)).add hM (keeps_map _ _)); clear HS hb hbx hM; have HS := m_; clear m_; have n1 := blk_lt HS.out.now.2.2.1; have n2 := blk_lt HS.out.now.2.2.2.1; have c0 : w2.cell? ⟨w.heap.size, 0, none⟩ = some (.bool false) := HS.out.now.2.2.1.cell 0; have c1 : w2.cell? ⟨w.heap.size, 1, none⟩ = some (.int .i64 x0) := HS.out.now.2.2.1.cell 1; have c2 : w2.cell? ⟨w.heap.size, 2, none⟩ = some (.int .i64 x1) := HS.out.now.2.2.1.cell 2; have c3 : w2.cell? ⟨w.heap.size, 3, none⟩ = some (.int .i64 x2) := HS.out.now.2.2.1.cell 3; have c4 : w2.cell? ⟨w.heap.size, 4, none⟩ = some (.int .i64 x3) := HS.out.now.2.2.1.cell 4; have c5 : w2.cell? ⟨w.heap.size, 5, none⟩ = some (.string s) := HS.out.now.2.2.1.cell 5; have k0 : w2.cell? ⟨w.heap.size + 1, 0, none⟩ = some (.int .i64 0) := HS.out.now.2.2.2.1.cell 0; have f0 := HS.out.now.2.2.2.1.frozen 0; have k1 : w2.cell? ⟨w.heap.size + 1, 1, none⟩ = some (.int .i64 0) := HS.out.now.2.2.2.1.cell 1; have f1 := HS.out.now.2.2.2.1.frozen 1) | (go_at_call 26; refine (MSpan_is m l x0 x1 x2 x3 _ (HS.out.step (by repeat (first | exact Below.refl _ _ | apply below_alloc | apply pw_below_drewN | apply below_drew1 | apply bytes_step))).now.1 hs HBY.out HV.out hx1 hx3).mono ?_; rintro e w3 ⟨rfl, hb⟩; rw [HMA.out, HMB.out, HME.out]; have m_ := Aside0.mk (HS.out.call (by repeat (first | exact Below.refl _ _ | apply below_alloc | apply pw_below_drewN | apply below_drew1 | apply bytes_step)) hb); clear HS hb ; have HS := m_; clear m_; have n1 := blk_lt HS.out.now.2.2.1; have n2 := blk_lt HS.out.now.2.2.2.1; have c0 : w3.cell? ⟨w.heap.size, 0, none⟩ = some (.bool false) := HS.out.now.2.2.1.cell 0; have c1 : w3.cell? ⟨w.heap.size, 1, none⟩ = some (.int .i64 x0) := HS.out.now.2.2.1.cell 1; have c2 : w3.cell? ⟨w.heap.size, 2, none⟩ = some (.int .i64 x1) := HS.out.now.2.2.1.cell 2; have c3 : w3.cell? ⟨w.heap.size, 3, none⟩ = some (.int .i64 x2) := HS.out.now.2.2.1.cell 3; have c4 : w3.cell? ⟨w.heap.size, 4, none⟩ = some (.int .i64 x3) := HS.out.now.2.2.1.cell 4; have c5 : w3.cell? ⟨w.heap.size, 5, none⟩ = some (.string s) := HS.out.now.2.2.1.cell 5; have k0 : w3.cell? ⟨w.heap.size + 1, 0, none⟩ = some (.int .i64 0) := HS.out.now.2.2.2.1.cell 0; have f0 := HS.out.now.2.2.2.1.frozen 0; have k1 : w3.cell? ⟨w.heap.size + 1, 1, none⟩ = some (.int .i64 0) := HS.out.now.2.2.2.1.cell 1; have f1 := HS.out.now.2.2.2.1.frozen 1; have z0 : w3.cell? ⟨w1.heap.size, 0, none⟩ = some (.int .i64 0) := HS.out.now.2.1.cell 0; have z1 : w3.cell? ⟨w1.heap.size, 1, none⟩ = some (.int .i64 l.length) := HS.out.now.2.1.cell 1; have zf0 := HS.out.now.2.1.frozen 0; have zf1 := HS.out.now.2.1.frozen 1))
  have ge8 : w.heap.size + 1 < w1.heap.size := HGE.out
  have ge9 : w.heap.size < w1.heap.size := Nat.lt_of_succ_lt ge8
  have q9 : Below w.heap.size w ((w3.setCell ⟨w1.heap.size, 0, none⟩ (.int .i64 a)).setCell ⟨w1.heap.size, 1, none⟩ (.int .i64 b)) := (HS.out.bel.setCell (Nat.le_of_lt ge9) _).setCell (Nat.le_of_lt ge9) _
  have HS9 : Aside0 (Sta w ((w3.setCell ⟨w1.heap.size, 0, none⟩ (.int .i64 a)).setCell ⟨w1.heap.size, 1, none⟩ (.int .i64 b)) (fun W => IsBlk W w.heap.size (.cells #[.bool false, .int .i64 x0, .int .i64 x1, .int .i64 x2, .int .i64 x3, .string s] 29) ∧ IsBlk W (w.heap.size + 1) (.cells #[.int .i64 0, .int .i64 0] 44) ∧ Kd.C (Kd.int .u8) W A l.length l ∧ IsBlk W w1.heap.size (.cells #[.int .i64 a, .int .i64 b] 44 (0, 0)))) := ⟨⟨q9, ⟨(HS.out.now.2.2.1.other (Nat.ne_of_lt ge9) _).other (Nat.ne_of_lt ge9) _, (HS.out.now.2.2.2.1.other (Nat.ne_of_lt ge8) _).other (Nat.ne_of_lt ge8) _, Kd.C_below HRW.out q9, blk2 HS.out.now.2.1 _ _⟩, keeps_and (keeps_blk _ _) (keeps_and (keeps_blk _ _) (keeps_and (keeps_C _ _ _ _) (keeps_blk _ _)))⟩⟩
  clear HS q9 HT
  clear c0 c1 c2 c3 c4 c5 k0 k1 f0 f1 n1 n2 z0 z1 zf0 zf1 HRW HGE
  generalize ((w3.setCell ⟨w1.heap.size, 0, none⟩ (.int .i64 a)).setCell ⟨w1.heap.size, 1, none⟩ (.int .i64 b)) = W9 at HS9 ⊢
  generalize w1.heap.size = b8 at HS9 ge8 ge9 ⊢
  have HS := HS9
  clear HS9
  have n1 := blk_lt HS.out.now.1
  have n2 := blk_lt HS.out.now.2.1
  have c0 : W9.cell? ⟨w.heap.size, 0, none⟩ = some (.bool false) := HS.out.now.1.cell 0
  have c1 : W9.cell? ⟨w.heap.size, 1, none⟩ = some (.int .i64 x0) := HS.out.now.1.cell 1
  have c2 : W9.cell? ⟨w.heap.size, 2, none⟩ = some (.int .i64 x1) := HS.out.now.1.cell 2
  have c3 : W9.cell? ⟨w.heap.size, 3, none⟩ = some (.int .i64 x2) := HS.out.now.1.cell 3
  have c4 : W9.cell? ⟨w.heap.size, 4, none⟩ = some (.int .i64 x3) := HS.out.now.1.cell 4
  have c5 : W9.cell? ⟨w.heap.size, 5, none⟩ = some (.string s) := HS.out.now.1.cell 5
  have k0 : W9.cell? ⟨w.heap.size + 1, 0, none⟩ = some (.int .i64 0) := HS.out.now.2.1.cell 0
  have f0 := HS.out.now.2.1.frozen 0
  have k1 : W9.cell? ⟨w.heap.size + 1, 1, none⟩ = some (.int .i64 0) := HS.out.now.2.1.cell 1
  have f1 := HS.out.now.2.1.frozen 1
  have q0 : W9.cell? ⟨b8, 0, none⟩ = some (.int .i64 a) := HS.out.now.2.2.2.cell 0
  have q1 : W9.cell? ⟨b8, 1, none⟩ = some (.int .i64 b) := HS.out.now.2.2.2.cell 1
  have g9 : decide (8192 < (l.length : Int) - (b - a) + s.size) = false := decide_eq_false (by omega)
  have e1 := Nat.ne_of_lt ge8
  have e2 := Ne.symm e1
  have e3 := Nat.ne_of_lt ge9
  have e4 := Ne.symm e3
  go_upto_region 16 with (fail)
  go_region_held3 (fun wx => wx.cell? ⟨b8, 0, none⟩ = some (.int .i64 a) ∧ wx.cell? ⟨b8, 1, none⟩ = some (.int .i64 b) ∧ wx.cell? ⟨w.heap.size, 5, none⟩ = some (.string s)) (go_keep) ((go_at_call 86; refine (joined_ok A c l a b s _ (HS.out.step (by repeat (first | exact Below.refl _ _ | apply below_alloc | apply pw_below_drewN | apply below_drew1 | apply bytes_step))).now.2.2.1 HC.out ha0 hab hbl (by omega)).mono ?_; rintro e w5 ⟨v, rfl, hR, hb⟩; have HRR := Aside0.mk (Kd.R_lower hR (blk_lt (HS.out.step (by repeat (first | exact Below.refl _ _ | apply below_alloc | apply pw_below_drewN | apply below_drew1 | apply bytes_step))).now.2.1)); clear hR; have m_ := Aside0.mk (HS.out.call (by repeat (first | exact Below.refl _ _ | apply below_alloc | apply pw_below_drewN | apply below_drew1 | apply bytes_step)) hb); clear HS hb ; have HS := m_; clear m_; have n1 := blk_lt HS.out.now.1; have n2 := blk_lt HS.out.now.2.1; have c0 : w5.cell? ⟨w.heap.size, 0, none⟩ = some (.bool false) := HS.out.now.1.cell 0; have c1 : w5.cell? ⟨w.heap.size, 1, none⟩ = some (.int .i64 x0) := HS.out.now.1.cell 1; have c2 : w5.cell? ⟨w.heap.size, 2, none⟩ = some (.int .i64 x1) := HS.out.now.1.cell 2; have c3 : w5.cell? ⟨w.heap.size, 3, none⟩ = some (.int .i64 x2) := HS.out.now.1.cell 3; have c4 : w5.cell? ⟨w.heap.size, 4, none⟩ = some (.int .i64 x3) := HS.out.now.1.cell 4; have c5 : w5.cell? ⟨w.heap.size, 5, none⟩ = some (.string s) := HS.out.now.1.cell 5; have k0 : w5.cell? ⟨w.heap.size + 1, 0, none⟩ = some (.int .i64 0) := HS.out.now.2.1.cell 0; have f0 := HS.out.now.2.1.frozen 0; have k1 : w5.cell? ⟨w.heap.size + 1, 1, none⟩ = some (.int .i64 0) := HS.out.now.2.1.cell 1; have f1 := HS.out.now.2.1.frozen 1; have q0 : w5.cell? ⟨b8, 0, none⟩ = some (.int .i64 a) := HS.out.now.2.2.2.cell 0; have q1 : w5.cell? ⟨b8, 1, none⟩ = some (.int .i64 b) := HS.out.now.2.2.2.cell 1))
  all_goals
    go_wp2
    first | rw [Exit.noGoto_ret] | skip
    refine bodyPost_ret (v := .tuple #[.agg #[.int .i64 a, .int .i64 b], v, .int .i64 0]) (by simp [results, Try.results59, go_sem, *]) rfl ⟨v, rfl, Kd.R_lower (r_set (r_set HRR.out (by simp) _) (by simp) _) (by omega), ?_⟩
    have hS := HS.out.bel
    repeat (first | exact hS | apply below_alloc | apply pw_below_drewN | apply below_drew1 | refine Below.setCell ?_ (by simp) _)
theorem zq2 {w W : World} (h : Below w.heap.size w W) (o : Obj) : Below w.heap.size w (W.alloc o) := below_alloc h o
theorem zq3 {n : Nat} {w W : World} (h : Below n w W) (k : Nat) : Below n w (W.drewN k) := pw_below_drewN h k
theorem zq4 {n : Nat} {w W : World} (h : Below n w W) : Below n w W.drew := below_drew1 h
theorem zq5 {w W : World} {e : TypeId} {s : ByteArray} (h : Below w.heap.size w W) : Below w.heap.size w (Lib.bytesWorld W e s) := bytes_step h
theorem change_is (A : Option Addr) (c : Nat) (l : List Int) (wh : Bool) (x0 x1 x2 x3 : Int) (s : ByteArray) (w : World) (hr : Kd.C (Kd.int .u8) w A l.length l) (hc : l.length ≤ c) (hn : A = none → c = 0) (hB : Bytes l) (hs : l.length ≤ 1048576) (hs2 : s.size ≤ 140737488351232) (hx1 : x1 ≤ 9223372036854775807) (hx3 : x3 ≤ 9223372036854775807) :
    Calls Try.prog 59 #[.slice A l.length c, .agg #[.bool wh, .int .i64 x0, .int .i64 x1, .int .i64 x2, .int .i64 x3, .string s]] w fun e w' => ∃ v : Value, e = .returned (.tuple #[.agg #[.int .i64 (ech l (bytesOf s) wh x0 x1 x2 x3).1, .int .i64 (ech l (bytesOf s) wh x0 x1 x2 x3).2.1], v, .int .i64 (ech l (bytesOf s) wh x0 x1 x2 x3).2.2.2]) ∧ Kd.R (Kd.int .u8) 5 w' w.heap.size (fun _ => True) v (ech l (bytesOf s) wh x0 x1 x2 x3).2.2.1 ∧ Below w.heap.size w w' := by
  have hT := bytesOf_B s
  have hts := bytesOf_length s
  by_cases c1 : (chk l).2 ≠ 0
  · have e1 : (ech l (bytesOf s) wh x0 x1 x2 x3) = (0, 0, [], (chk l).2) := by unfold ech; rw [if_pos c1]
    rw [e1]
    exact change_bad A c l wh x0 x1 x2 x3 s w hr hc hB hs hs2 _ (if_pos c1) c1
  · have hl : (chk l).2 = 0 := by omega
    have hv := (chk_V hB).1 hl
    by_cases c2 : (chk (bytesOf s)).2 ≠ 0
    · have e1 : (ech l (bytesOf s) wh x0 x1 x2 x3) = (0, 0, [], (chk (bytesOf s)).2) := by unfold ech; rw [if_neg c1, if_pos c2]
      rw [e1]
      exact change_bad A c l wh x0 x1 x2 x3 s w hr hc hB hs hs2 _ (if_neg c1) c2
    · have ht : (chk (bytesOf s)).2 = 0 := by omega
      have e0 : (ech l (bytesOf s) wh x0 x1 x2 x3) = if (esp l wh x0 x1 x2 x3).2.2 ≠ 0 then (0, 0, [], (esp l wh x0 x1 x2 x3).2.2)
          else if 8192 < l.length - ((esp l wh x0 x1 x2 x3).2.1 - (esp l wh x0 x1 x2 x3).1) + (bytesOf s).length then (0, 0, [], 5)
          else ((esp l wh x0 x1 x2 x3).1, (esp l wh x0 x1 x2 x3).2.1, l.take (esp l wh x0 x1 x2 x3).1.toNat ++ bytesOf s ++ l.drop (esp l wh x0 x1 x2 x3).2.1.toNat, 0) := by
        unfold ech; rw [if_neg c1, if_neg c2]
      rw [e0]
      cases wh with
      | true =>
        have e2 : esp l true x0 x1 x2 x3 = (0, (l.length : Int), 0) := rfl
        rw [e2, if_neg (by simp)]
        by_cases c3 : 8192 < s.size
        · rw [if_pos (by simp only []; omega)]
          exact change_whole_no A c l x0 x1 x2 x3 s w hr hc hB hs hs2 hl ht c3
        · rw [if_neg (by simp only []; omega)]
          exact change_whole_ok A c l x0 x1 x2 x3 s w hr hc hB hs hs2 hl ht c3 0 l.length rfl rfl
      | false =>
        obtain ⟨m1, m2, m3⟩ := esp_msp l x0 x1 x2 x3
        have hrg := esp_range hB hv false x0 x1 x2 x3
        by_cases c3 : (msp l x0 x1 x2 x3).2.2 = 0
        · rw [m2 (by omega)] at hrg ⊢
          rw [if_neg (by omega)]
          by_cases c4 : 8192 < (l.length : Int) - ((msp l x0 x1 x2 x3).2.1 - (msp l x0 x1 x2 x3).1) + s.size
          · rw [if_pos (by omega)]
            exact change_range_no A c l x0 x1 x2 x3 s w hr hc hB hs hs2 hn hx1 hx3 hl ht _ _ rfl rfl c3 hrg.1 hrg.2.1 hrg.2.2 c4
          · rw [if_neg (by omega)]
            exact change_range_ok A c l x0 x1 x2 x3 s w hr hc hB hs hs2 hn hx1 hx3 hl ht _ _ rfl rfl c3 hrg.1 hrg.2.1 hrg.2.2 c4
        · by_cases c4 : (msp l x0 x1 x2 x3).2.2 = 2
          · rw [m1 c4, if_pos (by simp)]
            exact change_span_bad A c l x0 x1 x2 x3 s w hr hc hB hs hs2 hn hx1 hx3 hl ht _ _ _ rfl rfl rfl c3 150 (by rw [if_pos c4])
          · rw [m2 c4, if_pos c3]
            exact change_span_bad A c l x0 x1 x2 x3 s w hr hc hB hs hs2 hn hx1 hx3 hl ht _ _ _ rfl rfl rfl c3 _ (by rw [if_neg c4])
set_option maxRecDepth 100000 in
set_option maxHeartbeats 1000000 in
theorem One_is (A : Option Addr) (c : Nat) (l : List Int) (wh : Bool) (x0 x1 x2 x3 : Int) (s : ByteArray) (w : World) (hr : Kd.C (Kd.int .u8) w A l.length l) (hc : l.length ≤ c) (hn : A = none → c = 0) (hB : Bytes l) (hs : l.length ≤ 1048576) (hs2 : s.size ≤ 140737488351232) (hx1 : x1 ≤ 9223372036854775807) (hx3 : x3 ≤ 9223372036854775807) :
    Calls Try.prog 23 #[.slice A l.length c, .agg #[.bool wh, .int .i64 x0, .int .i64 x1, .int .i64 x2, .int .i64 x3, .string s]] w fun e w' => ∃ v : Value, e = .returned (.tuple #[v, .int .i64 (ech l (bytesOf s) wh x0 x1 x2 x3).2.2.2]) ∧ Kd.R (Kd.int .u8) 5 w' w.heap.size (fun _ => True) v (ech l (bytesOf s) wh x0 x1 x2 x3).2.2.1 ∧ Below w.heap.size w w' := by
  have hrb : Kd.C (Kd.int .u8) (w.alloc (.cells #[.bool wh, .int .i64 x0, .int .i64 x1, .int .i64 x2, .int .i64 x3, .string s] 29)) A l.length l := Kd.C_below hr (below_alloc (Below.refl _ _) _)
  have c0 : (w.alloc (.cells #[.bool wh, .int .i64 x0, .int .i64 x1, .int .i64 x2, .int .i64 x3, .string s] 29)).cell? ⟨w.heap.size, 0, none⟩ = some (.bool wh) := (blk_cell (blk_new w _) 0).trans rfl
  have c1 : (w.alloc (.cells #[.bool wh, .int .i64 x0, .int .i64 x1, .int .i64 x2, .int .i64 x3, .string s] 29)).cell? ⟨w.heap.size, 1, none⟩ = some (.int .i64 x0) := (blk_cell (blk_new w _) 1).trans rfl
  have c2 : (w.alloc (.cells #[.bool wh, .int .i64 x0, .int .i64 x1, .int .i64 x2, .int .i64 x3, .string s] 29)).cell? ⟨w.heap.size, 2, none⟩ = some (.int .i64 x1) := (blk_cell (blk_new w _) 2).trans rfl
  have c3 : (w.alloc (.cells #[.bool wh, .int .i64 x0, .int .i64 x1, .int .i64 x2, .int .i64 x3, .string s] 29)).cell? ⟨w.heap.size, 3, none⟩ = some (.int .i64 x2) := (blk_cell (blk_new w _) 3).trans rfl
  have c4 : (w.alloc (.cells #[.bool wh, .int .i64 x0, .int .i64 x1, .int .i64 x2, .int .i64 x3, .string s] 29)).cell? ⟨w.heap.size, 4, none⟩ = some (.int .i64 x3) := (blk_cell (blk_new w _) 4).trans rfl
  have c5 : (w.alloc (.cells #[.bool wh, .int .i64 x0, .int .i64 x1, .int .i64 x2, .int .i64 x3, .string s] 29)).cell? ⟨w.heap.size, 5, none⟩ = some (.string s) := (blk_cell (blk_new w _) 5).trans rfl
  have HR := Aside0.mk hrb
  have HC := Aside0.mk hc
  have HBY := Aside0.mk hB
  obtain ⟨a, hea⟩ : ∃ a, (ech l (bytesOf s) wh x0 x1 x2 x3).1 = a := ⟨_, rfl⟩
  obtain ⟨b, heb⟩ : ∃ a, (ech l (bytesOf s) wh x0 x1 x2 x3).2.1 = a := ⟨_, rfl⟩
  obtain ⟨out, heo⟩ : ∃ a, (ech l (bytesOf s) wh x0 x1 x2 x3).2.2.1 = a := ⟨_, rfl⟩
  obtain ⟨er, hee⟩ : ∃ a, (ech l (bytesOf s) wh x0 x1 x2 x3).2.2.2 = a := ⟨_, rfl⟩
  rw [heo, hee]
  have HEA := Aside0.mk hea
  have HEB := Aside0.mk heb
  have HEO := Aside0.mk heo
  have HEE := Aside0.mk hee
  clear hr hrb hc hB hea heb heo hee
  go_enter Try.func23, Try.ntmps23
  go_wp2_with (go_at_call 59; refine (change_is A c l wh x0 x1 x2 x3 s _ HR.out HC.out hn HBY.out hs hs2 hx1 hx3).mono ?_; rintro e w1 ⟨v, rfl, hR, hb⟩; rw [HEA.out, HEB.out, HEE.out]; rw [HEO.out] at hR; have HRR := Aside0.mk hR; have HB1 := Aside0.mk hb; clear hR hb)
  go_ret2
  have hB2 : Below w.heap.size w w1 := below_step (below_alloc (Below.refl _ _) _) HB1.out
  exact ⟨_, rfl, Kd.R_below (Kd.R_lower HRR.out (by simp)) (below_alloc (Below.refl _ _) _), below_alloc hB2 _⟩
theorem row1_at (W : World) (g : Nat) (hg : W.heap.size = g) (A : Option Addr) (c : Nat) (l : List Int) (hr : Kd.C (Kd.int .u8) W A l.length l) (hc : l.length ≤ c) (o : TypeId) :
    Kd.C (Kd.slice 5 (Kd.int .u8)) (W.alloc (.cells #[.slice A l.length c] o)) (some ⟨g, 0, none⟩) [l].length [l] := by
  subst hg
  exact row1_C W A c l hr hc o
structure Pre (a b : List Int) (k : Nat) : Prop where
  la : k ≤ a.length
  lb : k ≤ b.length
  eq : a.take k = b.take k
theorem Pre.step {a b : List Int} {k : Nat} (h : Pre a b k) (h1 : k < a.length) (h2 : k < b.length) (h3 : rd a k = rd b k) : Pre a b (k + 1) := by
  refine ⟨h1, h2, ?_⟩
  have e1 : rd a k = a[k] := by simp [rd, List.getD, h1]
  have e2 : rd b k = b[k] := by simp [rd, List.getD, h2]
  rw [List.take_succ_eq_append_getElem h1, List.take_succ_eq_append_getElem h2, h.eq, ← e1, ← e2, h3]
theorem Pre.stop {a b : List Int} {k : Nat} (h : k = a.length ∨ k = b.length ∨ rd a k ≠ rd b k) : ∀ n, k < n → n ≤ a.length → n ≤ b.length → a.take n ≠ b.take n := by
  intro n hk h1 h2 he
  have g := congrArg (fun l : List Int => l[k]?) he
  simp only [List.getElem?_take, if_pos hk] at g
  rcases h with h | h | h
  · omega
  · omega
  · apply h
    have e1 : rd a k = a[k] := by simp [rd, List.getD, show k < a.length by omega]
    have e2 : rd b k = b[k] := by simp [rd, List.getD, show k < b.length by omega]
    rw [List.getElem?_eq_getElem (show k < a.length by omega), List.getElem?_eq_getElem (show k < b.length by omega)] at g
    rw [e1, e2]
    exact Option.some.inj g
structure Down (a b : List Int) (k : Nat) : Prop where
  pre : Pre a b k
  most : ∀ n : Nat, k < n → n ≤ a.length → n ≤ b.length → a.take n = b.take n → ¬ IsP a n
theorem Down.step {a b : List Int} {k : Nat} (hA : Bytes a) (hv : V a) (h : Down a b k) (hp : isPb a k = false) : 0 < k ∧ Down a b (k - 1) := by
  have hn : ¬ IsP a k := fun e => by rw [(isPb_iff a k).2 e] at hp; cases hp
  have hk : 0 < k := by
    rcases Nat.eq_zero_or_pos k with h0 | h0
    · subst h0
      exact absurd (isP_0 hA hv) hn
    · exact h0
  refine ⟨hk, ⟨by have := h.pre.la; omega, by have := h.pre.lb; omega, ?_⟩, fun n h1 h2 h3 h4 => ?_⟩
  · have := congrArg (List.take (k - 1)) h.pre.eq
    rw [List.take_take, List.take_take, Nat.min_eq_left (by omega)] at this
    exact this
  · by_cases hkn : n = k
    · subst hkn; exact hn
    · exact h.most n (by omega) h2 h3 h4
structure Suf (a b : List Int) (f k : Nat) : Prop where
  la : f + k ≤ a.length
  lb : f + k ≤ b.length
  eq : a.drop (a.length - k) = b.drop (b.length - k)
theorem Suf.step {a b : List Int} {f k : Nat} (h : Suf a b f k) (h1 : f + k < a.length) (h2 : f + k < b.length) (h3 : rd a ((a.length - 1 - k : Nat) : Int) = rd b ((b.length - 1 - k : Nat) : Int)) : Suf a b f (k + 1) := by
  refine ⟨h1, h2, ?_⟩
  have l1 : a.length - 1 - k < a.length := by omega
  have l2 : b.length - 1 - k < b.length := by omega
  have e1 : rd a ((a.length - 1 - k : Nat) : Int) = a[a.length - 1 - k] := by simp [rd, List.getD, l1]
  have e2 : rd b ((b.length - 1 - k : Nat) : Int) = b[b.length - 1 - k] := by simp [rd, List.getD, l2]
  rw [show a.length - (k + 1) = a.length - 1 - k by omega, show b.length - (k + 1) = b.length - 1 - k by omega, List.drop_eq_getElem_cons l1, List.drop_eq_getElem_cons l2, ← e1, ← e2, h3, show a.length - 1 - k + 1 = a.length - k by omega, show b.length - 1 - k + 1 = b.length - k by omega, h.eq]
theorem Suf.stop {a b : List Int} {f k : Nat} (h : f + k = a.length ∨ f + k = b.length ∨ rd a ((a.length - 1 - k : Nat) : Int) ≠ rd b ((b.length - 1 - k : Nat) : Int)) : ∀ n, k < n → f + n ≤ a.length → f + n ≤ b.length → a.drop (a.length - n) ≠ b.drop (b.length - n) := by
  intro n hk h1 h2 he
  rcases h with h | h | h
  · omega
  · omega
  · apply h
    have l1 : a.length - 1 - k < a.length := by omega
    have l2 : b.length - 1 - k < b.length := by omega
    have e1 : rd a ((a.length - 1 - k : Nat) : Int) = a[a.length - 1 - k] := by simp [rd, List.getD, l1]
    have e2 : rd b ((b.length - 1 - k : Nat) : Int) = b[b.length - 1 - k] := by simp [rd, List.getD, l2]
    have g := congrArg (fun l : List Int => l[n - 1 - k]?) he
    simp only [List.getElem?_drop] at g
    rw [show a.length - n + (n - 1 - k) = a.length - 1 - k by omega, show b.length - n + (n - 1 - k) = b.length - 1 - k by omega, List.getElem?_eq_getElem l1, List.getElem?_eq_getElem l2] at g
    rw [e1, e2]
    exact Option.some.inj g
structure Far (a b : List Int) (f k : Nat) : Prop where
  suf : Suf a b f k
  far : ∀ n : Nat, k < n → f + n ≤ a.length → f + n ≤ b.length → a.drop (a.length - n) = b.drop (b.length - n) → ¬ IsP a ((a.length - n : Nat) : Int)
theorem Far.step {a b : List Int} {f k : Nat} (hA : Bytes a) (hv : V a) (h : Far a b f k) (hp : isPb a ((a.length - k : Nat) : Int) = false) : 0 < k ∧ Far a b f (k - 1) := by
  have hn : ¬ IsP a ((a.length - k : Nat) : Int) := fun e => by rw [(isPb_iff a _).2 e] at hp; cases hp
  have hk : 0 < k := by
    rcases Nat.eq_zero_or_pos k with h0 | h0
    · subst h0
      exact absurd (isP_end hA hv) hn
    · exact h0
  refine ⟨hk, ⟨by have := h.suf.la; omega, by have := h.suf.lb; omega, ?_⟩, fun n h1 h2 h3 h4 => ?_⟩
  · have l1 := h.suf.la
    have l2 := h.suf.lb
    have := congrArg (List.drop 1) h.suf.eq
    rw [List.drop_drop, List.drop_drop, show a.length - k + 1 = a.length - (k - 1) by omega, show b.length - k + 1 = b.length - (k - 1) by omega] at this
    exact this
  · by_cases hkn : n = k
    · subst hkn; exact hn
    · exact h.far n (by omega) h2 h3 h4
def edOf (x : S29) : Ed := ⟨x.f0, x.f1.f0.f0, x.f1.f0.f1, x.f1.f1.f0, x.f1.f1.f1, bytesOf x.f2⟩
theorem eall_snoc (l : List Int) (a : List Ed) (e : Ed) (cur : List Int) (h : eall l a = (cur, 0)) : eall l (a ++ [e]) = if (eone cur e).2 ≠ 0 then ([], (eone cur e).2) else ((eone cur e).1, 0) := by
  rw [eall_app, h, if_neg (by simp)]
  simp [eall]
theorem eall_stop (l : List Int) (a b : List Ed) (h : (eall l a).2 ≠ 0) : eall l (a ++ b) = ([], (eall l a).2) := by
  rw [eall_app, if_pos h]
set_option maxRecDepth 100000 in
set_option maxHeartbeats 4000000 in
theorem Apply_bad (A E : Option Addr) (c d : Nat) (l : List Int) (es : List S29) (w : World) (hr : Kd.C (Kd.int .u8) w A l.length l) (hc : l.length ≤ c) (hn : A = none → c = 0) (hre : Kd.C k29 w E es.length es) (hB : Bytes l) (hs : l.length ≤ 1048576) (hz : (chk l).2 ≠ 0) :
    Calls Try.prog 27 #[.slice A l.length c, .slice E es.length d] w fun e w' => ∃ v : Value, e = .returned (.tuple #[v, .int .i64 (chk l).2]) ∧ Kd.R (Kd.int .u8) 5 w' w.heap.size (fun _ => True) v [] ∧ Below w.heap.size w w' := by
  have HS : Aside0 (Sta w w (fun W => Kd.C (Kd.int .u8) W A l.length l ∧ Kd.C k29 W E es.length es)) := ⟨⟨Below.refl _ _, ⟨hr, hre⟩, keeps_and (keeps_C _ _ _ _) (keeps_C _ _ _ _)⟩⟩
  have HC := Aside0.mk hc
  have HBY := Aside0.mk hB
  have HT := Aside0.mk (texts1_f l hB hs)
  obtain ⟨r, hk⟩ : ∃ r, (chk l).2 = r := ⟨_, rfl⟩
  rw [hk] at HT hz ⊢
  have hz1 : (r != 0) = true := bne_iff_ne.mpr hz
  clear hz hk hB hr hre hc
  go_enter Try.func27, Try.ntmps27
  go_wp2_with (go_at_call 51; refine (edit_texts.calls _ _ _ [l] _ _ (row1_at _ _ (by simp) _ _ l (HS.out.step (by repeat (first | exact Below.refl _ _ | apply zq2 | apply zq3 | apply zq4 | apply zq5))).now.1 HC.out _) (Nat.le_refl _) HT.out).mono ?_; rintro e w1 ⟨rfl, hd⟩; have hb := hd.below; clear hd; have m_ := Aside0.mk (HS.out.call (by repeat (first | exact Below.refl _ _ | apply zq2 | apply zq3 | apply zq4 | apply zq5)) hb); clear HS hb ; have HS := m_; clear m_)
  go_ret2
  exact ⟨_, rfl, Kd.R_nil _ _ _ _ _, HS.out.bel⟩
set_option maxRecDepth 100000 in
set_option maxHeartbeats 4000000 in
theorem Apply_many (A E : Option Addr) (c d : Nat) (l : List Int) (es : List S29) (w : World) (hr : Kd.C (Kd.int .u8) w A l.length l) (hc : l.length ≤ c) (hn : A = none → c = 0) (hre : Kd.C k29 w E es.length es) (hB : Bytes l) (hs : l.length ≤ 1048576) (hz : (chk l).2 = 0) (hm : 32 < es.length) :
    Calls Try.prog 27 #[.slice A l.length c, .slice E es.length d] w fun e w' => ∃ v : Value, e = .returned (.tuple #[v, .int .i64 5]) ∧ Kd.R (Kd.int .u8) 5 w' w.heap.size (fun _ => True) v [] ∧ Below w.heap.size w w' := by
  have HS : Aside0 (Sta w w (fun W => Kd.C (Kd.int .u8) W A l.length l ∧ Kd.C k29 W E es.length es)) := ⟨⟨Below.refl _ _, ⟨hr, hre⟩, keeps_and (keeps_C _ _ _ _) (keeps_C _ _ _ _)⟩⟩
  have HC := Aside0.mk hc
  have HBY := Aside0.mk hB
  have HT := Aside0.mk (texts1_f l hB hs)
  rw [hz] at HT
  have g1 : decide (32 < (es.length : Int)) = true := decide_eq_true (by omega)
  clear hz hB hr hre hc
  go_enter Try.func27, Try.ntmps27
  go_wp2_with (go_at_call 51; refine (edit_texts.calls _ _ _ [l] _ _ (row1_at _ _ (by simp) _ _ l (HS.out.step (by repeat (first | exact Below.refl _ _ | apply zq2 | apply zq3 | apply zq4 | apply zq5))).now.1 HC.out _) (Nat.le_refl _) HT.out).mono ?_; rintro e w1 ⟨rfl, hd⟩; have hb := hd.below; clear hd; have m_ := Aside0.mk (HS.out.call (by repeat (first | exact Below.refl _ _ | apply zq2 | apply zq3 | apply zq4 | apply zq5)) hb); clear HS hb ; have HS := m_; clear m_)
  go_ret2
  exact ⟨_, rfl, Kd.R_nil _ _ _ _ _, HS.out.bel⟩
set_option maxRecDepth 100000 in
set_option maxHeartbeats 4000000 in
theorem Apply_ok (A E : Option Addr) (c d : Nat) (l : List Int) (es : List S29) (w : World) (hr : Kd.C (Kd.int .u8) w A l.length l) (hc : l.length ≤ c) (hn : A = none → c = 0) (hre : Kd.C k29 w E es.length es) (hB : Bytes l) (hs : l.length ≤ 1048576) (he : ∀ x ∈ es, x.f2.size ≤ 140737488351232 ∧ x.f1.f0.f1 ≤ 9223372036854775807 ∧ x.f1.f1.f1 ≤ 9223372036854775807) (hz : (chk l).2 = 0) (hm : ¬ 32 < es.length) :
    Calls Try.prog 27 #[.slice A l.length c, .slice E es.length d] w fun e w' => ∃ v : Value, e = .returned (.tuple #[v, .int .i64 (eall l (es.map edOf)).2]) ∧ Kd.R (Kd.int .u8) 5 w' w.heap.size (fun _ => True) v (eall l (es.map edOf)).1 ∧ Below w.heap.size w w' := by
  have HS : Aside0 (Sta w w (fun W => Kd.C (Kd.int .u8) W A l.length l ∧ Kd.C k29 W E es.length es)) := ⟨⟨Below.refl _ _, ⟨hr, hre⟩, keeps_and (keeps_C _ _ _ _) (keeps_C _ _ _ _)⟩⟩
  have HC := Aside0.mk hc
  have HBY := Aside0.mk hB
  have HT := Aside0.mk (texts1_f l hB hs)
  rw [hz] at HT
  have hv := (chk_V hB).1 hz
  have g1 : decide (32 < (es.length : Int)) = false := decide_eq_false (by omega)
  have HV := Aside0.mk hv
  have HE := Aside0.mk he
  clear hz hB hr hre hc hv he
  go_enter Try.func27, Try.ntmps27
  go_wp2_with (first | (go_at_call 51; refine (edit_texts.calls _ _ _ [l] _ _ (row1_at _ _ (by simp) _ _ l (HS.out.step (by repeat (first | exact Below.refl _ _ | apply zq2 | apply zq3 | apply zq4 | apply zq5))).now.1 HC.out _) (Nat.le_refl _) HT.out).mono ?_; rintro e w1 ⟨rfl, hd⟩; have hb := hd.below; clear hd; have m_ := Aside0.mk (HS.out.call (by repeat (first | exact Below.refl _ _ | apply zq2 | apply zq3 | apply zq4 | apply zq5)) hb); clear HS hb ; have HS := m_; clear m_) | (go_at_call 63; refine (BClone_ok A c l _ (HS.out.step (by repeat (first | exact Below.refl _ _ | apply zq2 | apply zq3 | apply zq4 | apply zq5))).now.1 HC.out hn (by omega)).mono ?_; rintro e w2 ⟨v, rfl, hR, hb⟩; have hR2 := Kd.R_lower hR (HS.out.step (by repeat (first | exact Below.refl _ _ | apply zq2 | apply zq3 | apply zq4 | apply zq5))).bel.size; clear hR; obtain ⟨A2, c2, rfl, hl2, hn2, hC2⟩ := Ap.read (.inr hR2); clear hC2; have HL2 := Aside0.mk hl2; have HN2 := Aside0.mk hn2; clear hl2 hn2; have m_ := Aside0.mk ((HS.out.call (by repeat (first | exact Below.refl _ _ | apply zq2 | apply zq3 | apply zq4 | apply zq5)) hb).add hR2 (keeps_R _ _ _ _ _ _)); clear HS hb hR2; have HS := m_; clear m_))
  go_loopw [7, 25] (fun s7 s25 W => ∃ (k : Nat) (A2 : Option Addr) (c2 : Nat) (cur : List Int), s25 = .int .i64 k ∧ s7 = .slice A2 cur.length c2 ∧ k ≤ es.length ∧ cur.length ≤ 1048576 ∧ Aside0 (cur.length ≤ c2) ∧ Aside0 (A2 = none → c2 = 0) ∧ Aside0 (Bytes cur) ∧ Aside0 (V cur) ∧ Aside0 (eall l ((es.take k).map edOf) = (cur, 0)) ∧ Aside0 (Sta w W (fun W => Kd.R (Kd.int .u8) 5 W w.heap.size (fun _ => True) (.slice A2 cur.length c2) cur ∧ Kd.C (Kd.int .u8) W A l.length l ∧ Kd.C k29 W E es.length es))) (fun _ s25 _ => es.length - (intOf s25).toNat)
  case atStart => exact ⟨0, A2, c2, l, rfl, rfl, Nat.zero_le _, hs, HL2, HN2, HBY, HV, ⟨rfl⟩, HS⟩
  case round =>
    clear HS HL2 HN2
    obtain ⟨k, A2, c2, cur, rfl, rfl, hk, hcl, HL2, HN2, HBC, HVC, HEA, HS⟩ := hrel
    by_cases h1 : k < es.length
    · have g2 : decide (k < es.length) = true := decide_eq_true h1
      obtain ⟨ad, e1, y0, y1, y2, y3, y4, y5⟩ := at_T29 HS.out.now.2.2 (k : Int) (by omega) (by omega)
      cases e1
      rw [Int.toNat_natCast] at y0 y1 y2 y3 y4 y5
      have hx : rd_T29 es (k : Int) ∈ es := by
        have : rd_T29 es (k : Int) = es[k] := by simp [rd_T29, List.getD, h1]
        rw [this]
        exact List.getElem_mem _
      have htk : (es.take (k + 1)).map edOf = (es.take k).map edOf ++ [edOf (rd_T29 es (k : Int))] := by
        rw [List.take_succ_eq_append_getElem h1, List.map_append]
        simp [rd_T29, List.getD, h1]
      obtain ⟨hx0, hx1, hx2⟩ := HE.out _ hx
      have hsn := eall_snoc l _ (edOf (rd_T29 es (k : Int))) cur HEA.out
      rw [← htk] at hsn
      generalize rd_T29 es (k : Int) = x at *
      obtain ⟨out, hout⟩ : ∃ o, (ech cur (bytesOf x.f2) x.f0 x.f1.f0.f0 x.f1.f0.f1 x.f1.f1.f0 x.f1.f1.f1).2.2.1 = o := ⟨_, rfl⟩
      obtain ⟨er, her⟩ : ∃ o, (ech cur (bytesOf x.f2) x.f0 x.f1.f0.f0 x.f1.f0.f1 x.f1.f1.f0 x.f1.f1.f1).2.2.2 = o := ⟨_, rfl⟩
      have e2 : eone cur (edOf x) = (out, er) := Prod.ext hout her
      rw [e2] at hsn
      have HEO := Aside0.mk hout
      have HEE := Aside0.mk her
      by_cases hz : er = 0
      · rw [if_neg (by simpa using hz)] at hsn
        subst hz
        have hV2 := eone_V (e := edOf x) HBC.out (bytesOf_B _) (by rw [e2])
        rw [e2] at hV2
        have HB3 := Aside0.mk hV2.2.1
        have HV3 := Aside0.mk hV2.1
        have hl3 : out.length ≤ 8192 := hV2.2.2
        have HE3 := Aside0.mk hsn
        clear hsn hV2 e2 hout her hx htk
        go_wp2_with (go_at_call 23; refine (One_is A2 c2 cur x.f0 x.f1.f0.f0 x.f1.f0.f1 x.f1.f1.f0 x.f1.f1.f1 x.f2 _ (Kd.R_reads' (HS.out.step (by repeat (first | exact Below.refl _ _ | apply zq2 | apply zq3 | apply zq4 | apply zq5))).now.1).2.2 HL2.out HN2.out HBC.out hcl hx0 hx1 hx2).mono ?_; rintro e w5 ⟨v, rfl, hR, hb⟩; rw [HEO.out] at hR; rw [HEE.out]; have hR2 := Kd.R_lower hR (HS.out.step (by repeat (first | exact Below.refl _ _ | apply zq2 | apply zq3 | apply zq4 | apply zq5))).bel.size; clear hR; obtain ⟨A3, c3, rfl, hl3, hn3, hC3⟩ := Ap.read (.inr hR2); clear hC3; have HL3 := Aside0.mk hl3; have HN3 := Aside0.mk hn3; clear hl3 hn3; have m_ := Aside0.mk ((HS.out.call (by repeat (first | exact Below.refl _ _ | apply zq2 | apply zq3 | apply zq4 | apply zq5)) hb).add hR2 (keeps_R _ _ _ _ _ _)); clear HS hb hR2; have HS := m_; clear m_)
        go_roundw
        case measure => simp [intOf]; omega
        case rel =>
          refine ⟨k + 1, A3, c3, out, by simp, rfl, by omega, by omega, HL3, HN3, HB3, HV3, HE3, ⟨HS.out.bel, ⟨HS.out.now.1, HS.out.now.2.2⟩, keeps_and (keeps_R _ _ _ _ _ _) (keeps_and (keeps_C _ _ _ _) (keeps_C _ _ _ _))⟩⟩
      · have hz1 : (er != 0) = true := bne_iff_ne.mpr hz
        rw [if_pos hz] at hsn
        have hfin : eall l (es.map edOf) = ([], er) := by
          have h9 := eall_stop l ((es.take (k + 1)).map edOf) ((es.drop (k + 1)).map edOf) (by rw [hsn]; exact hz)
          rw [← List.map_append, List.take_append_drop, hsn] at h9
          exact h9
        have HFIN := Aside0.mk hfin
        clear hsn e2 hout her hx htk hfin hz
        go_wp2_with (go_at_call 23; refine (One_is A2 c2 cur x.f0 x.f1.f0.f0 x.f1.f0.f1 x.f1.f1.f0 x.f1.f1.f1 x.f2 _ (Kd.R_reads' (HS.out.step (by repeat (first | exact Below.refl _ _ | apply zq2 | apply zq3 | apply zq4 | apply zq5))).now.1).2.2 HL2.out HN2.out HBC.out hcl hx0 hx1 hx2).mono ?_; rintro e w5 ⟨v, rfl, hR, hb⟩; rw [HEO.out] at hR; rw [HEE.out]; have hR2 := Kd.R_lower hR (HS.out.step (by repeat (first | exact Below.refl _ _ | apply zq2 | apply zq3 | apply zq4 | apply zq5))).bel.size; clear hR; obtain ⟨A3, c3, rfl, hl3, hn3, hC3⟩ := Ap.read (.inr hR2); clear hC3; have HL3 := Aside0.mk hl3; have HN3 := Aside0.mk hn3; clear hl3 hn3; have m_ := Aside0.mk ((HS.out.call (by repeat (first | exact Below.refl _ _ | apply zq2 | apply zq3 | apply zq4 | apply zq5)) hb).add hR2 (keeps_R _ _ _ _ _ _)); clear HS hb hR2; have HS := m_; clear m_)
        go_ret2
        rw [HFIN.out]
        exact ⟨_, rfl, Kd.R_nil _ _ _ _ _, HS.out.bel⟩
    · have g2 : decide (k < es.length) = false := decide_eq_false h1
      have hfin : eall l (es.map edOf) = (cur, 0) := by
        have h9 := HEA.out
        rw [List.take_of_length_le (by omega)] at h9
        exact h9
      have HFIN := Aside0.mk hfin
      clear hfin
      go_wp2
      go_ret2
      rw [HFIN.out]
      exact ⟨_, rfl, HS.out.now.1, HS.out.bel⟩
theorem Apply_is (A E : Option Addr) (c d : Nat) (l : List Int) (es : List S29) (w : World) (hr : Kd.C (Kd.int .u8) w A l.length l) (hc : l.length ≤ c) (hn : A = none → c = 0) (hre : Kd.C k29 w E es.length es) (hB : Bytes l) (hs : l.length ≤ 1048576) (he : ∀ x ∈ es, x.f2.size ≤ 140737488351232 ∧ x.f1.f0.f1 ≤ 9223372036854775807 ∧ x.f1.f1.f1 ≤ 9223372036854775807) : Calls Try.prog 27 #[.slice A l.length c, .slice E es.length d] w fun e w' => ∃ v : Value, e = .returned (.tuple #[v, .int .i64 (eapp l (es.map edOf)).2]) ∧ Kd.R (Kd.int .u8) 5 w' w.heap.size (fun _ => True) v (eapp l (es.map edOf)).1 ∧ Below w.heap.size w w' := by
  unfold eapp
  rw [List.length_map]
  by_cases h1 : (chk l).2 ≠ 0
  · rw [if_pos h1]
    exact Apply_bad A E c d l es w hr hc hn hre hB hs h1
  · rw [if_neg h1]
    by_cases h2 : 32 < es.length
    · rw [if_pos h2]
      exact Apply_many A E c d l es w hr hc hn hre hB hs (by omega) h2
    · rw [if_neg h2]
      exact Apply_ok A E c d l es w hr hc hn hre hB hs he (by omega) h2
theorem lit_mark (W : World) (g : Nat) (l : List Int) (cs : Array Value) (t : TypeId) (fr : Nat × Nat) (hg : W.heap.size = g) (hcs : cs.toList = l.map (Value.int .u8)) (hn : l.length ≤ 9223372036854775807) : Kd.C (Kd.int .u8) (W.alloc (.cells cs t fr)) (some ⟨g, 0, none⟩) l.length l := by
  subst hg
  refine Kd.C_of_reads (d := 0) ⟨rfl, hn, fun _ => ⟨_, rfl, fun j hj => ?_⟩⟩
  rw [show (⟨W.heap.size, 0, none⟩ : Addr).add j = ⟨W.heap.size, j, none⟩ by simp [Addr.add]; omega, cell_of_row _ _ j cs t fr (blk_new W _), ← Array.getElem?_toList, hcs]
  simp [List.getD, hj]
theorem conv_lit (w : World) (C : Array Value) (n c : Nat) : (convert 22 22 (.slice (some ⟨w.heap.size, 0, none⟩) n c)).run Try.prog (w.alloc (.cells C 5)) = .ok (.slice (some ⟨w.heap.size, 0, none⟩) n c) (w.alloc (.cells C 5 (C.size, C.size + 1))) :=
  Lib.run_convert_bytes_const (P := Try.prog) w 22 5 C n c Try.underlying22 Try.underlying5
theorem eq_f (l : List Int) (hl : l.length ≤ 1048576) : colophonref00_EqBytes.f (l.length + 1) l l = some true := by
  rw [EqBytes_f l l hl (Nat.lt_succ_self _)]
  simp
theorem eall_len : ∀ (es : List Ed) (l : List Int), Bytes l → V l → l.length ≤ 8192 → (∀ e ∈ es, Bytes e.t) → (eall l es).1.length ≤ 8192
  | [], l, _, _, hn, _ => by simpa [eall] using hn
  | e :: es, l, hB, hV, hn, hT => by
    unfold eall
    by_cases h : (eone l e).2 = 0
    · have hv := eone_V hB (hT e (by simp)) h
      have := eall_len es (eone l e).1 hv.2.1 hv.1 hv.2.2 (fun x hx => hT x (by simp [hx]))
      simp only [h]
      simpa using this
    · simp [h]
theorem eapp_len (l : List Int) (es : List Ed) (hB : Bytes l) (hn : l.length ≤ 8192) (hT : ∀ e ∈ es, Bytes e.t) : (eapp l es).1.length ≤ 8192 := by
  unfold eapp
  by_cases h1 : (chk l).2 ≠ 0
  · rw [if_pos h1]; simp
  · rw [if_neg h1]
    by_cases h2 : 32 < es.length
    · rw [if_pos h2]; simp
    · rw [if_neg h2]
      exact eall_len es l hB ((chk_V hB).1 (by omega)) hn hT
theorem eds_T (es : List S29) : ∀ e ∈ es.map edOf, Bytes e.t := by
  intro e he
  obtain ⟨x, _, rfl⟩ := List.mem_map.1 he
  exact bytesOf_B _
end Go.Proofs.Ytjebkpcekkkbkaa.B
namespace Go.Proofs.Ytjebkpcekkkbkaa.B
open Go.RowKit Go.Shelf Go.ChangeMaps Go.Proofs Go.Proofs.YtjebkpcekkkbkaaW.PrintWords Go.Proofs.YtjebkpcekkkbkaaW.PrintLast Go.Proofs.YtjebkpcekkkbkaaW.PrintMore Go.Proofs.Ytjebkpcekkkbkaa.FBase
theorem eapp_B (l : List Int) (es : List Ed) (hB : Bytes l) (hT : ∀ e ∈ es, Bytes e.t) : Bytes (eapp l es).1 := by
  by_cases h : (eapp l es).2 = 0
  · have h2 := h
    unfold eapp at h2 ⊢
    by_cases h1 : (chk l).2 ≠ 0
    · rw [if_pos h1] at h2; exact absurd h2 h1
    · rw [if_neg h1] at h2 ⊢
      by_cases h3 : 32 < es.length
      · rw [if_pos h3] at h2; exact absurd h2 (by decide)
      · rw [if_neg h3] at h2 ⊢
        exact (eall_V es l hB ((chk_V hB).1 (by omega)) hT h2).2
  · rw [eapp_err l es h]
    intro x hx; cases hx
section
variable {M : Nat → Prop} {W : World} {s : Nat} {L : DL} {many : Int}
theorem change_in (h : IsStore M W s L many) {w2 : World} {v : Value} {out : List Int} {u : List UInt8} {d : Dc} (hb : Below W.heap.size W w2) (hR : Kd.R (Kd.int .u8) 5 w2 W.heap.size (fun _ => True) v out) (hd : lk L u = some d) (hB : Bytes out) (hl : out.length ≤ 8192) (ver : Int) :
    ∃ (A2 : Option Addr) (k2 : Nat), v = .slice A2 out.length k2 ∧
      w2.cell? ⟨d.g, 0, none⟩ = some (.int .i64 d.ver) ∧ w2.cell? ⟨d.g, 1, none⟩ = some (.int .i64 d.ser) ∧ w2.cell? ⟨d.g, 2, none⟩ = some (.slice d.A d.txt.length d.c) ∧ w2.frozen? ⟨d.g, 0, none⟩ = false ∧ w2.frozen? ⟨d.g, 2, none⟩ = false ∧
      ∃ M', IsStore M' ((w2.setCell ⟨d.g, 2, none⟩ (.slice A2 out.length k2)).setCell ⟨d.g, 0, none⟩ (.int .i64 ver)) s (upd L u ver A2 k2 out) many ∧
        Grow M M' W ((w2.setCell ⟨d.g, 2, none⟩ (.slice A2 out.length k2)).setCell ⟨d.g, 0, none⟩ (.int .i64 ver)) := by
  obtain ⟨A2, k2, rfl, hcap, hC⟩ := Kd.R_reads hR
  have hfrom := own_from hR
  have hnone := own_none hR
  obtain ⟨m, P, T, D, h, hM⟩ := h
  have h2 := h.below hb
  have hm := lk_mem hd
  have hk := h2.docs _ hm
  have hs := hb.size
  have hlt := h.lt
  have hnd : (L.map (·.1)).Nodup := by obtain ⟨_, _, _, hn⟩ := h.rep; exact hn
  refine ⟨A2, k2, rfl, hk.cell 0, hk.cell 1, hk.cell 2, hk.frozen 0, hk.frozen 2, fun k => P k ∨ (T k ∨ (W.heap.size ≤ k ∧ k < w2.heap.size)), ?_, ?_⟩
  · have hset := blk_set hk 2 (.slice A2 out.length k2)
    have hset2 := blk_set hset 0 (.int .i64 ver)
    have hot : ∀ k, k ≠ d.g → ((w2.setCell ⟨d.g, 2, none⟩ (.slice A2 out.length k2)).setCell ⟨d.g, 0, none⟩ (.int .i64 ver)).heap[k]? = w2.heap[k]? := fun k hk => (Below.heap_setCell _ ⟨d.g, 0, none⟩ _ k hk).trans (Below.heap_setCell _ ⟨d.g, 2, none⟩ _ k hk)
    have hsz : ((w2.setCell ⟨d.g, 2, none⟩ (.slice A2 out.length k2)).setCell ⟨d.g, 0, none⟩ (.int .i64 ver)).heap.size = w2.heap.size := by simp
    generalize (w2.setCell ⟨d.g, 2, none⟩ (.slice A2 out.length k2)).setCell ⟨d.g, 0, none⟩ (.int .i64 ver) = w3 at hset2 hot hsz ⊢
    have hg : d.g ≠ s ∧ d.g ≠ m := h.nes _ hm
    have hgP : P d.g := h.pP.2.2 _ hm
    refine ⟨m, P, fun k => T k ∨ (W.heap.size ≤ k ∧ k < w2.heap.size), D, ⟨(hot s (Ne.symm hg.1)).trans h2.st, owns_less (owns_same h2.mp (hot m (Ne.symm hg.2))) (by rw [h.rep.size, upd_len]; exact Nat.le_refl _), h.rep.upd u ver A2 k2 out, ?_, ?_, ?_, h.ne, ?_, ?_, ?_, ?_, ?_⟩, fun k => Iff.rfl⟩
    · intro p hp
      obtain ⟨q, hq, rfl⟩ := List.mem_map.1 hp
      by_cases e : q.1 = u
      · obtain rfl : q = (u, d) := nodup_fst hnd q hq (u, d) hm e
        rw [if_pos (by simp)]
        exact hset2.trans rfl
      · rw [if_neg (by simpa using e)]
        have hne : q.2.g ≠ d.g := fun eg => by
          rcases List.mem_iff_getElem.1 hq with ⟨i, hi, hqi⟩
          rcases List.mem_iff_getElem.1 hm with ⟨j, hj, hmj⟩
          have hij : i ≠ j := fun e2 => by subst e2; rw [hqi] at hmj; rw [hmj] at e; exact e rfl
          rcases Nat.lt_or_gt_of_ne hij with hlt | hlt
          · have := List.pairwise_iff_getElem.1 h.nep i j hi hj hlt
            rw [hqi, hmj] at this; exact this eg
          · have := List.pairwise_iff_getElem.1 h.nep j i hj hi hlt
            rw [hqi, hmj] at this; exact this eg.symm
        exact (hot _ hne).trans (h2.docs q hq)
    · intro p hp
      obtain ⟨q, hq, rfl⟩ := List.mem_map.1 hp
      by_cases e : q.1 = u
      · rw [if_pos (by simpa using e)]
        exact (In.of_from hfrom (T := fun k => W.heap.size ≤ k ∧ k < w2.heap.size) (fun k h1 h2 => ⟨h1, h2⟩)).step (fun _ _ h => .inr h) (by rw [hsz]; exact Nat.le_refl _) (fun k hk ht => hot k (fun e => by have := hlt _ (.inl hgP); omega))
      · rw [if_neg (by simpa using e)]
        exact (h2.txts q hq).step (fun _ _ h => .inl h) (by rw [hsz]; exact Nat.le_refl _) (fun k hk ht => hot k (fun e => h.pt k ht (e ▸ hgP)))
    · intro p hp
      obtain ⟨q, hq, rfl⟩ := List.mem_map.1 hp
      by_cases e : q.1 = u
      · rw [if_pos (by simpa using e)]
        exact ⟨hcap, hnone, hB, hl, (h.caps q hq).2.2.2.2⟩
      · rw [if_neg (by simpa using e)]
        exact h.caps q hq
    · intro p hp
      obtain ⟨q, hq, rfl⟩ := List.mem_map.1 hp
      have := h.nes q hq
      split <;> exact this
    · unfold upd
      rw [List.pairwise_map]
      refine h.nep.imp fun {a b} hab => ?_
      split <;> split <;> exact hab
    · refine ⟨h.pP.1, h.pP.2.1, fun p hp => ?_⟩
      obtain ⟨q, hq, rfl⟩ := List.mem_map.1 hp
      have := h.pP.2.2 q hq
      split <;> exact this
    · intro k ht hp
      rcases ht with ht | ht
      · exact h.pt k ht hp
      · have := hlt k (.inl hp); omega
    · intro k hk
      rw [hsz]
      rcases hk with hk | hk | hk
      · have := hlt k (.inl hk); omega
      · have := hlt k (.inr hk); omega
      · omega
  · have hgP : M d.g := (hM _).2 (.inl (h.pP.2.2 _ hm))
    refine ⟨((Same.of_below hb).trans (fun k hk => .inl hk) (Same.cell _ hgP)).trans (fun k hk => .inl hk) (Same.cell _ hgP), fun k hk => ?_⟩
    rcases hk with hk | hk | hk
    · exact .inl ((hM k).2 (.inl hk))
    · exact .inl ((hM k).2 (.inr hk))
    · exact .inr hk.1
set_option maxRecDepth 100000 in
set_option maxHeartbeats 4000000 in
theorem Change_no (h : IsStore M W s L many) (u : ByteArray) (ver : Int) (E : Option Addr) (e2 : Nat) (es : List S29) (hu : u.size ≤ maxLen) (hre : Kd.C k29 W E es.length es) (hes : ∀ x ∈ es, x.f2.size ≤ 140737488351232 ∧ x.f1.f0.f1 ≤ 9223372036854775807 ∧ x.f1.f1.f1 ≤ 9223372036854775807) (hd : lk L (key u) = none) :
    Calls Try.prog 37 #[.pointer (some ⟨s, 0, none⟩), .string u, .int .i64 ver, .slice E es.length e2] W fun e W' => e = .returned (.int .i64 161) ∧ Below W.heap.size W W' := by
  have H := Aside0.mk h
  have HD := Aside0.mk hd
  clear h hd hre hes
  go_enter Try.func37, Try.ntmps37
  go_wp2_with (go_at_call 72; refine (doc_no H.out u hu HD.out).mono ?_; rintro e w1 ⟨g, rfl, hg, hb⟩; have c0 := hg.cell 0; have c1 := hg.cell 1; have c2 := hg.cell 2; have HB := Aside0.mk hb; clear hg hb)
  go_ret
  exact ⟨rfl, HB.out⟩
set_option maxRecDepth 100000 in
set_option maxHeartbeats 4000000 in
theorem Change_v (h : IsStore M W s L many) (u : ByteArray) (ver : Int) (E : Option Addr) (e2 : Nat) (es : List S29) (hu : u.size ≤ maxLen) (hre : Kd.C k29 W E es.length es) (hes : ∀ x ∈ es, x.f2.size ≤ 140737488351232 ∧ x.f1.f0.f1 ≤ 9223372036854775807 ∧ x.f1.f1.f1 ≤ 9223372036854775807) (d : Dc) (hd : lk L (key u) = some d) (hv : ver ≤ d.ver ∨ 9007199254740991 < ver) :
    Calls Try.prog 37 #[.pointer (some ⟨s, 0, none⟩), .string u, .int .i64 ver, .slice E es.length e2] W fun e W' => e = .returned (.int .i64 160) ∧ Below W.heap.size W W' := by
  have H := Aside0.mk h
  have HD := Aside0.mk hd
  have HE := Aside0.mk hre
  have g1 : ¬ ver ≤ d.ver → decide (9007199254740991 < ver) = true := fun _ => decide_eq_true (by omega)
  clear h hd hre hes
  go_enter Try.func37, Try.ntmps37
  go_wp2_with (go_at_call 72; refine (doc_yes H.out u hu d HD.out).mono ?_; rintro e w1 ⟨rfl, hb⟩; have H1 := Aside0.mk (H.out.below hb); have hd1 := doc_at H1.out HD.out; have c0 := hd1.1; have c1 := hd1.2.1; have c2 := hd1.2.2.1; have HC2 := Aside0.mk hd1.2.2.2.1; have HB := Aside0.mk hb; have HE2 := Aside0.mk (Kd.C_below HE.out hb); clear hd1 hb)
  all_goals
    go_ret
    exact ⟨rfl, HB.out⟩
set_option maxRecDepth 100000 in
set_option maxHeartbeats 4000000 in
theorem Change_e (h : IsStore M W s L many) (u : ByteArray) (ver : Int) (E : Option Addr) (e2 : Nat) (es : List S29) (hu : u.size ≤ maxLen) (hre : Kd.C k29 W E es.length es) (hes : ∀ x ∈ es, x.f2.size ≤ 140737488351232 ∧ x.f1.f0.f1 ≤ 9223372036854775807 ∧ x.f1.f1.f1 ≤ 9223372036854775807) (d : Dc) (hd : lk L (key u) = some d) (hv : d.ver < ver ∧ ver ≤ 9007199254740991) (er : Int) (he : (eapp d.txt (es.map edOf)).2 = er) (hz : er ≠ 0) :
    Calls Try.prog 37 #[.pointer (some ⟨s, 0, none⟩), .string u, .int .i64 ver, .slice E es.length e2] W fun e W' => e = .returned (.int .i64 er) ∧ Below W.heap.size W W' := by
  obtain ⟨-, -, -, -, hcp, hn, hB, hl⟩ := doc_at h hd
  have H := Aside0.mk h
  have HD := Aside0.mk hd
  have HE := Aside0.mk hre
  have HCP := Aside0.mk hcp
  have HBY := Aside0.mk hB
  have HER := Aside0.mk he
  have hl : d.txt.length ≤ 1048576 := by omega
  have g1 : decide (ver ≤ d.ver) = false := decide_eq_false (by omega)
  have g2 : decide (9007199254740991 < ver) = false := decide_eq_false (by omega)
  have g3 : (er == 0) = false := by simpa using hz
  clear h hd hre hcp hB he
  go_enter Try.func37, Try.ntmps37
  go_wp2_with (first | (go_at_call 72; refine (doc_yes H.out u hu d HD.out).mono ?_; rintro e w1 ⟨rfl, hb⟩; have H1 := Aside0.mk (H.out.below hb); have hd1 := doc_at H1.out HD.out; have c0 := hd1.1; have c1 := hd1.2.1; have c2 := hd1.2.2.1; have HC2 := Aside0.mk hd1.2.2.2.1; have HB := Aside0.mk hb; have HE2 := Aside0.mk (Kd.C_below HE.out hb); clear hd1 hb) | (go_at_call 27; refine (Apply_is d.A E d.c e2 d.txt es _ (Kd.C_below HC2.out (by repeat (first | exact Below.refl _ _ | apply below_alloc | apply pw_below_drewN | apply below_drew1))) HCP.out hn (Kd.C_below HE2.out (by repeat (first | exact Below.refl _ _ | apply below_alloc | apply pw_below_drewN | apply below_drew1))) HBY.out hl hes).mono ?_; rintro e w2 ⟨v, rfl, hR, hb⟩; have HB2 := Aside0.mk hb; rw [HER.out]; clear hR hb))
  go_ret
  exact ⟨rfl, below_step HB.out HB2.out⟩
set_option maxRecDepth 100000 in
set_option maxHeartbeats 4000000 in
theorem Change_ok (h : IsStore M W s L many) (u : ByteArray) (ver : Int) (E : Option Addr) (e2 : Nat) (es : List S29) (hu : u.size ≤ maxLen) (hre : Kd.C k29 W E es.length es) (hes : ∀ x ∈ es, x.f2.size ≤ 140737488351232 ∧ x.f1.f0.f1 ≤ 9223372036854775807 ∧ x.f1.f1.f1 ≤ 9223372036854775807) (d : Dc) (hd : lk L (key u) = some d) (hv : d.ver < ver ∧ ver ≤ 9007199254740991) (out : List Int) (he : eapp d.txt (es.map edOf) = (out, 0)) :
    Calls Try.prog 37 #[.pointer (some ⟨s, 0, none⟩), .string u, .int .i64 ver, .slice E es.length e2] W fun e W' => e = .returned (.int .i64 0) ∧ ∃ M' A2 c2, IsStore M' W' s (upd L (key u) ver A2 c2 out) many ∧ Grow M M' W W' := by
  obtain ⟨-, -, -, -, hcp, hn, hB, hl⟩ := doc_at h hd
  have hT : ∀ e ∈ es.map edOf, Bytes e.t := eds_T es
  have hol := eapp_len d.txt (es.map edOf) hB hl hT
  have hob := eapp_B d.txt (es.map edOf) hB hT
  rw [he] at hol hob
  have H := Aside0.mk h
  have HD := Aside0.mk hd
  have HE := Aside0.mk hre
  have HCP := Aside0.mk hcp
  have HBY := Aside0.mk hB
  have HER := Aside0.mk he
  have HOB := Aside0.mk hob
  have hl : d.txt.length ≤ 1048576 := by omega
  have g1 : decide (ver ≤ d.ver) = false := decide_eq_false (by omega)
  have g2 : decide (9007199254740991 < ver) = false := decide_eq_false (by omega)
  clear h hd hre hcp hB he hT hob
  go_enter Try.func37, Try.ntmps37
  go_wp2_with (first | (go_at_call 72; refine (doc_yes H.out u hu d HD.out).mono ?_; rintro e w1 ⟨rfl, hb⟩; have H1 := Aside0.mk (H.out.below hb); have hd1 := doc_at H1.out HD.out; have c0 := hd1.1; have c1 := hd1.2.1; have c2 := hd1.2.2.1; have HC2 := Aside0.mk hd1.2.2.2.1; have HB := Aside0.mk hb; have HE2 := Aside0.mk (Kd.C_below HE.out hb); clear hd1 hb) | (go_at_call 27; refine (Apply_is d.A E d.c e2 d.txt es _ (Kd.C_below HC2.out (by repeat (first | exact Below.refl _ _ | apply below_alloc | apply pw_below_drewN | apply below_drew1))) HCP.out hn (Kd.C_below HE2.out (by repeat (first | exact Below.refl _ _ | apply below_alloc | apply pw_below_drewN | apply below_drew1))) HBY.out hl hes).mono ?_; rintro e w2 ⟨v, rfl, hR, hb⟩; rw [HER.out] at hR; have h2 := change_in H1.out hb hR HD.out HOB.out hol ver; rw [HER.out]; clear hR hb; obtain ⟨A2, k2, rfl, c0, c1, c2, f0, f2, hS⟩ := h2; have HS := Aside0.mk hS; clear hS))
  go_ret
  obtain ⟨M', hS, hG⟩ := HS.out
  exact ⟨rfl, M', A2, k2, hS, (Grow.of_below HB.out).trans hG⟩
end
end Go.Proofs.Ytjebkpcekkkbkaa.B
namespace Go.Proofs
open Go.RowKit Go.Maps Go.Sort Go.Shelf
def Try.keys79_ren : Go.Shelf.Ren := ⟨fun | 7 => 79 | 10 => 99 | n => n, fun | 23 => 84 | 26 => 9 | 3 => 122 | 28 => 133 | 0 => 0 | 27 => 132 | 33 => 164 | 4 => 4 | n => n, fun | n => n⟩
theorem Try.keys79 : Go.Proofs.SlLaysZ.n7 Try.prog Try.keys79_ren := {
  mixed := by kernel_rfl
  f7 := ⟨Try.f79.name, by decide, Try.func79.trans (congrArg some (by kernel_rfl))⟩
  f10 := ⟨Try.f99.name, by decide, Try.func99.trans (congrArg some (by kernel_rfl))⟩
  t0 := Try.underlying0
  a0 := Try.isAgg0
  z0 := Try.sizeOf0
  v0 := Try.zeroValue0
  t4 := Try.underlying4
  a4 := Try.isAgg4
  z4 := Try.sizeOf4
  v4 := Try.zeroValue4
  t23 := Try.underlying84
  a23 := Try.isAgg84
  z23 := Try.sizeOf84
  v23 := Try.zeroValue84
  t26 := Try.underlying9
  a26 := Try.isAgg9
  z26 := Try.sizeOf9
  v26 := Try.zeroValue9
  t27 := Try.underlying132
  a27 := Try.isAgg132
  z27 := Try.sizeOf132
  v27 := Try.zeroValue132
  t28 := Try.underlying133
  a28 := Try.isAgg133
  z28 := Try.sizeOf133
  v28 := Try.zeroValue133
  t33 := Try.underlying164
  a33 := Try.isAgg164
  z33 := Try.sizeOf164
  v33 := Try.zeroValue164 }
def Try.sorted78_ren : Go.Shelf.Ren := ⟨fun | 6 => 78 | 8 => 97 | 9 => 98 | 11 => 118 | 13 => 120 | 12 => 119 | 23 => 136 | 24 => 137 | 14 => 127 | 15 => 128 | 16 => 129 | 17 => 130 | 18 => 131 | 19 => 132 | 20 => 133 | 21 => 134 | 22 => 135 | 25 => 138 | 26 => 139 | 27 => 140 | 28 => 141 | 29 => 142 | 30 => 143 | 31 => 144 | n => n, fun | 26 => 9 | 28 => 133 | 24 => 80 | 0 => 0 | 3 => 3 | 37 => 105 | 48 => 155 | 50 => 158 | 4 => 4 | 40 => 192 | 39 => 191 | 45 => 196 | 5 => 5 | 9 => 9 | 51 => 201 | 55 => 205 | 57 => 207 | 58 => 208 | 33 => 164 | n => n, fun | n => n⟩
theorem Try.sorted78 : Go.Proofs.SlLaysZ.n6 Try.prog Try.sorted78_ren := {
  mixed := by kernel_rfl
  f6 := ⟨Try.f78.name, by decide, Try.func78.trans (congrArg some (by kernel_rfl))⟩
  f8 := ⟨Try.f97.name, by decide, Try.func97.trans (congrArg some (by kernel_rfl))⟩
  f11 := ⟨Try.f118.name, by decide, Try.func118.trans (congrArg some (by kernel_rfl))⟩
  t0 := Try.underlying0
  a0 := Try.isAgg0
  z0 := Try.sizeOf0
  v0 := Try.zeroValue0
  t24 := Try.underlying80
  a24 := Try.isAgg80
  z24 := Try.sizeOf80
  v24 := Try.zeroValue80
  t26 := Try.underlying9
  a26 := Try.isAgg9
  z26 := Try.sizeOf9
  v26 := Try.zeroValue9
  t28 := Try.underlying133
  a28 := Try.isAgg133
  z28 := Try.sizeOf133
  v28 := Try.zeroValue133
  i26 := by kernel_rfl }
def Try.sort98_ren : Go.Shelf.Ren := ⟨fun | 6 => 98 | 8 => 120 | 9 => 119 | 19 => 136 | 20 => 137 | 21 => 127 | 22 => 128 | 23 => 129 | 24 => 130 | 25 => 131 | 26 => 132 | 27 => 133 | 28 => 134 | 29 => 135 | 36 => 138 | 31 => 139 | 32 => 140 | 37 => 141 | 38 => 142 | 39 => 143 | 41 => 144 | n => n, fun | 27 => 80 | 29 => 9 | 3 => 3 | 32 => 105 | 26 => 80 | 0 => 0 | 44 => 155 | 46 => 158 | 4 => 4 | 36 => 192 | 35 => 191 | 41 => 196 | 5 => 5 | 9 => 9 | 53 => 201 | 57 => 205 | 63 => 207 | 64 => 208 | n => n, fun | n => n⟩
theorem Try.sort98 : Go.Proofs.SlLaysM.n6 Try.prog Try.sort98_ren := {
  mixed := by kernel_rfl
  f6 := ⟨Try.f98.name, by decide, Try.func98.trans (congrArg some (by kernel_rfl))⟩
  f8 := Try.func120.trans (congrArg some (by kernel_rfl))
  f9 := ⟨Try.f119.name, by decide, Try.func119.trans (congrArg some (by kernel_rfl))⟩
  f19 := Try.func136.trans (congrArg some (by kernel_rfl))
  f20 := Try.func137.trans (congrArg some (by kernel_rfl))
  f21 := ⟨Try.f127.name, by decide, Try.func127.trans (congrArg some (by kernel_rfl))⟩
  f22 := ⟨Try.f128.name, by decide, Try.func128.trans (congrArg some (by kernel_rfl))⟩
  f23 := ⟨Try.f129.name, by decide, Try.func129.trans (congrArg some (by kernel_rfl))⟩
  f24 := ⟨Try.f130.name, by decide, Try.func130.trans (congrArg some (by kernel_rfl))⟩
  f25 := ⟨Try.f131.name, by decide, Try.func131.trans (congrArg some (by kernel_rfl))⟩
  f26 := ⟨Try.f132.name, by decide, Try.func132.trans (congrArg some (by kernel_rfl))⟩
  f27 := ⟨Try.f133.name, by decide, Try.func133.trans (congrArg some (by kernel_rfl))⟩
  f28 := ⟨Try.f134.name, by decide, Try.func134.trans (congrArg some (by kernel_rfl))⟩
  f29 := ⟨Try.f135.name, by decide, Try.func135.trans (congrArg some (by kernel_rfl))⟩
  f31 := Try.func139.trans (congrArg some (by kernel_rfl))
  f32 := Try.func140.trans (congrArg some (by kernel_rfl))
  f36 := ⟨Try.f138.name, by decide, Try.func138.trans (congrArg some (by kernel_rfl))⟩
  f37 := ⟨Try.f141.name, by decide, Try.func141.trans (congrArg some (by kernel_rfl))⟩
  f38 := ⟨Try.f142.name, by decide, Try.func142.trans (congrArg some (by kernel_rfl))⟩
  f39 := ⟨Try.f143.name, by decide, Try.func143.trans (congrArg some (by kernel_rfl))⟩
  f41 := ⟨Try.f144.name, by decide, Try.func144.trans (congrArg some (by kernel_rfl))⟩
  t0 := Try.underlying0
  a0 := Try.isAgg0
  z0 := Try.sizeOf0
  v0 := Try.zeroValue0
  t3 := Try.underlying3
  a3 := Try.isAgg3
  z3 := Try.sizeOf3
  v3 := Try.zeroValue3
  t4 := Try.underlying4
  a4 := Try.isAgg4
  z4 := Try.sizeOf4
  v4 := Try.zeroValue4
  t5 := Try.underlying5
  a5 := Try.isAgg5
  z5 := Try.sizeOf5
  v5 := Try.zeroValue5
  t9 := Try.underlying9
  a9 := Try.isAgg9
  z9 := Try.sizeOf9
  v9 := Try.zeroValue9
  t26 := Try.underlying80
  a26 := Try.isAgg80
  z26 := Try.sizeOf80
  v26 := Try.zeroValue80
  t27 := Try.underlying80
  a27 := Try.isAgg80
  z27 := Try.sizeOf80
  v27 := Try.zeroValue80
  t29 := Try.underlying9
  a29 := Try.isAgg9
  z29 := Try.sizeOf9
  v29 := Try.zeroValue9
  t32 := Try.underlying105
  a32 := Try.isAgg105
  z32 := Try.sizeOf105
  v32 := Try.zeroValue105
  t35 := Try.underlying191
  a35 := Try.isAgg191
  z35 := Try.sizeOf191
  v35 := Try.zeroValue191
  t36 := Try.underlying192
  a36 := Try.isAgg192
  z36 := Try.sizeOf192
  v36 := Try.zeroValue192
  t41 := Try.underlying196
  a41 := Try.isAgg196
  z41 := Try.sizeOf196
  v41 := Try.zeroValue196
  t44 := Try.underlying155
  a44 := Try.isAgg155
  z44 := Try.sizeOf155
  v44 := Try.zeroValue155
  t46 := Try.underlying158
  a46 := Try.isAgg158
  z46 := Try.sizeOf158
  v46 := Try.zeroValue158
  t53 := Try.underlying201
  a53 := Try.isAgg201
  z53 := Try.sizeOf201
  v53 := Try.zeroValue201
  t57 := Try.underlying205
  a57 := Try.isAgg205
  z57 := Try.sizeOf205
  v57 := Try.zeroValue205
  t63 := Try.underlying207
  a63 := Try.isAgg207
  z63 := Try.sizeOf207
  v63 := Try.zeroValue207
  t64 := Try.underlying208
  a64 := Try.isAgg208
  z64 := Try.sizeOf208
  v64 := Try.zeroValue208 }
theorem Try.sorts78 (m : Nat) : AnyZ.SortsIn Try.prog Try.sorted78_ren Fence.wide m :=
  ⟨fun blk off cap ss W hH hblk hsz => callsIn_wide.2 (AnyM.slices_Sort_string Try.sort98 blk off cap ss W hH hblk hsz),
   fun p cap W => callsIn_wide.2 (AnyM.slices_Sort_string_none Try.sort98 p cap W)⟩
theorem Try.maps_Keys_79 (mb : Option Nat) (W : World) : CallsIn Fence.wide 5 Try.prog 79 #[.map mb] W fun e w' => e = .returned (.func (.func 99) #[] #[.pointer (some ⟨W.heap.size, 0, none⟩)]) ∧ w' = W.alloc (.cells #[.map mb] 84) :=
  AnyZ.keys_in Try.keys79 Fence.wide 5 trivial rfl mb W
set_option maxHeartbeats 1000000 in
theorem Try.slices_Sorted_keys_78_79 {H : Type} (b nn : Nat) (D0 : DataW H) (R : Value → Option (DataW H × List MemPlace)) (w : World) (hown : w.ownsMap Try.prog 9 R b nn D0) (hmax : Maps.size D0 ≤ maxLen) (hbytes : Maps.size D0 * 16 ≤ 140737488355328) :
    CallsIn Fence.wide 5 Try.prog 78 #[.func (.func 99) #[] #[.pointer (some ⟨w.heap.size, 0, none⟩)]] (w.alloc (.cells #[.map (some b)] 84)) fun e w' => ∃ (v : Value) (ss : List (List UInt8)), e = .returned v ∧ ss.Perm (strKeys D0) ∧
      w'.ownsRow (w.alloc (.cells #[.map (some b)] 84)).heap.size 9 1 v ss.length ((ss.mergeSort (fun x y => decide (x ≤ y))).map encStr) ∧ (v = .slice none 0 0 ↔ ss = []) ∧ Below (w.alloc (.cells #[.map (some b)] 84)).heap.size (w.alloc (.cells #[.map (some b)] 84)) w' := by
  have hbl := hown.lt
  have hseq : SeqGives Fence.wide 2 Try.prog 99 #[.pointer (some ⟨w.heap.size, 0, none⟩)] encStr (fun ss => ss.Perm (strKeys D0)) (Maps.size D0) (w.alloc (.cells #[.map (some b)] 84)) :=
    AnyZ.keys_gives (ρ := Try.keys79_ren) { Try.keys79 with } Fence.wide _ trivial rfl (by omega) w.heap.size b nn D0 _ (by simp) (by simp) (by
      obtain ⟨es, clock, hb, Ft, hs, hD⟩ := hown
      exact ⟨es, clock, (Below.heap_alloc _ _ b hbl).trans hb, Ft, hs, hD⟩)
  exact AnyZ.sorted_in Try.sorted78 Fence.wide 5 trivial trivial trivial trivial rfl (by omega) (Try.sorts78 _) (enters_of Try.func98 (by kernel_rfl) rfl) 99 #[.pointer (some ⟨w.heap.size, 0, none⟩)] trivial (enters_of Try.func99 (by kernel_rfl) rfl) _ _ hmax hbytes _ hseq
end Go.Proofs
namespace Go.Proofs.Ytjebkpcekkkbkaa.B
open Go.RowKit Go.Shelf Go.ChangeMaps Go.Proofs Go.Proofs.YtjebkpcekkkbkaaW.PrintWords Go.Proofs.YtjebkpcekkkbkaaW.PrintLast Go.Proofs.YtjebkpcekkkbkaaW.PrintMore Go.Proofs.Ytjebkpcekkkbkaa.FBase
noncomputable def names (L : DL) : List ByteArray := ((L.map (·.1)).mergeSort (fun x y => decide (x ≤ y))).map fun l => ⟨l.toArray⟩
theorem names_len (L : DL) : (names L).length = L.length := by unfold names; rw [List.length_map, List.length_mergeSort, List.length_map]
section
variable {M : Nat → Prop} {W : World} {s : Nat} {L : DL} {many : Int}
set_option maxRecDepth 100000 in
set_option maxHeartbeats 4000000 in
theorem List_is (h : IsStore M W s L many) (h8 : L.length ≤ 8) :
    Calls Try.prog 49 #[.pointer (some ⟨s, 0, none⟩)] W fun e W' => ∃ v : Value, e = .returned v ∧ Kd.R Kd.string 9 W' W.heap.size (fun _ => True) v (names L) ∧ (L = [] → v = .slice none 0 0) ∧ Below W.heap.size W W' := by
  obtain ⟨m, P, T, D, h, hM⟩ := h
  have c0 : W.cell? ⟨s, 0, none⟩ = some (.map (some m)) := h.st.cell 0
  have hsz := h.rep.size
  have HK := Aside0.mk h.rep.keys
  have HO := Aside0.mk h.mp
  have h1 : Maps.size D ≤ maxLen := by unfold maxLen; omega
  have h2 : Maps.size D * 16 ≤ 140737488355328 := by omega
  clear h hsz h8
  go_enter Try.func49, Try.ntmps49
  go_wp2_with (first | (go_at_call 79; refine (callsIn_wide.1 (Try.maps_Keys_79 _ _)).mono ?_; rintro e w1 ⟨rfl, rfl⟩) | (go_at_call 78; refine (callsIn_wide.1 (Try.slices_Sorted_keys_78_79 m L.length D docElem W HO.out h1 h2)).mono ?_; rintro e w2 ⟨v, ss, rfl, hS, hrow, hnil, hb⟩; have HS := Aside0.mk hS; have HR := Aside0.mk hrow; have HN := Aside0.mk hnil; have HB := Aside0.mk hb; clear hS hrow hnil hb))
  go_ret
  have hp : (ss.mergeSort (fun x y => decide (x ≤ y))) = ((L.map (·.1)).mergeSort (fun x y => decide (x ≤ y))) := mergeSort_of_perm (HS.out.trans HK.out)
  refine ⟨v, rfl, ?_, fun e => ?_, below_step (below_alloc (Below.refl _ _) _) HB.out⟩
  · have hr := HR.out
    rw [hp] at hr
    have hl : ss.length = (names L).length := by rw [names_len, (HS.out.trans HK.out).length_eq, List.length_map]
    rw [hl] at hr
    refine Kd.R_lower (base := (W.alloc (.cells #[.map (some m)] 84)).heap.size) (Kd.R_of_own (enc := Value.string) (h1 := fun _ => rfl) (xs := names L) ?_ (fun _ _ => trivial)) (below_alloc (Below.refl W.heap.size W) (.cells #[.map (some m)] 84)).size
    have he : (((L.map (·.1)).mergeSort (fun x y => decide (x ≤ y))).map encStr) = encs Value.string (names L) := by
      unfold names encs
      rw [List.map_map]
      rfl
    rw [← he]
    exact hr
  · refine HN.out.2 ?_
    have := (HS.out.trans HK.out).length_eq
    rw [e] at this
    exact List.eq_nil_of_length_eq_zero this
end
end Go.Proofs.Ytjebkpcekkkbkaa.B
namespace Go.Proofs.Ytjebkpcekkkbkaa.B
open Go.RowKit Go.Shelf Go.ChangeMaps Go.Proofs Go.Proofs.YtjebkpcekkkbkaaW.PrintWords Go.Proofs.YtjebkpcekkkbkaaW.PrintLast Go.Proofs.YtjebkpcekkkbkaaW.PrintMore Go.Proofs.Ytjebkpcekkkbkaa.FBase
structure Sto (w W : World) (M : Nat → Prop) (s : Nat) (L : DL) (many : Int) (F : World → Prop) : Prop where
  bel : Below w.heap.size w W
  base : ∀ k, M k → w.heap.size ≤ k
  st : IsStore M W s L many
  out : Out M W F
section
variable {w W W' : World} {M M' : Nat → Prop} {s : Nat} {L L' : DL} {many many' : Int} {F G : World → Prop}
theorem Sto.step (h : Sto w W M s L many F) (hb : Below W.heap.size W W') : Sto w W' M s L many F := ⟨below_step h.bel hb, h.base, h.st.below hb, h.out.grow (Grow.of_below hb)⟩
theorem Sto.op (h : Sto w W M s L many F) (hs : IsStore M' W' s L' many') (hg : Grow M M' W W') : Sto w W' M' s L' many' F :=
  ⟨h.bel.trans (hg.same.below h.bel.size h.base), fun k hk => (hg.more k hk).elim (h.base k) (fun h2 => Nat.le_trans h.bel.size h2), hs, h.out.grow hg⟩
theorem Sto.add (h : Sto w W M s L many F) (hG : Out M W G) : Sto w W M s L many (fun W => G W ∧ F W) := ⟨h.bel, h.base, h.st, hG.and h.out⟩
theorem Sto.only (h : Sto w W M s L many F) (hG : Out M W G) : Sto w W M s L many G := ⟨h.bel, h.base, h.st, hG⟩
theorem Sto.drop (h : Sto w W M s L many F) : Sto w W M s L many (fun _ => True) := h.only (Out.true _ _)
theorem Sto.of_new {M : Nat → Prop} (hF : F w) (hk : Keeps F) (hs : IsStore M W s [] 0) (hM : ∀ k, M k → w.heap.size ≤ k) (hb : Below w.heap.size w W) : Sto w W M s [] 0 F := ⟨hb, hM, hs, Out.of_keeps hF hk hb hM⟩
theorem Sto.map (h : Sto w W M s L many F) (k : ∀ W, F W → G W) : Sto w W M s L many G := h.only (h.out.mono k)
end
structure Stc (w W : World) (M : Nat → Prop) (s : Nat) (L : DL) (many : Int) (F : World → Prop) : Prop where
  bel : Below w.heap.size w W
  st : IsStore M W s L many
  out : Out M W F
section
variable {w W W' : World} {M : Nat → Prop} {s : Nat} {L : DL} {many : Int} {F G : World → Prop}
theorem Stc.step (h : Stc w W M s L many F) (hb : Below W.heap.size W W') : Stc w W' M s L many F := ⟨below_step h.bel hb, h.st.below hb, h.out.grow (Grow.of_below hb)⟩
theorem Stc.add (h : Stc w W M s L many F) (hG : Out M W G) : Stc w W M s L many (fun W => G W ∧ F W) := ⟨h.bel, h.st, hG.and h.out⟩
end
theorem cell_same {W W2 : World} {p : Addr} (h : W2.heap[p.block]? = W.heap[p.block]?) : W2.cell? p = W.cell? p := by
  unfold World.cell?
  rw [h]
theorem C_block {W W2 : World} {a : Addr} {n : Nat} {xs : List Int} (h : Kd.C (Kd.int .u8) W (some a) n xs) (e : W2.heap[a.block]? = W.heap[a.block]?) : Kd.C (Kd.int .u8) W2 (some a) n xs := by
  obtain ⟨h1, h2, h3⟩ := h
  refine ⟨h1, h2, fun hn => ?_⟩
  obtain ⟨ad, e1, h4⟩ := h3 hn
  injection e1 with e1
  subst e1
  refine ⟨a, rfl, fun j p hj => ?_⟩
  obtain ⟨c, hc, hK, h5⟩ := h4 j p hj
  exact ⟨c, hc, hK, fun i u hu => (cell_same (by rw [show ∀ k, (a.add k).block = a.block from fun k => by unfold Addr.add; (first | rfl | (split <;> rfl))]; exact e)).trans (h5 i u hu)⟩
theorem C_out {W : World} {M : Nat → Prop} {a : Addr} {n : Nat} {xs : List Int} (h : Kd.C (Kd.int .u8) W (some a) n xs) (hl : a.block < W.heap.size) (hM : ¬ M a.block) : Out M W (fun W => Kd.C (Kd.int .u8) W (some a) n xs) := fun W2 h2 => C_block h (h2.blk _ hl hM)
theorem nil_out (M : Nat → Prop) (W : World) : Out M W (fun W => Kd.C (Kd.int .u8) W none 0 []) := fun W2 _ => Kd.C_nil _ _
section
variable {w W : World} {M : Nat → Prop} {s : Nat} {L : DL} {many : Int}
theorem lver_is {k : List UInt8} {d : Dc} (h : lk L k = some d) : lver L k = d.ver ∧ lser L k = d.ser ∧ ltxt L k = d.txt ∧ lcode L k = 0 := by
  unfold lver lser ltxt lcode
  rw [h]
  exact ⟨rfl, rfl, rfl, rfl⟩
set_option maxRecDepth 100000 in
set_option maxHeartbeats 4000000 in
theorem has_yes (h : IsStore M W s L many) (u : ByteArray) (hu : u.size ≤ maxLen) (d : Dc) (hd : lk L (key u) = some d) (t : ByteArray) (ht : strOfNums d.txt = t) :
    Calls Try.prog 48 #[.pointer (some ⟨s, 0, none⟩), .string u, .string t, .int .i64 d.ver, .int .i64 d.ser] W fun e W' => e = .returned (.bool true) ∧ Below W.heap.size W W' := by
  have HS : Aside0 (Stc W W M s L many (fun _ => True)) := ⟨⟨Below.refl _ _, h, Out.true _ _⟩⟩
  obtain ⟨h1, h2, h3, h4⟩ := lver_is hd
  have HVE := Aside0.mk h1
  have HSE := Aside0.mk h2
  have HTX := Aside0.mk h3
  have HCD := Aside0.mk h4
  have HTT := Aside0.mk ht
  clear h1 h2 h3 h4 h ht
  go_enter Try.func48, Try.ntmps48
  go_wp2_with (first | (go_at_call 47; refine (Text_is (HS.out.step (by repeat (first | exact Below.refl _ _ | apply zq2 | apply zq3 | apply zq4 | apply zq5))).st u hu).mono ?_; rintro e w1 ⟨v, rfl, hR, hb⟩; rw [HTX.out] at hR; rw [HCD.out]; obtain ⟨A2, c2, rfl, hl2, hC2⟩ := Kd.R_reads hR; have ho := Out.of_from (own_from hR) (fun k hk => (HS.out.step (by repeat (first | exact Below.refl _ _ | apply zq2 | apply zq3 | apply zq4 | apply zq5))).st.lt hk); have m_ := Aside0.mk (((HS.out.step (by repeat (first | exact Below.refl _ _ | apply zq2 | apply zq3 | apply zq4 | apply zq5))).step hb).add ho); clear HS hb hR hC2 ho; have HS := m_; clear m_) | (go_at_call 44; refine (Version_is (HS.out.step (by repeat (first | exact Below.refl _ _ | apply zq2 | apply zq3 | apply zq4 | apply zq5))).st u hu).mono ?_; rintro e w2 ⟨rfl, hb⟩; rw [HVE.out, HCD.out]; have m_ := Aside0.mk ((HS.out.step (by repeat (first | exact Below.refl _ _ | apply zq2 | apply zq3 | apply zq4 | apply zq5))).step hb); clear HS hb; have HS := m_; clear m_) | (go_at_call 46; refine (Serial_is (HS.out.step (by repeat (first | exact Below.refl _ _ | apply zq2 | apply zq3 | apply zq4 | apply zq5))).st u hu).mono ?_; rintro e w3 ⟨rfl, hb⟩; rw [HSE.out, HCD.out]; have m_ := Aside0.mk ((HS.out.step (by repeat (first | exact Below.refl _ _ | apply zq2 | apply zq3 | apply zq4 | apply zq5))).step hb); clear HS hb; have HS := m_; clear m_; have ks := Kd.C_string (P := Try.prog) (w := w3) (src := 22) (dst := 9) (e := 5) (c := c2) Try.underlying22 Try.underlying5 Try.underlying9 HS.out.out.now.1; rw [HTT.out] at ks))
  go_ret
  exact ⟨rfl, HS.out.bel⟩
end
end Go.Proofs.Ytjebkpcekkkbkaa.B
namespace Go.Proofs.Ytjebkpcekkkbkaa.B
open Go.RowKit Go.Shelf Go.ChangeMaps Go.Proofs Go.Proofs.YtjebkpcekkkbkaaW.PrintWords Go.Proofs.YtjebkpcekkkbkaaW.PrintLast Go.Proofs.YtjebkpcekkkbkaaW.PrintMore Go.Proofs.Ytjebkpcekkkbkaa.FBase
theorem keeps_tt : Keeps (fun _ => True) := fun _ _ _ _ => trivial
theorem lit_out {M : Nat → Prop} {W : World} {s : Nat} {L : DL} {many : Int} (h : IsStore M W s L many) (g : Nat) (l : List Int) (cs : Array Value) (t : TypeId) (fr : Nat × Nat) (hg : W.heap.size = g) (hcs : cs.toList = l.map (Value.int .u8)) (hn : l.length ≤ 9223372036854775807) :
    Out M (W.alloc (.cells cs t fr)) (fun W => Kd.C (Kd.int .u8) W (some ⟨g, 0, none⟩) l.length l) :=
  C_out (lit_mark W g l cs t fr hg hcs hn) (by rw [World.size_alloc]; show g < _; omega) (fun hm => by have := h.lt hm; simp only at this; omega)
theorem strs_mark (W : World) (g : Nat) (l : List ByteArray) (cs : Array Value) (t : TypeId) (fr : Nat × Nat) (hg : W.heap.size = g) (hcs : cs.toList = l.map Value.string) (hn : l.length ≤ 9223372036854775807) : Kd.C Kd.string (W.alloc (.cells cs t fr)) (some ⟨g, 0, none⟩) l.length l := by
  subst hg
  refine Kd.C_of_reads (d := ByteArray.empty) ⟨rfl, hn, fun _ => ⟨_, rfl, fun j hj => ?_⟩⟩
  rw [show (⟨W.heap.size, 0, none⟩ : Addr).add j = ⟨W.heap.size, j, none⟩ by simp [Addr.add]; omega, cell_of_row _ _ j cs t fr (blk_new W _), ← Array.getElem?_toList, hcs]
  simp [List.getD, hj]
theorem aw_B120 : Bytes [120] := by intro x hx; simp at hx; try omega
theorem aw_c120 : (chk [120]).2 = 0 := by decide +kernel
theorem aw_B121 : Bytes [121] := by intro x hx; simp at hx; try omega
theorem aw_c121 : (chk [121]).2 = 0 := by decide +kernel
theorem aw_B122 : Bytes [122] := by intro x hx; simp at hx; try omega
theorem aw_c122 : (chk [122]).2 = 0 := by decide +kernel
theorem aw_Bnil : Bytes [] := by intro x hx; simp at hx; try omega
theorem aw_cnil : (chk []).2 = 0 := by decide +kernel
theorem aw_names (g1 g2 : Nat) (A1 A2 : Option Addr) (c1 c2 : Nat) : names [([98], ⟨g2, 0, 2, A2, c2, []⟩), ([97], ⟨g1, 3, 1, A1, c1, [120]⟩)] = [⟨#[97]⟩, ⟨#[98]⟩] := by
  unfold names
  rw [mergeSort_of_perm (show (List.map (·.1) ([([98], ⟨g2, 0, 2, A2, c2, []⟩), ([97], ⟨g1, 3, 1, A1, c1, [120]⟩)] : DL)).Perm [[97], [98]] from List.Perm.swap _ _ _)]
  rw [List.mergeSort_of_pairwise (show List.Pairwise (fun a b => leB a b = true) [[97], [98]] by decide)]
  rfl
theorem aw_eq : colophonref10_EqTexts.f 4 [⟨#[97]⟩, ⟨#[98]⟩] [⟨#[97]⟩, ⟨#[98]⟩] = some true := by decide +kernel
theorem aw_eds : ∀ x ∈ [(⟨true, ⟨⟨0, 0⟩, ⟨0, 0⟩⟩, ⟨#[121]⟩⟩ : S29)], x.f2.size ≤ 140737488351232 ∧ x.f1.f0.f1 ≤ 9223372036854775807 ∧ x.f1.f1.f1 ≤ 9223372036854775807 := by
  intro x hx
  obtain rfl := List.mem_singleton.1 hx
  decide
theorem aw_app : eapp [120] ([(⟨true, ⟨⟨0, 0⟩, ⟨0, 0⟩⟩, ⟨#[121]⟩⟩ : S29)].map edOf) = ([121], 0) := by
  have hb : bytesOf ⟨#[121]⟩ = [121] := rfl
  have h1 : eone [120] (edOf (⟨true, ⟨⟨0, 0⟩, ⟨0, 0⟩⟩, ⟨#[121]⟩⟩ : S29)) = ([121], 0) := by
    unfold eone edOf
    simp only []
    rw [hb]
    have he : esp [120] true 0 0 0 0 = (0, 1, 0) := by unfold esp; rw [if_pos rfl]; rfl
    rw [ech_ok aw_c120 aw_c121 he (by decide)]
    rfl
  unfold eapp
  rw [if_neg (by rw [aw_c120]; decide), if_neg (by decide), List.map_cons, List.map_nil]
  unfold eall
  rw [h1]
  simp only [ne_eq, not_true_eq_false, if_false, ite_false]
  rfl
theorem aw_code (g2 : Nat) (A2 : Option Addr) (c2 : Nat) : lcode [([98], ⟨g2, 0, 2, A2, c2, []⟩)] (key ⟨#[97]⟩) = 161 := rfl
set_option maxRecDepth 100000 in
set_option maxHeartbeats 8000000 in
theorem awake_ok (w : World) : Calls Try.prog 42 #[] w fun e w' => e = .returned (.bool true) ∧ Below w.heap.size w w' := by
  have kc := conv_lit
  have t1 := True.intro; have t2 := True.intro; have t3 := True.intro; have t4 := True.intro; have t5 := True.intro; have t6 := True.intro; have t7 := True.intro; have t8 := True.intro; have t9 := True.intro; have t10 := True.intro; have t11 := True.intro; have t12 := True.intro
  go_enter Try.func42, Try.ntmps42
  go_upto_region 2 with (go_at_call 33; refine (SNew_ok _).mono ?_; rintro e w1 ⟨s, M0, rfl, hs, hM, hb⟩; have HS := Aside0.mk (Sto.of_new trivial keeps_tt hs hM hb); clear hs hM hb)
  go_upto_region 3 with (first | (have _t := t1; go_at_call 35; refine (Open_ok (HS.out.step (by repeat (first | exact Below.refl _ _ | apply zq2 | apply zq3 | apply zq4 | apply zq5))).st ⟨#[97]⟩ 3 _ _ [120] (by decide) (lit_out HS.out.st _ [120] #[.int .u8 120] 5 (1, 2) rfl rfl (by decide)) (Nat.le_refl _) (fun e => nomatch e) aw_B120 (by decide) (by decide) aw_c120 (by decide) rfl (of_decide_eq_true rfl) (by decide)).mono ?_; rintro e w2 ⟨rfl, M1, g1, A1, c1, hs, hg⟩; have hs2 : IsStore M1 w2 s [([97], ⟨g1, 3, 1, A1, c1, [120]⟩)] 1 := hs; have m_ := Aside0.mk ((HS.out.step (by repeat (first | exact Below.refl _ _ | apply zq2 | apply zq3 | apply zq4 | apply zq5))).op hs2 hg); clear HS hs hs2 hg; have HS := m_; clear m_; clear t1 _t) | (have _t := t2; go_at_call 35; refine (Open_y (HS.out.step (by repeat (first | exact Below.refl _ _ | apply zq2 | apply zq3 | apply zq4 | apply zq5))).st ⟨#[97]⟩ 4 _ _ [121] (by decide) (lit_mark w2 _ [121] #[.int .u8 121] 5 (1, 2) rfl rfl (by decide)) (Nat.le_refl _) (fun e => nomatch e) aw_B121 (by decide) (by decide) (by decide) aw_c121 (by decide) ⟨g1, 3, 1, A1, c1, [120]⟩ rfl).mono ?_; rintro e w3 ⟨rfl, hb⟩; have m_ := Aside0.mk ((HS.out.step (by repeat (first | exact Below.refl _ _ | apply zq2 | apply zq3 | apply zq4 | apply zq5))).step hb); clear HS hb; have HS := m_; clear m_; clear t2 _t) | (have _t := t3; go_at_call 35; refine (Open_ok (HS.out.step (by repeat (first | exact Below.refl _ _ | apply zq2 | apply zq3 | apply zq4 | apply zq5))).st ⟨#[98]⟩ 0 _ _ [] (by decide) (nil_out _ _) (Nat.le_refl _) (fun _ => rfl) aw_Bnil (by decide) (by decide) aw_cnil (by decide) rfl (of_decide_eq_true rfl) (by decide)).mono ?_; rintro e w4 ⟨rfl, M2, g2, A2, c2, hs, hg⟩; have hs2 : IsStore M2 w4 s [([98], ⟨g2, 0, 2, A2, c2, []⟩), ([97], ⟨g1, 3, 1, A1, c1, [120]⟩)] 2 := hs; have m_ := Aside0.mk ((HS.out.step (by repeat (first | exact Below.refl _ _ | apply zq2 | apply zq3 | apply zq4 | apply zq5))).op hs2 hg); clear HS hs hs2 hg; have HS := m_; clear m_; clear t3 _t))
  clear kc
  go_upto_region 4 with (first | (have _t := t4; go_at_call 48; refine (has_yes (HS.out.step (by repeat (first | exact Below.refl _ _ | apply zq2 | apply zq3 | apply zq4 | apply zq5))).st ⟨#[97]⟩ (by decide) ⟨g1, 3, 1, A1, c1, [120]⟩ rfl ⟨#[120]⟩ rfl).mono ?_; rintro e w5 ⟨rfl, hb⟩; have m_ := Aside0.mk ((HS.out.step (by repeat (first | exact Below.refl _ _ | apply zq2 | apply zq3 | apply zq4 | apply zq5))).step hb); clear HS hb; have HS := m_; clear m_; clear t4 _t) | (have _t := t5; go_at_call 48; refine (has_yes (HS.out.step (by repeat (first | exact Below.refl _ _ | apply zq2 | apply zq3 | apply zq4 | apply zq5))).st ⟨#[98]⟩ (by decide) ⟨g2, 0, 2, A2, c2, []⟩ rfl ⟨#[]⟩ rfl).mono ?_; rintro e w6 ⟨rfl, hb⟩; have m_ := Aside0.mk ((HS.out.step (by repeat (first | exact Below.refl _ _ | apply zq2 | apply zq3 | apply zq4 | apply zq5))).step hb); clear HS hb; have HS := m_; clear m_; clear t5 _t) | (go_at_call 49; refine (List_is (HS.out.step (by repeat (first | exact Below.refl _ _ | apply zq2 | apply zq3 | apply zq4 | apply zq5))).st (of_decide_eq_true rfl)).mono ?_; rintro e w7 ⟨v, rfl, hR, -, hb⟩; rw [aw_names] at hR; obtain ⟨A7, c7, rfl, hc7, hC7⟩ := Kd.R_reads hR; have HC7 := Aside0.mk hC7; have HL7 := Aside0.mk hc7; clear hR hC7 hc7; have m_ := Aside0.mk ((HS.out.step (by repeat (first | exact Below.refl _ _ | apply zq2 | apply zq3 | apply zq4 | apply zq5))).step hb); clear HS hb; have HS := m_; clear m_) | (go_at_call 74; refine (colophonref10_EqTexts.calls 4 A7 c7 [⟨#[97]⟩, ⟨#[98]⟩] _ _ [⟨#[97]⟩, ⟨#[98]⟩] true _ (Kd.C_below HC7.out (by repeat (first | exact Below.refl _ _ | apply zq2 | apply zq3 | apply zq4 | apply zq5))) HL7.out (strs_mark w7 _ [⟨#[97]⟩, ⟨#[98]⟩] #[.string ⟨#[97]⟩, .string ⟨#[98]⟩] 9 (0, 0) rfl rfl (by decide)) (Nat.le_refl _) aw_eq).mono ?_; rintro e w8 ⟨rfl, hd⟩; have hb := hd.below; clear hd; have m_ := Aside0.mk ((HS.out.step (by repeat (first | exact Below.refl _ _ | apply zq2 | apply zq3 | apply zq4 | apply zq5))).step hb); clear HS hb; have HS := m_; clear m_))
  clear HC7 HL7
  go_upto_region 5 with (first | (have _t := t6; go_at_call 50; refine (colophonlaw16_whole.calls ⟨#[121]⟩ [(⟨true, ⟨⟨0, 0⟩, ⟨0, 0⟩⟩, ⟨#[121]⟩⟩ : S29)] _ rfl).mono ?_; rintro e w9 ⟨v, rfl, hR, hb⟩; obtain ⟨B1, d1, rfl, -, hC⟩ := Kd.R_reads hR; have HCE := Aside0.mk hC; clear hR hC; have m_ := Aside0.mk ((HS.out.step (by repeat (first | exact Below.refl _ _ | apply zq2 | apply zq3 | apply zq4 | apply zq5))).step hb); clear HS hb; have HS := m_; clear m_; clear t6 _t) | (have _t := t8; go_at_call 37; refine (Change_v (HS.out.step (by repeat (first | exact Below.refl _ _ | apply zq2 | apply zq3 | apply zq4 | apply zq5))).st ⟨#[97]⟩ 3 B1 d1 [(⟨true, ⟨⟨0, 0⟩, ⟨0, 0⟩⟩, ⟨#[121]⟩⟩ : S29)] (by decide) HCE.out aw_eds ⟨g1, 3, 1, A1, c1, [120]⟩ rfl (.inl (of_decide_eq_true rfl))).mono ?_; rintro e w10 ⟨rfl, hb⟩; clear HCE; have m_ := Aside0.mk ((HS.out.step (by repeat (first | exact Below.refl _ _ | apply zq2 | apply zq3 | apply zq4 | apply zq5))).step hb); clear HS hb; have HS := m_; clear m_; clear t8 _t) | (have _t := t7; go_at_call 50; refine (colophonlaw16_whole.calls ⟨#[121]⟩ [(⟨true, ⟨⟨0, 0⟩, ⟨0, 0⟩⟩, ⟨#[121]⟩⟩ : S29)] _ rfl).mono ?_; rintro e w11 ⟨v, rfl, hR, hb⟩; obtain ⟨B2, d2, rfl, -, hC⟩ := Kd.R_reads hR; have HCE := Aside0.mk hC; clear hR hC; have m_ := Aside0.mk ((HS.out.step (by repeat (first | exact Below.refl _ _ | apply zq2 | apply zq3 | apply zq4 | apply zq5))).step hb); clear HS hb; have HS := m_; clear m_; clear t7 _t) | (have _t := t9; go_at_call 37; refine (Change_ok (HS.out.step (by repeat (first | exact Below.refl _ _ | apply zq2 | apply zq3 | apply zq4 | apply zq5))).st ⟨#[97]⟩ 5 B2 d2 [(⟨true, ⟨⟨0, 0⟩, ⟨0, 0⟩⟩, ⟨#[121]⟩⟩ : S29)] (by decide) HCE.out aw_eds ⟨g1, 3, 1, A1, c1, [120]⟩ rfl ⟨of_decide_eq_true rfl, of_decide_eq_true rfl⟩ [121] aw_app).mono ?_; rintro e w12 ⟨rfl, M3, A3, c3, hs, hg⟩; have hs2 : IsStore M3 w12 s [([98], ⟨g2, 0, 2, A2, c2, []⟩), ([97], ⟨g1, 5, 1, A3, c3, [121]⟩)] 2 := hs; have m_ := Aside0.mk ((HS.out.step (by repeat (first | exact Below.refl _ _ | apply zq2 | apply zq3 | apply zq4 | apply zq5))).op hs2 hg); clear HS hs hs2 hg HCE; have HS := m_; clear m_; clear t9 _t) | (have _t := t10; go_at_call 48; refine (has_yes (HS.out.step (by repeat (first | exact Below.refl _ _ | apply zq2 | apply zq3 | apply zq4 | apply zq5))).st ⟨#[97]⟩ (by decide) ⟨g1, 5, 1, A3, c3, [121]⟩ rfl ⟨#[121]⟩ rfl).mono ?_; rintro e w13 ⟨rfl, hb⟩; have m_ := Aside0.mk ((HS.out.step (by repeat (first | exact Below.refl _ _ | apply zq2 | apply zq3 | apply zq4 | apply zq5))).step hb); clear HS hb; have HS := m_; clear m_; clear t10 _t))
  go_upto_region 6 with (go_at_call 39; refine (Close_yes (HS.out.step (by repeat (first | exact Below.refl _ _ | apply zq2 | apply zq3 | apply zq4 | apply zq5))).st ⟨#[97]⟩ (by decide) ⟨g1, 5, 1, A3, c3, [121]⟩ rfl).mono ?_; rintro e w14 ⟨rfl, hs, hg⟩; have hs2 : IsStore M3 w14 s [([98], ⟨g2, 0, 2, A2, c2, []⟩)] 2 := hs; have m_ := Aside0.mk ((HS.out.step (by repeat (first | exact Below.refl _ _ | apply zq2 | apply zq3 | apply zq4 | apply zq5))).op hs2 hg); clear HS hs hs2 hg; have HS := m_; clear m_)
  go_upto_region 7 with (go_at_call 47; refine (Text_is (HS.out.step (by repeat (first | exact Below.refl _ _ | apply zq2 | apply zq3 | apply zq4 | apply zq5))).st ⟨#[97]⟩ (by decide)).mono ?_; rintro e w15 ⟨v15, rfl, hR, hb⟩; rw [aw_code]; clear hR; have m_ := Aside0.mk ((HS.out.step (by repeat (first | exact Below.refl _ _ | apply zq2 | apply zq3 | apply zq4 | apply zq5))).step hb); clear HS hb; have HS := m_; clear m_)
  have kc := conv_lit
  go_wp2_with (first | (have _t := t11; go_at_call 35; refine (Open_ok (HS.out.step (by repeat (first | exact Below.refl _ _ | apply zq2 | apply zq3 | apply zq4 | apply zq5))).st ⟨#[97]⟩ 1 _ _ [122] (by decide) (lit_out HS.out.st _ [122] #[.int .u8 122] 5 (1, 2) rfl rfl (by decide)) (Nat.le_refl _) (fun e => nomatch e) aw_B122 (by decide) (by decide) aw_c122 (by decide) rfl (of_decide_eq_true rfl) (by decide)).mono ?_; rintro e w16 ⟨rfl, M4, g4, A4, c4, hs, hg⟩; have hs2 : IsStore M4 w16 s [([97], ⟨g4, 1, 3, A4, c4, [122]⟩), ([98], ⟨g2, 0, 2, A2, c2, []⟩)] 3 := hs; have m_ := Aside0.mk ((HS.out.step (by repeat (first | exact Below.refl _ _ | apply zq2 | apply zq3 | apply zq4 | apply zq5))).op hs2 hg); clear HS hs hs2 hg; have HS := m_; clear m_; clear t11 _t) | (have _t := t12; go_at_call 48; refine (has_yes (HS.out.step (by repeat (first | exact Below.refl _ _ | apply zq2 | apply zq3 | apply zq4 | apply zq5))).st ⟨#[97]⟩ (by decide) ⟨g4, 1, 3, A4, c4, [122]⟩ rfl ⟨#[122]⟩ rfl).mono ?_; rintro e w17 ⟨rfl, hb⟩; have m_ := Aside0.mk ((HS.out.step (by repeat (first | exact Below.refl _ _ | apply zq2 | apply zq3 | apply zq4 | apply zq5))).step hb); clear HS hb; have HS := m_; clear m_; clear t12 _t))
  go_ret
  exact ⟨rfl, HS.out.bel⟩
end Go.Proofs.Ytjebkpcekkkbkaa.B
