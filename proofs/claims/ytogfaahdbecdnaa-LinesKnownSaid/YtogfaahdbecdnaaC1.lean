/-
  The document's answer for lines: Count, Line, Find, walked.
-/
import Derived.Test.YtogfaahdbecdnaaC0
namespace Go.Proofs.Ytogfaahdbecdnaa.B
open Go.RowKit Go.Proofs.YtogfaahdbecdnaaW.PrintWords Go.Proofs.YtogfaahdbecdnaaW.PrintLast Go.Proofs.YtogfaahdbecdnaaW.PrintMore Go.Proofs.Ytogfaahdbecdnaa.FBase
set_option linter.unusedVariables false

theorem rd_whole (L : List Ln) (i : Int) (h0 : 0 ≤ i) (h1 : i < L.length) : rdSp (L.map whole) i = whole (rdLn L i) := by
  have h : i.toNat < L.length := by omega
  simp [rdSp, rdLn, List.getD, h]
theorem rd_plain (L : List Ln) (i : Int) (h0 : 0 ≤ i) (h1 : i < L.length) : rdSp (L.map plain) i = plain (rdLn L i) := by
  have h : i.toNat < L.length := by omega
  simp [rdSp, rdLn, List.getD, h]
theorem IsRef.cells {W : World} {a : Nat} {L : List Ln} (h : IsRef W a L) : ∃ A c A' c', W.cell? ⟨a, 0, none⟩ = some (.slice A L.length c) ∧ W.cell? ⟨a, 1, none⟩ = some (.slice A' L.length c') ∧ Kd.C kSp W A L.length (L.map whole) ∧ Kd.C kSp W A' L.length (L.map plain) := by
  obtain ⟨A, c, A', c', hb, hl, hl', hc, hc'⟩ := h
  exact ⟨A, c, A', c', (blk_cell hb 0).trans rfl, (blk_cell hb 1).trans rfl, hc, hc'⟩
theorem IsRef.at {W : World} {a : Nat} {L : List Ln} (h : IsRef W a L) (i : Int) (h0 : 0 ≤ i) (h1 : i < L.length) : ∃ ad c ad' c', W.cell? ⟨a, 0, none⟩ = some (.slice (some ad) L.length c) ∧ W.cell? ⟨a, 1, none⟩ = some (.slice (some ad') L.length c') ∧
    W.cell? (ad.add (i.toNat * 2)) = some (.int .i64 (rdLn L i).f0) ∧ W.cell? ⟨(ad.add (i.toNat * 2)).block, (ad.add (i.toNat * 2)).off + 1, none⟩ = some (.int .i64 (rdLn L i).f2) ∧
    W.cell? (ad'.add (i.toNat * 2)) = some (.int .i64 (rdLn L i).f0) ∧ W.cell? ⟨(ad'.add (i.toNat * 2)).block, (ad'.add (i.toNat * 2)).off + 1, none⟩ = some (.int .i64 (rdLn L i).f1) := by
  obtain ⟨A, c, A', c', h2, h3, hc, hc'⟩ := h.cells
  obtain ⟨ad, e, h4, h5⟩ := atSp hc i h0 h1
  obtain ⟨ad', e', h6, h7⟩ := atSp hc' i h0 h1
  rw [rd_whole L i h0 h1] at h4 h5
  rw [rd_plain L i h0 h1] at h6 h7
  subst e e'
  exact ⟨ad, c, ad', c', h2, h3, h4, h5, h6, h7⟩

/-- Count. -/
theorem RCount_ok (a : Nat) (L : List Ln) (w : World) (hI : IsRef w a L) :
    Calls Try.prog 25 #[.pointer (some ⟨a, 0, none⟩)] w fun e w' => e = .returned (.int .i64 L.length) ∧ w = w' := by
  obtain ⟨A, c, A', c', h2, h3, hc, hc'⟩ := hI.cells
  clear hc hc' hI h3
  go_enter Try.func25, Try.ntmps25
  go_wp2
  go_ret
  exact ⟨rfl, rfl⟩

set_option maxHeartbeats 2000000 in
/-- Line of a line that there is. -/
theorem RLine_ok (a : Nat) (L : List Ln) (i : Int) (w : World) (hI : IsRef w a L) (h0 : 0 ≤ i) (h1 : i < L.length) (hs : L.length ≤ 2097152) :
    Calls Try.prog 28 #[.pointer (some ⟨a, 0, none⟩), .int .i64 i] w fun e w' => e = .returned (.tuple #[.agg #[.int .i64 (rdLn L i).f0, .int .i64 (rdLn L i).f2], .agg #[.int .i64 (rdLn L i).f0, .int .i64 (rdLn L i).f1], .int .i64 0]) ∧ Below w.heap.size w w' := by
  obtain ⟨ad, c, ad', c', h2, h3, h4, h5, h6, h7⟩ := hI.at i h0 h1
  clear hI
  have l4 := World.block_lt_of_cell? _ _ h4
  have l6 := World.block_lt_of_cell? _ _ h6
  rw [add_block] at l4 l6
  have l2 : a < w.heap.size := World.block_lt_of_cell? _ _ h2
  generalize (rdLn L i).f0 = x0 at *
  generalize (rdLn L i).f1 = x1 at *
  generalize (rdLn L i).f2 = x2 at *
  have g2 := cell_alloc2 h2
  have g3 := cell_alloc2 h3
  have g4 := cell_alloc2 h4
  have g5 := cell_alloc2 h5
  have g6 := cell_alloc2 h6
  have g7 := cell_alloc2 h7
  clear h2 h3 h4 h5 h6 h7
  have hlt : decide (i < 0) = false := decide_eq_false (by omega)
  have hge : decide ((L.length : Int) ≤ i) = false := decide_eq_false (by omega)
  go_enter Try.func28, Try.ntmps28
  go_wp2
  go_region
  go_wp2
  refine bodyPost_ret (v := .tuple #[.agg #[.int .i64 x0, .int .i64 x2], .agg #[.int .i64 x0, .int .i64 x1], .int .i64 0]) (by simp [results, Try.results28, go_sem]) rfl ⟨rfl, ?_⟩
  repeat (first | exact Below.refl _ _ | apply below_alloc | apply pw_below_drewN | apply below_drew1 | refine Below.setCell ?_ (by simp) _)

/-- The line of a byte. -/
def FindAt (L : List Ln) (at_ : Int) (r : Nat) : Prop := r < L.length ∧ (∀ t : Nat, t < r → (rdLn L t).f2 ≤ at_) ∧ (r + 1 < L.length → at_ < (rdLn L r).f2)
theorem FindAt.uniq {L : List Ln} {at_ : Int} {r s : Nat} (h : FindAt L at_ r) (k : FindAt L at_ s) : r = s := by
  rcases Nat.lt_trichotomy r s with hlt | e | hlt
  · have h1 := k.2.1 r hlt
    have h2 := h.2.2 (by have := k.1; omega)
    omega
  · exact e
  · have h1 := h.2.1 s hlt
    have h2 := k.2.2 (by have := h.1; omega)
    omega

set_option maxHeartbeats 2000000 in
/-- Find of a byte that there is. -/
theorem RFind_ok (a : Nat) (L : List Ln) (at_ : Int) (w : World) (hI : IsRef w a L) (hpos : 0 < L.length) (h0 : 0 ≤ at_) (h1 : at_ ≤ (rdLn L ((L.length : Int) - 1)).f2) (hs : L.length ≤ 2097152) :
    Calls Try.prog 32 #[.pointer (some ⟨a, 0, none⟩), .int .i64 at_] w fun e w' => ∃ r : Nat, e = .returned (.tuple #[.int .i64 r, .int .i64 0]) ∧ FindAt L at_ r ∧ w = w' := by
  obtain ⟨n, hn⟩ : ∃ n, L.length = n + 1 := ⟨L.length - 1, by omega⟩
  have HI := Aside0.mk hI
  obtain ⟨ad, c, ad', c', h2, h3, h4, h5, h6, h7⟩ := hI.at (n : Int) (by omega) (by omega)
  clear hI h3 h4 h6 h7
  rw [hn] at h2 hs h1
  rw [show (((n + 1 : Nat) : Int) - 1) = (n : Int) by omega] at h1
  rw [Int.toNat_natCast] at h5
  have HN := Aside0.mk hn
  clear hn hpos
  have hlt : decide (at_ < 0) = false := decide_eq_false (by omega)
  have hgt : decide ((rdLn L (n : Int)).f2 < at_) = false := decide_eq_false (by omega)
  have H1 := Aside0.mk h1
  clear h1
  generalize hz : (rdLn L (n : Int)).f2 = z at h5 hgt
  have HZ := Aside0.mk hz
  clear hz
  go_enter Try.func32, Try.ntmps32
  go_wp2
  clear h5 hlt hgt
  go_loop [7] (fun s7 => ∃ k : Nat, s7 = .int .i64 k ∧ k ≤ n ∧ Aside0 (∀ t : Nat, t < k → (rdLn L t).f2 ≤ at_)) (fun s7 => n - (intOf s7).toNat)
  case atStart => exact ⟨0, rfl, Nat.zero_le _, ⟨fun t ht => absurd ht (Nat.not_lt_zero _)⟩⟩
  case round =>
    obtain ⟨k, rfl, hk, HK⟩ := hrel
    by_cases hlt : k < n
    · obtain ⟨ad2, c2, ad2', c2', k2, k3, k4, k5, k6, k7⟩ := HI.out.at (k : Int) (by omega) (by have := HN.out; omega)
      rw [HN.out] at k2
      have e := Option.some.inj (k2.symm.trans h2)
      injection e with e1 e2 e3
      injection e1 with e1
      subst e1 e3
      rw [Int.toNat_natCast] at k5
      clear k2 k3 k4 k6 k7
      by_cases hb : at_ < (rdLn L (k : Int)).f2
      · have hd : decide (at_ < (rdLn L (k : Int)).f2) = true := decide_eq_true hb
        have HBB := Aside0.mk hb
        clear hb
        generalize hz2 : (rdLn L (k : Int)).f2 = z2 at k5 hd
        have HZ2 := Aside0.mk hz2
        clear hz2
        go_wp2
        go_ret2
        exact ⟨k, rfl, ⟨by have := HN.out; omega, HK.out, fun _ => HBB.out⟩, rfl⟩
      · have hd : decide (at_ < (rdLn L (k : Int)).f2) = false := decide_eq_false hb
        have HBB := Aside0.mk hb
        clear hb
        generalize hz2 : (rdLn L (k : Int)).f2 = z2 at k5 hd
        have HZ2 := Aside0.mk hz2
        clear hz2
        go_wp2
        go_round
        case rel => exact ⟨k + 1, by go_num, by omega, ⟨fun t ht => by
          rcases Nat.lt_succ_iff_lt_or_eq.1 ht with h | rfl
          · exact HK.out t h
          · have := HBB.out; omega⟩⟩
        case measure => simp [intOf]; omega
    · obtain rfl : k = n := by omega
      go_wp2
      go_ret2
      exact ⟨k, rfl, ⟨by have := HN.out; omega, HK.out, fun h => by have := HN.out; omega⟩, rfl⟩

set_option maxHeartbeats 2000000 in
/-- Find of a byte that there isn't. -/
theorem RFind_out (a : Nat) (L : List Ln) (at_ : Int) (w : World) (hI : IsRef w a L) (hpos : 0 < L.length) (h1 : at_ < 0 ∨ (rdLn L ((L.length : Int) - 1)).f2 < at_) (hs : L.length ≤ 2097152) :
    Calls Try.prog 32 #[.pointer (some ⟨a, 0, none⟩), .int .i64 at_] w fun e w' => e = .returned (.tuple #[.int .i64 0, .int .i64 9]) ∧ w = w' := by
  obtain ⟨n, hn⟩ : ∃ n, L.length = n + 1 := ⟨L.length - 1, by omega⟩
  obtain ⟨ad, c, ad', c', h2, h3, h4, h5, h6, h7⟩ := hI.at (n : Int) (by omega) (by omega)
  clear hI h3 h4 h6 h7
  rw [hn] at h2 hs h1
  rw [show (((n + 1 : Nat) : Int) - 1) = (n : Int) by omega] at h1
  rw [Int.toNat_natCast] at h5
  clear hn hpos
  generalize (rdLn L (n : Int)).f2 = z at *
  by_cases hlt0 : at_ < 0
  · have hlt : decide (at_ < 0) = true := decide_eq_true hlt0
    clear h1
    go_enter Try.func32, Try.ntmps32
    go_wp2
    go_ret2
    exact ⟨rfl, rfl⟩
  · have hlt : decide (at_ < 0) = false := decide_eq_false hlt0
    have hgt : decide (z < at_) = true := decide_eq_true (by omega)
    go_enter Try.func32, Try.ntmps32
    go_wp2
    go_ret2
    exact ⟨rfl, rfl⟩
end Go.Proofs.Ytogfaahdbecdnaa.B
