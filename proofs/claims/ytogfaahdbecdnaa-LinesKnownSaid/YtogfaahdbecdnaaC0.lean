/-
  The document's answer for lines: New, walked.
-/
import Derived.Test.YtogfaahdbecdnaaB5
import Derived.Test.YtogfaahdbecdnaaFBasex5
namespace Go.Proofs.Ytogfaahdbecdnaa.B
open Go.RowKit Go.Proofs.YtogfaahdbecdnaaW.PrintWords Go.Proofs.YtogfaahdbecdnaaW.PrintLast Go.Proofs.YtogfaahdbecdnaaW.PrintMore Go.Proofs.Ytogfaahdbecdnaa.FBase
set_option linter.unusedVariables false

/-- A span. -/
structure Sp where
  f0 : Int
  f1 : Int
deriving DecidableEq
def zSp : Sp := ⟨0, 0⟩
def kSp : Kd Sp := Kd.iso (Kd.pair (Kd.int .i64) (Kd.int .i64)) (fun x : Sp => (x.f0, x.f1))
theorem kSp_open {w : World} {x : Sp} {cs : List Value} (h : kSp.K w x cs) : cs = [.int .i64 x.f0, .int .i64 x.f1] := by
  obtain ⟨_, _, rfl, rfl, rfl⟩ := h
  exact rfl
theorem kSp_mkM (w : World) (base : Nat) (ok : Nat → Prop) (x : Sp) : kSp.M w base ok x [.int .i64 x.f0, .int .i64 x.f1] := ⟨[.int .i64 x.f0], [.int .i64 x.f1], rfl, rfl, rfl⟩
def rdSp (xs : List Sp) (i : Int) : Sp := xs.getD i.toNat zSp
theorem atSp {w : World} {A : Option Addr} {n : Nat} {xs : List Sp} (h : Kd.C kSp w A n xs) (i : Int) (h0 : 0 ≤ i) (h1 : i < n) : ∃ ad , A = some ad ∧ w.cell? (ad.add (i.toNat * 2)) = some (.int .i64 (rdSp xs i).f0) ∧ w.cell? ⟨(ad.add (i.toNat * 2)).block, (ad.add (i.toNat * 2)).off + 1, none⟩ = some (.int .i64 (rdSp xs i).f1) := by
  obtain ⟨ad, c, e, _, hK, hc0⟩ := Kd.C_get h zSp i h0 h1
  have hc : ∀ j u, c[j]? = some u → w.cell? (ad.add (i.toNat * 2 + j)) = some u := hc0
  obtain rfl := kSp_open hK
  exact ⟨ad, e, hc 0 _ rfl, by rw [← add_field _ _ 1 (by omega)]; exact hc 1 _ rfl⟩

def whole (x : Ln) : Sp := ⟨x.f0, x.f2⟩
def plain (x : Ln) : Sp := ⟨x.f0, x.f1⟩
/-- The document's index of lines, at block a of W. -/
def IsRef (W : World) (a : Nat) (L : List Ln) : Prop :=
  ∃ A c A' c', W.heap[a]? = some (.cells #[.slice A L.length c, .slice A' L.length c'] 44 (0, 0)) ∧ L.length ≤ c ∧ L.length ≤ c' ∧ Kd.C kSp W A L.length (L.map whole) ∧ Kd.C kSp W A' L.length (L.map plain)
theorem IsRef.lt {W : World} {a : Nat} {L : List Ln} (h : IsRef W a L) : a < W.heap.size := by
  obtain ⟨A, c, A', c', hb, _⟩ := h
  exact blk_lt hb
theorem IsRef.below {W W1 : World} {a : Nat} {L : List Ln} (h : IsRef W a L) (hb : Below W.heap.size W W1) : IsRef W1 a L := by
  have hl := h.lt
  obtain ⟨A, c, A', c', h1, h2, h2', h3, h3'⟩ := h
  exact ⟨A, c, A', c', (hb.block a hl).trans h1, h2, h2', Kd.C_below h3 hb, Kd.C_below h3' hb⟩
theorem IsRef.alloc {W : World} {a : Nat} {L : List Ln} (h : IsRef W a L) (o : Obj) : IsRef (W.alloc o) a L := h.below (below_alloc (Below.refl _ _) o)
theorem IsRef.drewN {W : World} {a : Nat} {L : List Ln} (h : IsRef W a L) (m : Nat) : IsRef (W.drewN m) a L := h.below (pw_below_drewN (Below.refl _ _) m)

/-- Two rows of the call's own, apart from each other and from block g. -/
structure Two (W : World) (base g : Nat) (vP vW : Value) (aP aW : List Sp) : Prop where
  P : Kd.R kSp 35 W base (fun k => some k ≠ some g) vP aP
  Wh : Kd.R kSp 35 W base (fun k => some k ≠ some g) vW aW
  ne : ∀ k, vP.ownBlock = some k → vW.ownBlock ≠ some k
theorem Two.appP {W w1 : World} {base g : Nat} {vP vW v1 : Value} {aP aW a1 : List Sp} (h : Two W base g vP vW aP aW) (ho : Kd.R kSp 35 w1 base (fun k => some k ≠ some g) v1 a1) (hg : W.grownBy w1 vP.ownBlock) (hat : v1.ownBlock = vP.ownBlock ∨ ∃ b, v1.ownBlock = some b ∧ W.heap.size ≤ b) : Two w1 base g v1 vW a1 aW := by
  refine ⟨ho, Kd.R_reok rfl (Kd.R_grown (Kd.R_tight rfl h.Wh) hg (fun k hk e => h.ne k e.symm hk.symm)) h.Wh.1, fun k hk => ?_⟩
  rcases hat with hat | ⟨b, hb, hle⟩
  · exact h.ne k (hat ▸ hk)
  · intro e
    have := Kd.R_lt h.Wh k e
    rw [hb] at hk
    injection hk with hk
    omega
theorem Two.appW {W w1 : World} {base g : Nat} {vP vW v1 : Value} {aP aW a1 : List Sp} (h : Two W base g vP vW aP aW) (ho : Kd.R kSp 35 w1 base (fun k => some k ≠ some g) v1 a1) (hg : W.grownBy w1 vW.ownBlock) (hat : v1.ownBlock = vW.ownBlock ∨ ∃ b, v1.ownBlock = some b ∧ W.heap.size ≤ b) : Two w1 base g vP v1 aP a1 := by
  refine ⟨Kd.R_reok rfl (Kd.R_grown (Kd.R_tight rfl h.P) hg (fun k hk e => h.ne k hk.symm e.symm)) h.P.1, ho, fun k hk e => ?_⟩
  rcases hat with hat | ⟨b, hb, hle⟩
  · exact h.ne k hk (hat ▸ e)
  · have := Kd.R_lt h.P k hk
    rw [hb] at e
    injection e with e
    omega
theorem Two.at {W W2 : World} {n base g : Nat} {vP vW : Value} {aP aW : List Sp} (hq : W2 = W.drewN n) (h : Two W base g vP vW aP aW) : Two W2 base g vP vW aP aW := by
  subst hq
  exact ⟨Kd.R_drewN h.P _, Kd.R_drewN h.Wh _, h.ne⟩
theorem blk_at2 {W W2 : World} {n g : Nat} {o : Obj} (hq : W2 = W.drewN n) (h : W.heap[g]? = some o) : W2.heap[g]? = some o := by
  subst hq
  exact h
theorem below_at2 {B : Nat} {w W W2 : World} {n : Nat} (hq : W2 = W.drewN n) (h : Below B w W) : Below B w W2 := by
  subst hq
  exact pw_below_drewN h n
theorem Two.set {W : World} {base g : Nat} {vP vW : Value} {aP aW : List Sp} (h : Two W base g vP vW aP aW) (j : Nat) (u : Value) : Two (W.setCell ⟨g, j, none⟩ u) base g vP vW aP aW :=
  ⟨Kd.R_far (p := ⟨g, j, none⟩) h.P (fun k hk e => hk (by rw [e])) u, Kd.R_far (p := ⟨g, j, none⟩) h.Wh (fun k hk e => hk (by rw [e])) u, h.ne⟩

/-- How many bytes end a line at a place. -/
def endv (l : List Int) (i : Int) : Int := if rd l i = 10 then 1 else if rd l i = 13 then (if i + 1 < l.length ∧ rd l (i + 1) = 10 then 2 else 1) else 0
theorem endv_f (l : List Int) (i : Int) (h0 : 0 ≤ i) (h1 : i < l.length) (hs : l.length ≤ 1048576) : colophonref03_end.f 1 l i = some (endv l i) := by
  have hw : wrap64 (i + 1) = i + 1 := by unfold wrap64; omega
  unfold colophonref03_end.f endv
  rw [if_pos h0, if_pos h1, hw]
  by_cases h10 : rd l i = 10
  · rw [if_pos h10, if_pos h10]
  · rw [if_neg h10, if_neg h10]
    by_cases h13 : rd l i = 13
    · rw [if_pos h13, if_pos h13]
      by_cases h2 : i + 1 < (l.length : Int)
      · rw [if_pos h2, if_pos (by omega)]
        by_cases h3 : rd l (i + 1) = 10
        · rw [if_pos ⟨h2, h3⟩]; simp [colophonref03_end.j0, h3]
        · rw [if_neg (fun h => h3 h.2)]; simp [colophonref03_end.j0, h3, h13, h0, h1]
      · rw [if_neg h2, if_neg (fun h => h2 h.1)]; simp [colophonref03_end.j0, h13, h0, h1]
    · rw [if_neg h13, if_neg h13]
      by_cases h2 : i + 1 < (l.length : Int)
      all_goals simp [colophonref03_end.j0, h13, h0, h1]
theorem endv_range (l : List Int) (i : Int) : 0 ≤ endv l i ∧ endv l i ≤ 2 := by unfold endv; repeat' split <;> try omega
theorem endv_fit (l : List Int) (i : Int) (h1 : i < l.length) : i + endv l i ≤ l.length := by
  unfold endv
  repeat' split
  all_goals omega
theorem lns_endv (l : List Int) (fr i : Int) (h0 : 0 ≤ i) (h1 : i < l.length) : lns (l.drop i.toNat) fr i =
    if endv l i = 0 then lns (l.drop (i + 1).toNat) fr (i + 1) else ⟨fr, i, i + endv l i⟩ :: lns (l.drop (i + endv l i).toNat) (i + endv l i) (i + endv l i) := by
  rw [lns_drop l fr i h0 h1]
  unfold endv
  by_cases h10 : rd l i = 10
  · simp [h10]
  · by_cases h13 : rd l i = 13
    · by_cases h2 : i + 1 < (l.length : Int) ∧ rd l (i + 1) = 10
      · simp [h13, h2]
      · rw [if_neg h10, if_pos h13, if_neg h2, if_neg h10, if_pos h13, if_neg h2]; simp
    · simp [h10, h13]

set_option maxHeartbeats 1000000 in
set_option maxRecDepth 100000 in
/-- What is no text. -/
theorem RNew_err (k : Nat) (A : Option Addr) (c : Nat) (l : List Int) (r1 r2 : Int) (w : World) (hr : Kd.C (Kd.int .u8) w A l.length l) (hc : l.length ≤ c) (h : colophonref01_Check.f k l = some (r1, r2)) (hne : r2 ≠ 0) :
    Calls Try.prog 22 #[.slice A l.length c] w fun e w' => e = .returned (.tuple #[.pointer none, .int .i64 r2]) ∧ Below w.heap.size w w' := by
  have HR := Aside0.mk hr
  have HC := Aside0.mk hc
  have H := Aside0.mk h
  have hz : (r2 != 0) = true := bne_iff_ne.mpr hne
  clear hr hc h hne
  go_enter Try.func22, Try.ntmps22
  go_wp2_with (go_at_call 56; refine (colophonref01_Check.calls k _ _ l r1 r2 _ HR.out HC.out H.out).mono ?_; rintro e w' ⟨rfl, hb⟩; have HB := Aside0.mk hb; clear hb)
  go_ret2
  exact ⟨rfl, by repeat (first | exact HB.out | apply below_alloc | apply pw_below_drewN | apply below_drew1)⟩

/-- What is held at the head of the loop. -/
structure RMade (w W : World) (g : Nat) (l : List Int) (fr i : Int) : Prop where
  bel : Below w.heap.size w W
  new : w.heap.size ≤ g
  own : ∃ A1 c1 A2 c2 aP aW L, W.heap[g]? = some (.cells #[.slice A2 aW.length c2, .slice A1 aP.length c1] 44 (0, 0)) ∧ Two W w.heap.size g (.slice A1 aP.length c1) (.slice A2 aW.length c2) aP aW ∧ aP = L.map plain ∧ aW = L.map whole ∧ L ++ lns (l.drop i.toNat) fr i = lns l 0 0 ∧ (L.length : Int) ≤ i

theorem RMade.after {w w2 : World} {g : Nat} {l : List Int} {fr' i' : Int} {u : Value} {A3 A4 : Option Addr} {c3 c4 : Nat} {aP aW : List Sp} {LL : List Ln} {x : Ln} {p q : Sp} (hp : p = plain x) (hq : q = whole x)
    (hnew : w.heap.size ≤ g) (hb : Below w.heap.size w w2) (hblk : w2.heap[g]? = some (.cells #[u, .slice A3 (aP.length + 1) c3] 44 (0, 0)))
    (HT : Two w2 w.heap.size g (.slice A3 (aP ++ [p]).length c3) (.slice A4 (aW ++ [q]).length c4) (aP ++ [p]) (aW ++ [q])) (hP : aP = LL.map plain) (hW : aW = LL.map whole)
    (hl : (LL ++ [x]) ++ lns (l.drop i'.toNat) fr' i' = lns l 0 0) (ha : (aP.length : Int) + 1 ≤ i') : RMade w (w2.setCell ⟨g, 0, none⟩ (.slice A4 (aW.length + 1) c4)) g l fr' i' := by
  subst hp hq
  refine ⟨hb.setCell hnew _, hnew, A3, c3, A4, c4, aP ++ [plain x], aW ++ [whole x], LL ++ [x], ?_, HT.set 0 _, by rw [hP]; simp, by rw [hW]; simp, hl, ?_⟩
  · rw [blk_set hblk, show (aW ++ [whole x]).length = aW.length + 1 by simp, show (aP ++ [plain x]).length = aP.length + 1 by simp]
    rfl
  · rw [hP] at ha; simp at ha; simp; omega

set_option maxHeartbeats 4000000 in
set_option maxRecDepth 100000 in
/-- What is a text. -/
theorem RNew_ok (k : Nat) (A : Option Addr) (c : Nat) (l : List Int) (r1 : Int) (w : World) (hr : Kd.C (Kd.int .u8) w A l.length l) (hc : l.length ≤ c) (h : colophonref01_Check.f k l = some (r1, 0)) (hs : l.length ≤ 1048576) :
    Calls Try.prog 22 #[.slice A l.length c] w fun e w' => ∃ a, e = .returned (.tuple #[.pointer (some ⟨a, 0, none⟩), .int .i64 0]) ∧ w.heap.size ≤ a ∧ IsRef w' a (lns l 0 0) ∧ Below w.heap.size w w' := by
  have HR := Aside0.mk hr
  have HC := Aside0.mk hc
  have H := Aside0.mk h
  clear hr hc h
  go_enter Try.func22, Try.ntmps22
  go_wp2_with (go_at_call 56; refine (colophonref01_Check.calls k _ _ l r1 0 _ HR.out HC.out H.out).mono ?_; rintro e W ⟨rfl, hb⟩; have HB := Aside0.mk hb; clear hb)
  have M0 : RMade w (W.alloc (Obj.cells #[Value.slice none 0 0, Value.slice none 0 0] 44)) W.heap.size l 0 0 :=
    ⟨below_alloc HB.out _, HB.out.size, none, 0, none, 0, [], [], [], blk_new W _, ⟨Kd.R_nil _ _ _ _ _, Kd.R_nil _ _ _ _ _, by simp [Value.ownBlock]⟩, rfl, rfl, by simp, by simp⟩
  have HM := Aside0.mk M0
  clear M0 H HB
  generalize hg0 : W.heap.size = g at HM ⊢
  clear hg0
  generalize (W.alloc (Obj.cells #[Value.slice none 0 0, Value.slice none 0 0] 44)) = W0 at HM ⊢
  go_loopw [7, 8] (fun s7 s8 W => ∃ fr i : Int, s7 = .int .i64 fr ∧ s8 = .int .i64 i ∧ 0 ≤ i ∧ i ≤ l.length ∧ Aside0 (RMade w W g l fr i)) (fun _ s8 _ => l.length - (intOf s8).toNat)
  case atStart => exact ⟨0, 0, rfl, rfl, by omega, by omega, HM⟩
  case round =>
    clear HM
    obtain ⟨fr, i, rfl, rfl, hi0, hi1, HM⟩ := hrel
    obtain ⟨hbel, hnew, A1, c1, A2, c2, aP, aW, LL, hb, HT, hP, hW, hl, ha⟩ := HM.out
    clear HM
    have HT := Aside0.mk HT
    have HBL := Aside0.mk hb
    have HB := Aside0.mk hbel
    have HP := Aside0.mk hP
    have HW := Aside0.mk hW
    have Ha : Aside0 ((aP.length : Int) ≤ i ∧ (aW.length : Int) ≤ i) := ⟨by rw [hP, hW]; simpa using ha⟩
    have hc1 : wr.cell? ⟨g, 1, none⟩ = some (.slice A1 aP.length c1) := (blk_cell hb 1).trans rfl
    clear hb hbel hP hW
    have tok := True.intro
    by_cases hlt : i < (l.length : Int)
    · rw [lns_endv l fr i hi0 hlt] at hl
      have HE := Aside0.mk (endv_f l i hi0 hlt hs)
      obtain ⟨he0, he2⟩ := endv_range l i
      have hfit := endv_fit l i hlt
      generalize endv l i = n at *
      by_cases hn : n = 0
      · subst hn
        rw [if_pos rfl] at hl
        have Hl := Aside0.mk hl
        clear hl ha tok
        go_wp2_with (go_at_call 57; refine (colophonref03_end.calls 1 _ _ l i 0 _ (Kd.C_below HR.out HB.out) HC.out HE.out).mono ?_; rintro e W2 ⟨rfl, nq, hq⟩; have HT := Aside0.mk (Two.at hq HT.out); have HBL := Aside0.mk (blk_at2 hq HBL.out); have HB := Aside0.mk (below_at2 hq HB.out); have hc1 : W2.cell? ⟨g, 1, none⟩ = some (.slice A1 aP.length c1) := (blk_cell HBL.out 1).trans rfl; clear hq; have Htk := Aside0.mk True.intro)
        go_roundw
        case measure => simp [intOf]; omega
        case rel => exact ⟨fr, i + 1, rfl, rfl, by omega, by omega, ⟨HB.out, hnew, A1, c1, A2, c2, aP, aW, LL, HBL.out, HT.out, HP.out, HW.out, Hl.out, by have := Ha.out.1; rw [HP.out] at this; simp at this; omega⟩⟩
      · rw [if_neg hn] at hl
        have Hl := Aside0.mk (acc_step _ _ _ _ hl)
        have hgt : decide (0 < n) = true := decide_eq_true (by omega)
        clear hl
        go_wp2_with (first | (go_at_call 57; refine (colophonref03_end.calls 1 _ _ l i n _ (Kd.C_below HR.out HB.out) HC.out HE.out).mono ?_; rintro e W2 ⟨rfl, nq, hq⟩; have HT := Aside0.mk (Two.at hq HT.out); have HBL := Aside0.mk (blk_at2 hq HBL.out); have HB := Aside0.mk (below_at2 hq HB.out); have hc1 : W2.cell? ⟨g, 1, none⟩ = some (.slice A1 aP.length c1) := (blk_cell HBL.out 1).trans rfl; clear hq; have Htk := Aside0.mk True.intro) | (first | (have _t := tok; (at_builtin; refine Kd.R_append kSp (w0 := w) w.heap.size rfl (.tmp 35) (.tmp 39) 42 35 (.agg #[.int .i64 0, .int .i64 0]) 16 rfl Try.underlying42 infoSp rfl (by decide) (by omega) (.slice A1 aP.length c1) aP ⟨fr, i⟩ [.int .i64 fr, .int .i64 i] (fun k => some k ≠ some g) (fun _ => False) rfl ?aE (kSp_mkM _ _ _ ⟨fr, i⟩) (fun _ h => h.elim) ?aF ?aO ?aB ?aS ?aL ?_; (case aE => first | rfl | exact congrArg (fun n => Value.slice (some ⟨n, 0, none⟩) 1 1) (by simp)); (case aF => intro k hk e; have := blk_lt HBL.out; injection e with e; first | omega | (simp at hk this; omega) | (simp at hk; omega) | (simp at this; omega)); (case aO => (with_reducible repeat (first | apply Kd.R_alloc | apply Kd.R_drewN | apply Kd.R_drew)); exact HT.out.P); (case aB => repeat (first | exact HB.out | apply pw_below_drewN | apply below_drew1)); (case aS => first | exact HB.out.size | (have := HB.out.size; simp at *; omega)); (case aL => have := Ha.out; omega); intro v1 w1 ho hb hg hat; obtain ⟨A3, c3, rfl⟩ := Kd.R_slice ho; have hbl1 := blk_grown HBL.out hg (fun e => HT.out.P.1 g e.symm rfl); have hc2 : w1.cell? ⟨g, 1, none⟩ = some (.slice A1 aP.length c1) := (blk_cell hbl1 1).trans rfl; have hf2 := blk_frozen hbl1 1; have HT2 := Aside0.mk ((HT.out.appP ho hg hat).set 1 (.slice A3 (aP.length + 1) c3)); have HB2 := Aside0.mk (hb.setCell (p := ⟨g, 1, none⟩) hnew (.slice A3 (aP.length + 1) c3)); have HBL2 := Aside0.mk ((blk_set hbl1 1 (.slice A3 (aP.length + 1) c3)).trans rfl); have hc3 : (w1.setCell ⟨g, 1, none⟩ (.slice A3 (aP.length + 1) c3)).cell? ⟨g, 0, none⟩ = some (.slice A2 aW.length c2) := (blk_cell HBL2.out 0).trans rfl; clear ho hb hg hat hbl1); clear tok _t) | (at_builtin; refine Kd.R_append kSp (w0 := w) w.heap.size rfl (.tmp 47) (.tmp 53) 42 35 (.agg #[.int .i64 0, .int .i64 0]) 16 rfl Try.underlying42 infoSp rfl (by decide) (by omega) (.slice A2 aW.length c2) aW ⟨fr, i + n⟩ [.int .i64 fr, .int .i64 (i + n)] (fun k => some k ≠ some g) (fun _ => False) rfl ?aE (kSp_mkM _ _ _ ⟨fr, i + n⟩) (fun _ h => h.elim) ?aF ?aO ?aB ?aS ?aL ?_; (case aE => first | rfl | exact congrArg (fun n => Value.slice (some ⟨n, 0, none⟩) 1 1) (by simp)); (case aF => intro k hk e; have := blk_lt HBL2.out; injection e with e; first | omega | (simp at hk this; omega) | (simp at hk; omega) | (simp at this; omega)); (case aO => (with_reducible repeat (first | apply Kd.R_alloc | apply Kd.R_drewN | apply Kd.R_drew)); exact HT2.out.Wh); (case aB => repeat (first | exact HB2.out | apply pw_below_drewN | apply below_drew1)); (case aS => first | exact HB2.out.size | (have := HB2.out.size; simp at *; omega)); (case aL => have := Ha.out; omega); intro v2 w2 ho hb hg hat; obtain ⟨A4, c4, rfl⟩ := Kd.R_slice ho; have hbl1 := blk_grown HBL2.out hg (fun e => HT2.out.Wh.1 g e.symm rfl); have hc4 : w2.cell? ⟨g, 0, none⟩ = some (.slice A2 aW.length c2) := (blk_cell hbl1 0).trans rfl; have hf4 := blk_frozen hbl1 0; have HT4 := Aside0.mk (HT2.out.appW ho hg hat); have HB4 := Aside0.mk hb; have HBL4 := Aside0.mk hbl1; clear ho hb hg hat hbl1)))
        go_roundw
        case measure => simp [intOf]; omega
        case rel => exact ⟨i + n, i + n, rfl, (by first | rfl | go_num), by omega, by omega, ⟨RMade.after (x := ⟨fr, i, i + n⟩) rfl rfl hnew HB4.out HBL4.out HT4.out HP.out HW.out Hl.out (by have := Ha.out; omega)⟩⟩
    · obtain rfl : i = l.length := by omega
      have hl2 : LL ++ [⟨fr, (l.length : Int), (l.length : Int)⟩] = lns l 0 0 := by rw [← hl]; simp [lns]
      have Hl := Aside0.mk hl2
      clear hl hl2 ha
      go_wp2_with (first | (have _t := tok; (at_builtin; refine Kd.R_append kSp (w0 := w) w.heap.size rfl (.tmp 66) (.tmp 71) 42 35 (.agg #[.int .i64 0, .int .i64 0]) 16 rfl Try.underlying42 infoSp rfl (by decide) (by omega) (.slice A1 aP.length c1) aP ⟨fr, (l.length : Int)⟩ [.int .i64 fr, .int .i64 (l.length : Int)] (fun k => some k ≠ some g) (fun _ => False) rfl ?aE (kSp_mkM _ _ _ ⟨fr, (l.length : Int)⟩) (fun _ h => h.elim) ?aF ?aO ?aB ?aS ?aL ?_; (case aE => first | rfl | exact congrArg (fun n => Value.slice (some ⟨n, 0, none⟩) 1 1) (by simp)); (case aF => intro k hk e; have := blk_lt HBL.out; injection e with e; first | omega | (simp at hk this; omega) | (simp at hk; omega) | (simp at this; omega)); (case aO => (with_reducible repeat (first | apply Kd.R_alloc | apply Kd.R_drewN | apply Kd.R_drew)); exact HT.out.P); (case aB => repeat (first | exact HB.out | apply pw_below_drewN | apply below_drew1)); (case aS => first | exact HB.out.size | (have := HB.out.size; simp at *; omega)); (case aL => have := Ha.out; omega); intro v1 w1 ho hb hg hat; obtain ⟨A3, c3, rfl⟩ := Kd.R_slice ho; have hbl1 := blk_grown HBL.out hg (fun e => HT.out.P.1 g e.symm rfl); have hc2 : w1.cell? ⟨g, 1, none⟩ = some (.slice A1 aP.length c1) := (blk_cell hbl1 1).trans rfl; have hf2 := blk_frozen hbl1 1; have HT2 := Aside0.mk ((HT.out.appP ho hg hat).set 1 (.slice A3 (aP.length + 1) c3)); have HB2 := Aside0.mk (hb.setCell (p := ⟨g, 1, none⟩) hnew (.slice A3 (aP.length + 1) c3)); have HBL2 := Aside0.mk ((blk_set hbl1 1 (.slice A3 (aP.length + 1) c3)).trans rfl); have hc3 : (w1.setCell ⟨g, 1, none⟩ (.slice A3 (aP.length + 1) c3)).cell? ⟨g, 0, none⟩ = some (.slice A2 aW.length c2) := (blk_cell HBL2.out 0).trans rfl; clear ho hb hg hat hbl1); clear tok _t) | (at_builtin; refine Kd.R_append kSp (w0 := w) w.heap.size rfl (.tmp 79) (.tmp 84) 42 35 (.agg #[.int .i64 0, .int .i64 0]) 16 rfl Try.underlying42 infoSp rfl (by decide) (by omega) (.slice A2 aW.length c2) aW ⟨fr, (l.length : Int)⟩ [.int .i64 fr, .int .i64 (l.length : Int)] (fun k => some k ≠ some g) (fun _ => False) rfl ?aE (kSp_mkM _ _ _ ⟨fr, (l.length : Int)⟩) (fun _ h => h.elim) ?aF ?aO ?aB ?aS ?aL ?_; (case aE => first | rfl | exact congrArg (fun n => Value.slice (some ⟨n, 0, none⟩) 1 1) (by simp)); (case aF => intro k hk e; have := blk_lt HBL2.out; injection e with e; first | omega | (simp at hk this; omega) | (simp at hk; omega) | (simp at this; omega)); (case aO => (with_reducible repeat (first | apply Kd.R_alloc | apply Kd.R_drewN | apply Kd.R_drew)); exact HT2.out.Wh); (case aB => repeat (first | exact HB2.out | apply pw_below_drewN | apply below_drew1)); (case aS => first | exact HB2.out.size | (have := HB2.out.size; simp at *; omega)); (case aL => have := Ha.out; omega); intro v2 w2 ho hb hg hat; obtain ⟨A4, c4, rfl⟩ := Kd.R_slice ho; have hbl1 := blk_grown HBL2.out hg (fun e => HT2.out.Wh.1 g e.symm rfl); have hc4 : w2.cell? ⟨g, 0, none⟩ = some (.slice A2 aW.length c2) := (blk_cell hbl1 0).trans rfl; have hf4 := blk_frozen hbl1 0; have HT4 := Aside0.mk (HT2.out.appW ho hg hat); have HB4 := Aside0.mk hb; have HBL4 := Aside0.mk hbl1; clear ho hb hg hat hbl1))
      go_ret2
      have hT := HT4.out.set 0 (.slice A4 (aW.length + 1) c4)
      have hP := Kd.R_reads' hT.P
      have hW := Kd.R_reads' hT.Wh
      have eP : aP ++ [(⟨fr, (l.length : Int)⟩ : Sp)] = (lns l 0 0).map plain := by rw [← Hl.out, HP.out]; simp [plain]
      have eW : aW ++ [(⟨fr, (l.length : Int)⟩ : Sp)] = (lns l 0 0).map whole := by rw [← Hl.out, HW.out]; simp [whole]
      have nP : aP.length + 1 = (lns l 0 0).length := by have := congrArg List.length eP; simpa using this
      have nW : aW.length + 1 = (lns l 0 0).length := by have := congrArg List.length eW; simpa using this
      rw [eP] at hP
      rw [eW] at hW
      simp only [List.length_map] at hP hW
      refine ⟨g, rfl, hnew, ⟨A4, c4, A3, c3, ?_, hW.2.1, hP.2.1, hW.2.2, hP.2.2⟩, HB4.out.setCell hnew _⟩
      rw [blk_set HBL4.out, nW, nP]
      rfl
end Go.Proofs.Ytogfaahdbecdnaa.B
