/-
  Texts of this session, one behind the other: C0, C1, P0, D0, U0, U1, M0, M1, Row0, E7, E6, M2, M3, M4, M5, M6, M7, G0, G1, G2, H0.
-/
import Derived.Test.YtjebkpcekkkbkaaZN242
set_option linter.unusedSimpArgs false
set_option linter.unusedVariables false
namespace Go.Proofs.Ytjebkpcekkkbkaa.B
open Go.RowKit Go.Proofs.YtjebkpcekkkbkaaW.PrintWords Go.Proofs.YtjebkpcekkkbkaaW.PrintLast Go.Proofs.YtjebkpcekkkbkaaW.PrintMore Go.Proofs.Ytjebkpcekkkbkaa.FBase
structure Sp where
  f0 : Int
  f1 : Int
deriving DecidableEq
def zSp : Sp := ⟨0, 0⟩
def kSp : Kd Sp := Kd.iso (Kd.pair (Kd.int .i64) (Kd.int .i64)) (fun x : Sp => (x.f0, x.f1))
theorem kSp_open {w : World} {x : Sp} {cs : List Value} (h : kSp.K w x cs) : cs = [.int .i64 x.f0, .int .i64 x.f1] := by
  obtain ⟨_, _, rfl, rfl, rfl⟩ := h
  exact rfl
theorem kSp_mkM (w : World) (base : Nat) (ok : Nat → Prop) (x : Sp) : kSp.M w base ok x [.int .i64 x.f0, .int .i64 x.f1] := ⟨[.int .i64 x.f0], [.int .i64 x.f1], rfl, rfl, rfl⟩
def rdSp (xs : List Sp) (i : Int) : Sp := xs.getD i.toNat zSp
theorem atSp {w : World} {A : Option Addr} {n : Nat} {xs : List Sp} (h : Kd.C kSp w A n xs) (i : Int) (h0 : 0 ≤ i) (h1 : i < n) : ∃ ad , A = some ad ∧ w.cell? (ad.add (i.toNat * 2)) = some (.int .i64 (rdSp xs i).f0) ∧ w.cell? ⟨(ad.add (i.toNat * 2)).block, (ad.add (i.toNat * 2)).off + 1, none⟩ = some (.int .i64 (rdSp xs i).f1) := by
  obtain ⟨ad, c, e, _, hK, hc0⟩ := Kd.C_get h zSp i h0 h1
  have hc : ∀ j u, c[j]? = some u → w.cell? (ad.add (i.toNat * 2 + j)) = some u := hc0
  obtain rfl := kSp_open hK
  exact ⟨ad, e, hc 0 _ rfl, by rw [← add_field _ _ 1 (by omega)]; exact hc 1 _ rfl⟩
def whole (x : Ln) : Sp := ⟨x.f0, x.f2⟩
def plain (x : Ln) : Sp := ⟨x.f0, x.f1⟩
def IsRef (W : World) (a : Nat) (L : List Ln) : Prop :=
  ∃ A c A' c', W.heap[a]? = some (.cells #[.slice A L.length c, .slice A' L.length c'] 168 (0, 0)) ∧ L.length ≤ c ∧ L.length ≤ c' ∧ Kd.C kSp W A L.length (L.map whole) ∧ Kd.C kSp W A' L.length (L.map plain)
theorem IsRef.lt {W : World} {a : Nat} {L : List Ln} (h : IsRef W a L) : a < W.heap.size := by
  obtain ⟨A, c, A', c', hb, _⟩ := h
  exact blk_lt hb
theorem IsRef.below {W W1 : World} {a : Nat} {L : List Ln} (h : IsRef W a L) (hb : Below W.heap.size W W1) : IsRef W1 a L := by
  have hl := h.lt
  obtain ⟨A, c, A', c', h1, h2, h2', h3, h3'⟩ := h
  exact ⟨A, c, A', c', (hb.block a hl).trans h1, h2, h2', Kd.C_below h3 hb, Kd.C_below h3' hb⟩
theorem IsRef.alloc {W : World} {a : Nat} {L : List Ln} (h : IsRef W a L) (o : Obj) : IsRef (W.alloc o) a L := h.below (below_alloc (Below.refl _ _) o)
theorem IsRef.drewN {W : World} {a : Nat} {L : List Ln} (h : IsRef W a L) (m : Nat) : IsRef (W.drewN m) a L := h.below (pw_below_drewN (Below.refl _ _) m)
structure Two (W : World) (base g : Nat) (vP vW : Value) (aP aW : List Sp) : Prop where
  P : Kd.R kSp 44 W base (fun k => some k ≠ some g) vP aP
  Wh : Kd.R kSp 44 W base (fun k => some k ≠ some g) vW aW
  ne : ∀ k, vP.ownBlock = some k → vW.ownBlock ≠ some k
theorem Two.appP {W w1 : World} {base g : Nat} {vP vW v1 : Value} {aP aW a1 : List Sp} (h : Two W base g vP vW aP aW) (ho : Kd.R kSp 44 w1 base (fun k => some k ≠ some g) v1 a1) (hg : W.grownBy w1 vP.ownBlock) (hat : v1.ownBlock = vP.ownBlock ∨ ∃ b, v1.ownBlock = some b ∧ W.heap.size ≤ b) : Two w1 base g v1 vW a1 aW := by
  refine ⟨ho, Kd.R_reok rfl (Kd.R_grown (Kd.R_tight rfl h.Wh) hg (fun k hk e => h.ne k e.symm hk.symm)) h.Wh.1, fun k hk => ?_⟩
  rcases hat with hat | ⟨b, hb, hle⟩
  · exact h.ne k (hat ▸ hk)
  · intro e
    have := Kd.R_lt h.Wh k e
    rw [hb] at hk
    injection hk with hk
    omega
theorem Two.appW {W w1 : World} {base g : Nat} {vP vW v1 : Value} {aP aW a1 : List Sp} (h : Two W base g vP vW aP aW) (ho : Kd.R kSp 44 w1 base (fun k => some k ≠ some g) v1 a1) (hg : W.grownBy w1 vW.ownBlock) (hat : v1.ownBlock = vW.ownBlock ∨ ∃ b, v1.ownBlock = some b ∧ W.heap.size ≤ b) : Two w1 base g vP v1 aP a1 := by
  refine ⟨Kd.R_reok rfl (Kd.R_grown (Kd.R_tight rfl h.P) hg (fun k hk e => h.ne k hk.symm e.symm)) h.P.1, ho, fun k hk e => ?_⟩
  rcases hat with hat | ⟨b, hb, hle⟩
  · exact h.ne k hk (hat ▸ e)
  · have := Kd.R_lt h.P k hk
    rw [hb] at e
    injection e with e
    omega
theorem Two.at {W W2 : World} {n base g : Nat} {vP vW : Value} {aP aW : List Sp} (hq : W2 = W.drewN n) (h : Two W base g vP vW aP aW) : Two W2 base g vP vW aP aW := by
  subst hq
  exact ⟨Kd.R_drewN h.P _, Kd.R_drewN h.Wh _, h.ne⟩
theorem blk_at2 {W W2 : World} {n g : Nat} {o : Obj} (hq : W2 = W.drewN n) (h : W.heap[g]? = some o) : W2.heap[g]? = some o := by
  subst hq
  exact h
theorem below_at2 {B : Nat} {w W W2 : World} {n : Nat} (hq : W2 = W.drewN n) (h : Below B w W) : Below B w W2 := by
  subst hq
  exact pw_below_drewN h n
theorem Two.set {W : World} {base g : Nat} {vP vW : Value} {aP aW : List Sp} (h : Two W base g vP vW aP aW) (j : Nat) (u : Value) : Two (W.setCell ⟨g, j, none⟩ u) base g vP vW aP aW :=
  ⟨Kd.R_far (p := ⟨g, j, none⟩) h.P (fun k hk e => hk (by rw [e])) u, Kd.R_far (p := ⟨g, j, none⟩) h.Wh (fun k hk e => hk (by rw [e])) u, h.ne⟩
def endv (l : List Int) (i : Int) : Int := if rd l i = 10 then 1 else if rd l i = 13 then (if i + 1 < l.length ∧ rd l (i + 1) = 10 then 2 else 1) else 0
theorem endv_f (l : List Int) (i : Int) (h0 : 0 ≤ i) (h1 : i < l.length) (hs : l.length ≤ 1048576) : colophonref03_end.f 1 l i = some (endv l i) := by
  have hw : wrap64 (i + 1) = i + 1 := by unfold wrap64; omega
  unfold colophonref03_end.f endv
  rw [if_pos h0, if_pos h1, hw]
  by_cases h10 : rd l i = 10
  · rw [if_pos h10, if_pos h10]
  · rw [if_neg h10, if_neg h10]
    by_cases h13 : rd l i = 13
    · rw [if_pos h13, if_pos h13]
      by_cases h2 : i + 1 < (l.length : Int)
      · rw [if_pos h2, if_pos (by omega)]
        by_cases h3 : rd l (i + 1) = 10
        · rw [if_pos ⟨h2, h3⟩]; simp [colophonref03_end.j0, h3]
        · rw [if_neg (fun h => h3 h.2)]; simp [colophonref03_end.j0, h3, h13, h0, h1]
      · rw [if_neg h2, if_neg (fun h => h2 h.1)]; simp [colophonref03_end.j0, h13, h0, h1]
    · rw [if_neg h13, if_neg h13]
      by_cases h2 : i + 1 < (l.length : Int)
      all_goals simp [colophonref03_end.j0, h13, h0, h1]
theorem endv_range (l : List Int) (i : Int) : 0 ≤ endv l i ∧ endv l i ≤ 2 := by unfold endv; repeat' split <;> try omega
theorem endv_fit (l : List Int) (i : Int) (h1 : i < l.length) : i + endv l i ≤ l.length := by
  unfold endv
  repeat' split
  all_goals omega
theorem lns_endv (l : List Int) (fr i : Int) (h0 : 0 ≤ i) (h1 : i < l.length) : lns (l.drop i.toNat) fr i =
    if endv l i = 0 then lns (l.drop (i + 1).toNat) fr (i + 1) else ⟨fr, i, i + endv l i⟩ :: lns (l.drop (i + endv l i).toNat) (i + endv l i) (i + endv l i) := by
  rw [lns_drop l fr i h0 h1]
  unfold endv
  by_cases h10 : rd l i = 10
  · simp [h10]
  · by_cases h13 : rd l i = 13
    · by_cases h2 : i + 1 < (l.length : Int) ∧ rd l (i + 1) = 10
      · simp [h13, h2]
      · rw [if_neg h10, if_pos h13, if_neg h2, if_neg h10, if_pos h13, if_neg h2]; simp
    · simp [h10, h13]
structure RMade (w W : World) (g : Nat) (l : List Int) (fr i : Int) : Prop where
  bel : Below w.heap.size w W
  new : w.heap.size ≤ g
  own : ∃ A1 c1 A2 c2 aP aW L, W.heap[g]? = some (.cells #[.slice A2 aW.length c2, .slice A1 aP.length c1] 168 (0, 0)) ∧ Two W w.heap.size g (.slice A1 aP.length c1) (.slice A2 aW.length c2) aP aW ∧ aP = L.map plain ∧ aW = L.map whole ∧ L ++ lns (l.drop i.toNat) fr i = lns l 0 0 ∧ (L.length : Int) ≤ i
theorem RMade.after {w w2 : World} {g : Nat} {l : List Int} {fr' i' : Int} {u : Value} {A3 A4 : Option Addr} {c3 c4 : Nat} {aP aW : List Sp} {LL : List Ln} {x : Ln} {p q : Sp} (hp : p = plain x) (hq : q = whole x)
    (hnew : w.heap.size ≤ g) (hb : Below w.heap.size w w2) (hblk : w2.heap[g]? = some (.cells #[u, .slice A3 (aP.length + 1) c3] 168 (0, 0)))
    (HT : Two w2 w.heap.size g (.slice A3 (aP ++ [p]).length c3) (.slice A4 (aW ++ [q]).length c4) (aP ++ [p]) (aW ++ [q])) (hP : aP = LL.map plain) (hW : aW = LL.map whole)
    (hl : (LL ++ [x]) ++ lns (l.drop i'.toNat) fr' i' = lns l 0 0) (ha : (aP.length : Int) + 1 ≤ i') : RMade w (w2.setCell ⟨g, 0, none⟩ (.slice A4 (aW.length + 1) c4)) g l fr' i' := by
  subst hp hq
  refine ⟨hb.setCell hnew _, hnew, A3, c3, A4, c4, aP ++ [plain x], aW ++ [whole x], LL ++ [x], ?_, HT.set 0 _, by rw [hP]; simp, by rw [hW]; simp, hl, ?_⟩
  · rw [blk_set hblk, show (aW ++ [whole x]).length = aW.length + 1 by simp, show (aP ++ [plain x]).length = aP.length + 1 by simp]
    rfl
  · rw [hP] at ha; simp at ha; simp; omega
theorem ref_from {base g nP nW c3 c4 : Nat} {W : World} {A3 A4 : Option Addr} {L : List Ln} {ok ok' : Nat → Prop} (hg : base ≤ g) (hb : W.heap[g]? = some (.cells #[.slice A4 nW c4, .slice A3 nP c3] 168 (0, 0)))
    (hP : Kd.R kSp 44 W base ok (.slice A3 nP c3) (L.map plain)) (hW : Kd.R kSp 44 W base ok' (.slice A4 nW c4) (L.map whole)) (eP : nP = L.length) (eW : nW = L.length) : FromBase base W (fun W => IsRef W g L) := by
  subst eP
  intro W1 hW1
  have h2 := Kd.R_reads' (Kd.R_move (Kd.R_bound hP) (fun k hk => hW1 k hk.2.1 hk.2.2.1))
  have h3 := Kd.R_reads' (Kd.R_move (Kd.R_bound hW) (fun k hk => hW1 k hk.2.1 hk.2.2.1))
  simp only [List.length_map] at h2 h3
  rw [eW] at h3 hb
  exact ⟨A4, c4, A3, c3, (hW1 g hg (blk_lt hb)).trans hb, h3.2.1, h2.2.1, h3.2.2, h2.2.2⟩
set_option maxHeartbeats 4000000 in
set_option maxRecDepth 100000 in
theorem RNew_all (k : Nat) (A : Option Addr) (c : Nat) (l : List Int) (r1 : Int) (w : World) (hr : Kd.C (Kd.int .u8) w A l.length l) (hc : l.length ≤ c) (h : colophonref01_Check.f k l = some (r1, 0)) (hs : l.length ≤ 1048576) :
    Calls Try.prog 81 #[.slice A l.length c] w fun e w' => ∃ a, e = .returned (.tuple #[.pointer (some ⟨a, 0, none⟩), .int .i64 0]) ∧ w.heap.size ≤ a ∧ FromBase w.heap.size w' (fun W => IsRef W a (lns l 0 0)) ∧ Below w.heap.size w w' := by
  have HR := Aside0.mk hr
  have HC := Aside0.mk hc
  have H := Aside0.mk h
  clear hr hc h
  go_enter Try.func81, Try.ntmps81
  go_wp2_with (go_at_call 55; refine (colophonref01_Check.calls k _ _ l r1 0 _ HR.out HC.out H.out).mono ?_; rintro e W ⟨rfl, hb⟩; have HB := Aside0.mk hb; clear hb)
  have M0 : RMade w (W.alloc (Obj.cells #[Value.slice none 0 0, Value.slice none 0 0] 168)) W.heap.size l 0 0 :=
    ⟨below_alloc HB.out _, HB.out.size, none, 0, none, 0, [], [], [], blk_new W _, ⟨Kd.R_nil _ _ _ _ _, Kd.R_nil _ _ _ _ _, by simp [Value.ownBlock]⟩, rfl, rfl, by simp, by simp⟩
  have HM := Aside0.mk M0
  clear M0 H HB
  generalize hg0 : W.heap.size = g at HM ⊢
  clear hg0
  generalize (W.alloc (Obj.cells #[Value.slice none 0 0, Value.slice none 0 0] 168)) = W0 at HM ⊢
  go_loopw [7, 8] (fun s7 s8 W => ∃ fr i : Int, s7 = .int .i64 fr ∧ s8 = .int .i64 i ∧ 0 ≤ i ∧ i ≤ l.length ∧ Aside0 (RMade w W g l fr i)) (fun _ s8 _ => l.length - (intOf s8).toNat)
  case atStart => exact ⟨0, 0, rfl, rfl, by omega, by omega, HM⟩
  case round =>
    clear HM
    obtain ⟨fr, i, rfl, rfl, hi0, hi1, HM⟩ := hrel
    obtain ⟨hbel, hnew, A1, c1, A2, c2, aP, aW, LL, hb, HT, hP, hW, hl, ha⟩ := HM.out
    clear HM
    have HT := Aside0.mk HT
    have HBL := Aside0.mk hb
    have HB := Aside0.mk hbel
    have HP := Aside0.mk hP
    have HW := Aside0.mk hW
    have Ha : Aside0 ((aP.length : Int) ≤ i ∧ (aW.length : Int) ≤ i) := ⟨by rw [hP, hW]; simpa using ha⟩
    have hc1 : wr.cell? ⟨g, 1, none⟩ = some (.slice A1 aP.length c1) := (blk_cell hb 1).trans rfl
    clear hb hbel hP hW
    have tok := True.intro
    by_cases hlt : i < (l.length : Int)
    · rw [lns_endv l fr i hi0 hlt] at hl
      have HE := Aside0.mk (endv_f l i hi0 hlt hs)
      obtain ⟨he0, he2⟩ := endv_range l i
      have hfit := endv_fit l i hlt
      generalize endv l i = n at *
      by_cases hn : n = 0
      · subst hn
        rw [if_pos rfl] at hl
        have Hl := Aside0.mk hl
        clear hl ha tok
        go_wp2_with (go_at_call 102; refine (colophonref03_end.calls 1 _ _ l i 0 _ (Kd.C_below HR.out HB.out) HC.out HE.out).mono ?_; rintro e W2 ⟨rfl, nq, hq⟩; have HT := Aside0.mk (Two.at hq HT.out); have HBL := Aside0.mk (blk_at2 hq HBL.out); have HB := Aside0.mk (below_at2 hq HB.out); have hc1 : W2.cell? ⟨g, 1, none⟩ = some (.slice A1 aP.length c1) := (blk_cell HBL.out 1).trans rfl; clear hq; have Htk := Aside0.mk True.intro)
        go_roundw
        case measure => simp [intOf]; omega
        case rel => exact ⟨fr, i + 1, rfl, rfl, by omega, by omega, ⟨HB.out, hnew, A1, c1, A2, c2, aP, aW, LL, HBL.out, HT.out, HP.out, HW.out, Hl.out, by have := Ha.out.1; rw [HP.out] at this; simp at this; omega⟩⟩
      · rw [if_neg hn] at hl
        have Hl := Aside0.mk (acc_step _ _ _ _ hl)
        have hgt : decide (0 < n) = true := decide_eq_true (by omega)
        clear hl
        go_wp2_with (first | (go_at_call 102; refine (colophonref03_end.calls 1 _ _ l i n _ (Kd.C_below HR.out HB.out) HC.out HE.out).mono ?_; rintro e W2 ⟨rfl, nq, hq⟩; have HT := Aside0.mk (Two.at hq HT.out); have HBL := Aside0.mk (blk_at2 hq HBL.out); have HB := Aside0.mk (below_at2 hq HB.out); have hc1 : W2.cell? ⟨g, 1, none⟩ = some (.slice A1 aP.length c1) := (blk_cell HBL.out 1).trans rfl; clear hq; have Htk := Aside0.mk True.intro) | (first | (have _t := tok; (at_builtin; refine Kd.R_append kSp (w0 := w) w.heap.size rfl (.tmp 35) (.tmp 39) 166 44 (.agg #[.int .i64 0, .int .i64 0]) 16 rfl Try.underlying166 infoSp rfl (by decide) (by omega) (.slice A1 aP.length c1) aP ⟨fr, i⟩ [.int .i64 fr, .int .i64 i] (fun k => some k ≠ some g) (fun _ => False) rfl ?aE (kSp_mkM _ _ _ ⟨fr, i⟩) (fun _ h => h.elim) ?aF ?aO ?aB ?aS ?aL ?_; (case aE => first | rfl | exact congrArg (fun n => Value.slice (some ⟨n, 0, none⟩) 1 1) (by simp)); (case aF => intro k hk e; have := blk_lt HBL.out; injection e with e; first | omega | (simp at hk this; omega) | (simp at hk; omega) | (simp at this; omega)); (case aO => (with_reducible repeat (first | apply Kd.R_alloc | apply Kd.R_drewN | apply Kd.R_drew)); exact HT.out.P); (case aB => repeat (first | exact HB.out | apply pw_below_drewN | apply below_drew1)); (case aS => first | exact HB.out.size | (have := HB.out.size; simp at *; omega)); (case aL => have := Ha.out; omega); intro v1 w1 ho hb hg hat; obtain ⟨A3, c3, rfl⟩ := Kd.R_slice ho; have hbl1 := blk_grown HBL.out hg (fun e => HT.out.P.1 g e.symm rfl); have hc2 : w1.cell? ⟨g, 1, none⟩ = some (.slice A1 aP.length c1) := (blk_cell hbl1 1).trans rfl; have hf2 := blk_frozen hbl1 1; have HT2 := Aside0.mk ((HT.out.appP ho hg hat).set 1 (.slice A3 (aP.length + 1) c3)); have HB2 := Aside0.mk (hb.setCell (p := ⟨g, 1, none⟩) hnew (.slice A3 (aP.length + 1) c3)); have HBL2 := Aside0.mk ((blk_set hbl1 1 (.slice A3 (aP.length + 1) c3)).trans rfl); have hc3 : (w1.setCell ⟨g, 1, none⟩ (.slice A3 (aP.length + 1) c3)).cell? ⟨g, 0, none⟩ = some (.slice A2 aW.length c2) := (blk_cell HBL2.out 0).trans rfl; clear ho hb hg hat hbl1); clear tok _t) | (at_builtin; refine Kd.R_append kSp (w0 := w) w.heap.size rfl (.tmp 47) (.tmp 53) 166 44 (.agg #[.int .i64 0, .int .i64 0]) 16 rfl Try.underlying166 infoSp rfl (by decide) (by omega) (.slice A2 aW.length c2) aW ⟨fr, i + n⟩ [.int .i64 fr, .int .i64 (i + n)] (fun k => some k ≠ some g) (fun _ => False) rfl ?aE (kSp_mkM _ _ _ ⟨fr, i + n⟩) (fun _ h => h.elim) ?aF ?aO ?aB ?aS ?aL ?_; (case aE => first | rfl | exact congrArg (fun n => Value.slice (some ⟨n, 0, none⟩) 1 1) (by simp)); (case aF => intro k hk e; have := blk_lt HBL2.out; injection e with e; first | omega | (simp at hk this; omega) | (simp at hk; omega) | (simp at this; omega)); (case aO => (with_reducible repeat (first | apply Kd.R_alloc | apply Kd.R_drewN | apply Kd.R_drew)); exact HT2.out.Wh); (case aB => repeat (first | exact HB2.out | apply pw_below_drewN | apply below_drew1)); (case aS => first | exact HB2.out.size | (have := HB2.out.size; simp at *; omega)); (case aL => have := Ha.out; omega); intro v2 w2 ho hb hg hat; obtain ⟨A4, c4, rfl⟩ := Kd.R_slice ho; have hbl1 := blk_grown HBL2.out hg (fun e => HT2.out.Wh.1 g e.symm rfl); have hc4 : w2.cell? ⟨g, 0, none⟩ = some (.slice A2 aW.length c2) := (blk_cell hbl1 0).trans rfl; have hf4 := blk_frozen hbl1 0; have HT4 := Aside0.mk (HT2.out.appW ho hg hat); have HB4 := Aside0.mk hb; have HBL4 := Aside0.mk hbl1; clear ho hb hg hat hbl1)))
        go_roundw
        case measure => simp [intOf]; omega
        case rel => exact ⟨i + n, i + n, rfl, (by first | rfl | go_num), by omega, by omega, ⟨RMade.after (x := ⟨fr, i, i + n⟩) rfl rfl hnew HB4.out HBL4.out HT4.out HP.out HW.out Hl.out (by have := Ha.out; omega)⟩⟩
    · obtain rfl : i = l.length := by omega
      have hl2 : LL ++ [⟨fr, (l.length : Int), (l.length : Int)⟩] = lns l 0 0 := by rw [← hl]; simp [lns]
      have Hl := Aside0.mk hl2
      clear hl hl2 ha
      go_wp2_with (first | (have _t := tok; (at_builtin; refine Kd.R_append kSp (w0 := w) w.heap.size rfl (.tmp 66) (.tmp 71) 166 44 (.agg #[.int .i64 0, .int .i64 0]) 16 rfl Try.underlying166 infoSp rfl (by decide) (by omega) (.slice A1 aP.length c1) aP ⟨fr, (l.length : Int)⟩ [.int .i64 fr, .int .i64 (l.length : Int)] (fun k => some k ≠ some g) (fun _ => False) rfl ?aE (kSp_mkM _ _ _ ⟨fr, (l.length : Int)⟩) (fun _ h => h.elim) ?aF ?aO ?aB ?aS ?aL ?_; (case aE => first | rfl | exact congrArg (fun n => Value.slice (some ⟨n, 0, none⟩) 1 1) (by simp)); (case aF => intro k hk e; have := blk_lt HBL.out; injection e with e; first | omega | (simp at hk this; omega) | (simp at hk; omega) | (simp at this; omega)); (case aO => (with_reducible repeat (first | apply Kd.R_alloc | apply Kd.R_drewN | apply Kd.R_drew)); exact HT.out.P); (case aB => repeat (first | exact HB.out | apply pw_below_drewN | apply below_drew1)); (case aS => first | exact HB.out.size | (have := HB.out.size; simp at *; omega)); (case aL => have := Ha.out; omega); intro v1 w1 ho hb hg hat; obtain ⟨A3, c3, rfl⟩ := Kd.R_slice ho; have hbl1 := blk_grown HBL.out hg (fun e => HT.out.P.1 g e.symm rfl); have hc2 : w1.cell? ⟨g, 1, none⟩ = some (.slice A1 aP.length c1) := (blk_cell hbl1 1).trans rfl; have hf2 := blk_frozen hbl1 1; have HT2 := Aside0.mk ((HT.out.appP ho hg hat).set 1 (.slice A3 (aP.length + 1) c3)); have HB2 := Aside0.mk (hb.setCell (p := ⟨g, 1, none⟩) hnew (.slice A3 (aP.length + 1) c3)); have HBL2 := Aside0.mk ((blk_set hbl1 1 (.slice A3 (aP.length + 1) c3)).trans rfl); have hc3 : (w1.setCell ⟨g, 1, none⟩ (.slice A3 (aP.length + 1) c3)).cell? ⟨g, 0, none⟩ = some (.slice A2 aW.length c2) := (blk_cell HBL2.out 0).trans rfl; clear ho hb hg hat hbl1); clear tok _t) | (at_builtin; refine Kd.R_append kSp (w0 := w) w.heap.size rfl (.tmp 79) (.tmp 84) 166 44 (.agg #[.int .i64 0, .int .i64 0]) 16 rfl Try.underlying166 infoSp rfl (by decide) (by omega) (.slice A2 aW.length c2) aW ⟨fr, (l.length : Int)⟩ [.int .i64 fr, .int .i64 (l.length : Int)] (fun k => some k ≠ some g) (fun _ => False) rfl ?aE (kSp_mkM _ _ _ ⟨fr, (l.length : Int)⟩) (fun _ h => h.elim) ?aF ?aO ?aB ?aS ?aL ?_; (case aE => first | rfl | exact congrArg (fun n => Value.slice (some ⟨n, 0, none⟩) 1 1) (by simp)); (case aF => intro k hk e; have := blk_lt HBL2.out; injection e with e; first | omega | (simp at hk this; omega) | (simp at hk; omega) | (simp at this; omega)); (case aO => (with_reducible repeat (first | apply Kd.R_alloc | apply Kd.R_drewN | apply Kd.R_drew)); exact HT2.out.Wh); (case aB => repeat (first | exact HB2.out | apply pw_below_drewN | apply below_drew1)); (case aS => first | exact HB2.out.size | (have := HB2.out.size; simp at *; omega)); (case aL => have := Ha.out; omega); intro v2 w2 ho hb hg hat; obtain ⟨A4, c4, rfl⟩ := Kd.R_slice ho; have hbl1 := blk_grown HBL2.out hg (fun e => HT2.out.Wh.1 g e.symm rfl); have hc4 : w2.cell? ⟨g, 0, none⟩ = some (.slice A2 aW.length c2) := (blk_cell hbl1 0).trans rfl; have hf4 := blk_frozen hbl1 0; have HT4 := Aside0.mk (HT2.out.appW ho hg hat); have HB4 := Aside0.mk hb; have HBL4 := Aside0.mk hbl1; clear ho hb hg hat hbl1))
      go_ret2
      have hT := HT4.out.set 0 (.slice A4 (aW.length + 1) c4)
      have hP := hT.P
      have hW := hT.Wh
      have eP : aP ++ [(⟨fr, (l.length : Int)⟩ : Sp)] = (lns l 0 0).map plain := by rw [← Hl.out, HP.out]; simp [plain]
      have eW : aW ++ [(⟨fr, (l.length : Int)⟩ : Sp)] = (lns l 0 0).map whole := by rw [← Hl.out, HW.out]; simp [whole]
      have nP : aP.length + 1 = (lns l 0 0).length := by have := congrArg List.length eP; simpa using this
      have nW : aW.length + 1 = (lns l 0 0).length := by have := congrArg List.length eW; simpa using this
      rw [eP] at hP
      rw [eW] at hW
      refine ⟨g, rfl, hnew, ref_from hnew ?_ hP hW (by simp) (by simp), HB4.out.setCell hnew _⟩
      rw [blk_set HBL4.out, nW, nP]
      simp only [List.length_map]
      rfl
theorem rd_whole (L : List Ln) (i : Int) (h0 : 0 ≤ i) (h1 : i < L.length) : rdSp (L.map whole) i = whole (rdLn L i) := by
  have h : i.toNat < L.length := by omega
  simp [rdSp, rdLn, List.getD, h]
theorem rd_plain (L : List Ln) (i : Int) (h0 : 0 ≤ i) (h1 : i < L.length) : rdSp (L.map plain) i = plain (rdLn L i) := by
  have h : i.toNat < L.length := by omega
  simp [rdSp, rdLn, List.getD, h]
theorem IsRef.cells {W : World} {a : Nat} {L : List Ln} (h : IsRef W a L) : ∃ A c A' c', W.cell? ⟨a, 0, none⟩ = some (.slice A L.length c) ∧ W.cell? ⟨a, 1, none⟩ = some (.slice A' L.length c') ∧ Kd.C kSp W A L.length (L.map whole) ∧ Kd.C kSp W A' L.length (L.map plain) := by
  obtain ⟨A, c, A', c', hb, hl, hl', hc, hc'⟩ := h
  exact ⟨A, c, A', c', (blk_cell hb 0).trans rfl, (blk_cell hb 1).trans rfl, hc, hc'⟩
theorem IsRef.at {W : World} {a : Nat} {L : List Ln} (h : IsRef W a L) (i : Int) (h0 : 0 ≤ i) (h1 : i < L.length) : ∃ ad c ad' c', W.cell? ⟨a, 0, none⟩ = some (.slice (some ad) L.length c) ∧ W.cell? ⟨a, 1, none⟩ = some (.slice (some ad') L.length c') ∧
    W.cell? (ad.add (i.toNat * 2)) = some (.int .i64 (rdLn L i).f0) ∧ W.cell? ⟨(ad.add (i.toNat * 2)).block, (ad.add (i.toNat * 2)).off + 1, none⟩ = some (.int .i64 (rdLn L i).f2) ∧
    W.cell? (ad'.add (i.toNat * 2)) = some (.int .i64 (rdLn L i).f0) ∧ W.cell? ⟨(ad'.add (i.toNat * 2)).block, (ad'.add (i.toNat * 2)).off + 1, none⟩ = some (.int .i64 (rdLn L i).f1) := by
  obtain ⟨A, c, A', c', h2, h3, hc, hc'⟩ := h.cells
  obtain ⟨ad, e, h4, h5⟩ := atSp hc i h0 h1
  obtain ⟨ad', e', h6, h7⟩ := atSp hc' i h0 h1
  rw [rd_whole L i h0 h1] at h4 h5
  rw [rd_plain L i h0 h1] at h6 h7
  subst e e'
  exact ⟨ad, c, ad', c', h2, h3, h4, h5, h6, h7⟩
theorem RCount_ok (a : Nat) (L : List Ln) (w : World) (hI : IsRef w a L) :
    Calls Try.prog 109 #[.pointer (some ⟨a, 0, none⟩)] w fun e w' => e = .returned (.int .i64 L.length) ∧ w = w' := by
  obtain ⟨A, c, A', c', h2, h3, hc, hc'⟩ := hI.cells
  clear hc hc' hI h3
  go_enter Try.func109, Try.ntmps109
  go_wp2
  go_ret
  exact ⟨rfl, rfl⟩
set_option maxHeartbeats 2000000 in
theorem RLine_ok (a : Nat) (L : List Ln) (i : Int) (w : World) (hI : IsRef w a L) (h0 : 0 ≤ i) (h1 : i < L.length) (hs : L.length ≤ 2097152) :
    Calls Try.prog 107 #[.pointer (some ⟨a, 0, none⟩), .int .i64 i] w fun e w' => e = .returned (.tuple #[.agg #[.int .i64 (rdLn L i).f0, .int .i64 (rdLn L i).f2], .agg #[.int .i64 (rdLn L i).f0, .int .i64 (rdLn L i).f1], .int .i64 0]) ∧ Below w.heap.size w w' := by
  obtain ⟨ad, c, ad', c', h2, h3, h4, h5, h6, h7⟩ := hI.at i h0 h1
  clear hI
  have l4 := World.block_lt_of_cell? _ _ h4
  have l6 := World.block_lt_of_cell? _ _ h6
  rw [add_block] at l4 l6
  have l2 : a < w.heap.size := World.block_lt_of_cell? _ _ h2
  generalize (rdLn L i).f0 = x0 at *
  generalize (rdLn L i).f1 = x1 at *
  generalize (rdLn L i).f2 = x2 at *
  have g2 := cell_alloc2 h2
  have g3 := cell_alloc2 h3
  have g4 := cell_alloc2 h4
  have g5 := cell_alloc2 h5
  have g6 := cell_alloc2 h6
  have g7 := cell_alloc2 h7
  clear h2 h3 h4 h5 h6 h7
  have hlt : decide (i < 0) = false := decide_eq_false (by omega)
  have hge : decide ((L.length : Int) ≤ i) = false := decide_eq_false (by omega)
  go_enter Try.func107, Try.ntmps107
  go_wp2
  go_region
  go_wp2
  refine bodyPost_ret (v := .tuple #[.agg #[.int .i64 x0, .int .i64 x2], .agg #[.int .i64 x0, .int .i64 x1], .int .i64 0]) (by simp [results, Try.results107, go_sem]) rfl ⟨rfl, ?_⟩
  repeat (first | exact Below.refl _ _ | apply below_alloc | apply pw_below_drewN | apply below_drew1 | refine Below.setCell ?_ (by simp) _)
def FindAt (L : List Ln) (at_ : Int) (r : Nat) : Prop := r < L.length ∧ (∀ t : Nat, t < r → (rdLn L t).f2 ≤ at_) ∧ (r + 1 < L.length → at_ < (rdLn L r).f2)
theorem FindAt.uniq {L : List Ln} {at_ : Int} {r s : Nat} (h : FindAt L at_ r) (k : FindAt L at_ s) : r = s := by
  rcases Nat.lt_trichotomy r s with hlt | e | hlt
  · have h1 := k.2.1 r hlt
    have h2 := h.2.2 (by have := k.1; omega)
    omega
  · exact e
  · have h1 := h.2.1 s hlt
    have h2 := k.2.2 (by have := h.1; omega)
    omega
def Chain : List Ln → Int → Int → Prop
  | [], _, _ => False
  | [x], fr, e => x.f0 = fr ∧ fr ≤ x.f1 ∧ x.f1 = x.f2 ∧ x.f2 = e
  | x :: y :: r, fr, e => x.f0 = fr ∧ fr ≤ x.f1 ∧ x.f1 < x.f2 ∧ x.f2 ≤ x.f1 + 2 ∧ Chain (y :: r) x.f2 e
theorem Chain.cons {x : Ln} {r : List Ln} {fr e : Int} (h0 : x.f0 = fr) (h1 : fr ≤ x.f1) (h2 : x.f1 < x.f2) (h3 : x.f2 ≤ x.f1 + 2) (h : Chain r x.f2 e) : Chain (x :: r) fr e := by
  cases r with
  | nil => exact h.elim
  | cons y r => exact ⟨h0, h1, h2, h3, h⟩
theorem lns_chain (n : Nat) : ∀ (l : List Int) (fr i : Int), l.length ≤ n → fr ≤ i → Chain (lns l fr i) fr (i + l.length) := by
  induction n with
  | zero =>
    intro l fr i hl hfi
    obtain rfl : l = [] := List.length_eq_zero_iff.1 (by omega)
    rw [lns]
    exact ⟨rfl, hfi, rfl, by simp⟩
  | succ n ih =>
    intro l fr i hl hfi
    cases l with
    | nil => rw [lns]; exact ⟨rfl, hfi, rfl, by simp⟩
    | cons b r =>
      rw [lns]
      simp only [List.length_cons] at hl ⊢
      by_cases h10 : b = 10
      · rw [if_pos h10]
        refine Chain.cons rfl hfi (by show i < i + 1; omega) (by show i + 1 ≤ i + 2; omega) ?_
        have := ih r (i + 1) (i + 1) (by omega) (Int.le_refl _)
        rwa [show i + 1 + (r.length : Int) = i + ((r.length + 1 : Nat) : Int) by omega] at this
      · rw [if_neg h10]
        by_cases h13 : b = 13
        · rw [if_pos h13]
          by_cases h2 : r.head? = some 10
          · rw [if_pos h2]
            refine Chain.cons rfl hfi (by show i < i + 2; omega) (by show i + 2 ≤ i + 2; omega) ?_
            have hr : 0 < r.length := by
              cases r with
              | nil => simp at h2
              | cons y r => simp
            have := ih r.tail (i + 2) (i + 2) (by simp; omega) (Int.le_refl _)
            rwa [show i + 2 + (r.tail.length : Int) = i + ((r.length + 1 : Nat) : Int) by simp; omega] at this
          · rw [if_neg h2]
            refine Chain.cons rfl hfi (by show i < i + 1; omega) (by show i + 1 ≤ i + 2; omega) ?_
            have := ih r (i + 1) (i + 1) (by omega) (Int.le_refl _)
            rwa [show i + 1 + (r.length : Int) = i + ((r.length + 1 : Nat) : Int) by omega] at this
        · rw [if_neg h13]
          have := ih r fr (i + 1) (by omega) (by omega)
          rwa [show i + 1 + (r.length : Int) = i + ((r.length + 1 : Nat) : Int) by omega] at this
theorem lns_chain0 (l : List Int) : Chain (lns l 0 0) 0 l.length := by
  have := lns_chain l.length l 0 0 (Nat.le_refl _) (Int.le_refl _)
  rwa [Int.zero_add] at this
theorem Chain.pos {L : List Ln} {fr e : Int} (h : Chain L fr e) : 0 < L.length := by
  cases L with
  | nil => exact h.elim
  | cons x r => simp
theorem rdLn_zero (x : Ln) (r : List Ln) : rdLn (x :: r) 0 = x := rfl
theorem rdLn_succ (x : Ln) (r : List Ln) (t : Nat) : rdLn (x :: r) ((t + 1 : Nat) : Int) = rdLn r (t : Int) := by simp [rdLn, List.getD]
theorem Chain.at : ∀ {L : List Ln} {fr e : Int}, Chain L fr e → ∀ t : Nat, t < L.length → fr ≤ (rdLn L t).f0 ∧ (rdLn L t).f0 ≤ (rdLn L t).f1 ∧ (rdLn L t).f1 ≤ (rdLn L t).f2 ∧ (rdLn L t).f2 ≤ e ∧ (t = 0 → (rdLn L t).f0 = fr) ∧
    (t + 1 < L.length → (rdLn L t).f1 < (rdLn L t).f2 ∧ (rdLn L t).f2 ≤ (rdLn L t).f1 + 2 ∧ (rdLn L (t + 1 : Nat)).f0 = (rdLn L t).f2) ∧ (t + 1 = L.length → (rdLn L t).f1 = e ∧ (rdLn L t).f2 = e) ∧ fr ≤ e
  | [], _, _, h, _, _ => h.elim
  | [x], fr, e, ⟨h0, h1, h2, h3⟩, t, ht => by
    obtain rfl : t = 0 := by simpa using ht
    simp only [Int.natCast_zero, rdLn_zero, List.length_singleton]
    omega
  | x :: y :: r, fr, e, ⟨h0, h1, h2, h2', h3⟩, t, ht => by
    cases t with
    | zero =>
      have h4 := Chain.at h3 0 (by simp)
      have h5 := h4.2.2.2.2.1 rfl
      simp only [Int.natCast_zero, rdLn_zero, List.length_cons] at h4 ⊢
      rw [show ((0 + 1 : Nat) : Int) = ((0 + 1 : Nat) : Int) from rfl, rdLn_succ]
      simp only [Int.natCast_zero, rdLn_zero]
      simp only [Int.natCast_zero, rdLn_zero] at h5
      omega
    | succ t =>
      have h4 := Chain.at h3 t (by simpa using ht)
      rw [rdLn_succ, rdLn_succ]
      simp only [List.length_cons] at h4 ⊢
      have h5 := h4.2.2.2.2.2.1
      have h6 := h4.2.2.2.2.2.2.1
      refine ⟨by omega, by omega, by omega, by omega, by omega, fun h => h5 (by omega), fun h => h6 (by omega), by omega⟩
theorem Chain.step {L : List Ln} {fr e : Int} (h : Chain L fr e) (a : Nat) : ∀ d : Nat, a + d < L.length → (rdLn L a).f2 + d ≤ (rdLn L (a + d : Nat)).f2 + (if a + d + 1 = L.length then 1 else 0) ∧ (rdLn L a).f2 ≤ (rdLn L (a + d : Nat)).f2 := by
  intro d
  induction d with
  | zero => intro _; simp; split <;> omega
  | succ d ih =>
    intro hd
    have h1 := ih (by omega)
    have h2 := h.at (a + d) (by omega)
    have h3 := h.at (a + d + 1) (by omega)
    have h4 := h2.2.2.2.2.2.1 (by omega)
    rw [if_neg (by omega)] at h1
    have e1 : ((a + (d + 1) : Nat)) = a + d + 1 := by omega
    rw [e1]
    by_cases hl : a + d + 1 + 1 = L.length
    · rw [if_pos hl]
      omega
    · rw [if_neg hl]
      have h5 := h3.2.2.2.2.2.1 (by omega)
      omega
theorem Chain.rises {L : List Ln} {fr e : Int} (h : Chain L fr e) : Rises L := by
  intro a b hab hb
  obtain ⟨d, rfl⟩ : ∃ d, b = a + d := ⟨b - a, by omega⟩
  exact (h.step a d hb).2
theorem Chain.last {L : List Ln} {fr e : Int} (h : Chain L fr e) : (rdLn L ((L.length : Int) - 1)).f2 = e := by
  have hp := h.pos
  have := (h.at (L.length - 1) (by omega)).2.2.2.2.2.2.1 (by omega)
  rw [show ((L.length : Int) - 1) = ((L.length - 1 : Nat) : Int) by omega]
  exact this.2
theorem Chain.length_le {L : List Ln} {fr e : Int} (h : Chain L fr e) : (L.length : Int) ≤ e - fr + 1 := by
  have hp := h.pos
  have h1 := (h.step 0 (L.length - 1) (by omega)).1
  rw [if_pos (by omega)] at h1
  have h2 := h.at 0 hp
  have h3 := (h.at (0 + (L.length - 1)) (by omega)).2.2.2.2.2.2.1 (by omega)
  rw [h3.2] at h1
  by_cases hl : L.length = 1
  · omega
  · have := h2.2.2.2.2.2.1 (by omega)
    omega
theorem Chain.find {L : List Ln} {fr e : Int} (h : Chain L fr e) (at_ : Int) : ∃ r, FindAt L at_ r := by
  have hp := h.pos
  have : ∀ d : Nat, d < L.length → (∃ r, FindAt L at_ r) ∨ (∀ t : Nat, t < d → (rdLn L t).f2 ≤ at_) := by
    intro d
    induction d with
    | zero => intro _; exact .inr (fun t ht => absurd ht (Nat.not_lt_zero _))
    | succ d ih =>
      intro hd
      rcases ih (by omega) with h1 | h1
      · exact .inl h1
      · by_cases hlt : at_ < (rdLn L d).f2
        · exact .inl ⟨d, by omega, h1, fun _ => hlt⟩
        · refine .inr (fun t ht => ?_)
          rcases Nat.lt_succ_iff_lt_or_eq.1 ht with h2 | rfl
          · exact h1 t h2
          · omega
  rcases this (L.length - 1) (by omega) with h1 | h1
  · exact h1
  · exact ⟨L.length - 1, by omega, h1, fun h2 => by omega⟩
theorem Find_is (a : Nat) (L : List Ln) (fr e at_ : Int) (r : Nat) (w : World) (hI : IsIdx w a L) (hc : Chain L fr e) (h0 : 0 ≤ at_) (h1 : at_ ≤ e) (hs : L.length ≤ 2097152) (hf : FindAt L at_ r) :
    Calls Try.prog 100 #[.pointer (some ⟨a, 0, none⟩), .int .i64 at_] w fun e w' => e = .returned (.tuple #[.int .i64 r, .int .i64 0]) ∧ Below w.heap.size w w' := by
  refine (Find_ok a L at_ w hI hc.pos h0 (by rw [hc.last]; exact h1) hs hc.rises).mono ?_
  rintro e' w' ⟨r', rfl, h2, h3, h4, hb⟩
  obtain rfl : r' = r := FindAt.uniq ⟨h2, h3, fun h => h4 r' (Nat.le_refl _) h⟩ hf
  exact ⟨rfl, hb⟩
end Go.Proofs.Ytjebkpcekkkbkaa.B
namespace Go.Proofs.Ytjebkpcekkkbkaa.B
open Go.RowKit Go.Shelf Go.Proofs Go.Proofs.YtjebkpcekkkbkaaW.PrintWords Go.Proofs.YtjebkpcekkkbkaaW.PrintLast Go.Proofs.YtjebkpcekkkbkaaW.PrintMore Go.Proofs.Ytjebkpcekkkbkaa.FBase
attribute [local go_sem] Oper.semAt_some
def IsBlk (W : World) (g : Nat) (o : Obj) : Prop := W.heap[g]? = some o
theorem IsBlk.below {W W1 : World} {g : Nat} {o : Obj} (h : IsBlk W g o) (hb : Below W.heap.size W W1) : IsBlk W1 g o := (hb.block g (blk_lt h)).trans h
theorem IsBlk.alloc {W : World} {g : Nat} {o : Obj} (h : IsBlk W g o) (o1 : Obj) : IsBlk (W.alloc o1) g o := h.below (below_alloc (Below.refl _ _) o1)
theorem IsBlk.drewN {W : World} {g : Nat} {o : Obj} (h : IsBlk W g o) (n : Nat) : IsBlk (W.drewN n) g o := h.below (pw_below_drewN (Below.refl _ _) n)
theorem IsBlk.cell {W : World} {g : Nat} {cs : Array Value} {t : TypeId} (h : IsBlk W g (.cells cs t (0, 0))) (i : Nat) : W.cell? ⟨g, i, none⟩ = cs[i]? := blk_cell h i
theorem IsBlk.frozen {W : World} {g : Nat} {cs : Array Value} {t : TypeId} (h : IsBlk W g (.cells cs t (0, 0))) (i : Nat) : W.frozen? ⟨g, i, none⟩ = false := blk_frozen h i
theorem cell_alloc1 {W : World} {p : Addr} {v : Value} (h : W.cell? p = some v) (o : Obj) : (W.alloc o).cell? p = some v := ((below_alloc (Below.refl _ W) o).cell (World.block_lt_of_cell? W _ h)).trans h
theorem cell_below {W W1 : World} {p : Addr} {v : Value} (h : W.cell? p = some v) (hb : Below W.heap.size W W1) : W1.cell? p = some v := (hb.cell (World.block_lt_of_cell? W _ h)).trans h
end Go.Proofs.Ytjebkpcekkkbkaa.B
namespace Go.Proofs.Ytjebkpcekkkbkaa.B
open Go.RowKit Go.Shelf Go.Proofs Go.Proofs.YtjebkpcekkkbkaaW.PrintWords Go.Proofs.YtjebkpcekkkbkaaW.PrintLast Go.Proofs.YtjebkpcekkkbkaaW.PrintMore Go.Proofs.Ytjebkpcekkkbkaa.FBase
attribute [local go_sem] Oper.semAt_some
def Keeps (F : World → Prop) : Prop := ∀ W1 W2 : World, F W1 → Below W1.heap.size W1 W2 → F W2
structure Sta (w W : World) (F : World → Prop) : Prop where
  bel : Below w.heap.size w W
  now : F W
  keeps : Keeps F
theorem Sta.step {w W W1 : World} {F : World → Prop} (h : Sta w W F) (c : Below W.heap.size W W1) : Sta w W1 F := ⟨below_step h.bel c, h.keeps _ _ h.now c, h.keeps⟩
theorem Sta.call {w W W1 W2 : World} {F : World → Prop} (h : Sta w W F) (c : Below W.heap.size W W1) (hb : Below W1.heap.size W1 W2) : Sta w W2 F := (h.step c).step hb
theorem Sta.add {w W : World} {F G : World → Prop} (h : Sta w W F) (g : G W) (k : Keeps G) : Sta w W (fun W => G W ∧ F W) := ⟨h.bel, ⟨g, h.now⟩, fun _ _ h1 hb => ⟨k _ _ h1.1 hb, h.keeps _ _ h1.2 hb⟩⟩
theorem Sta.only {w W : World} {F G : World → Prop} (h : Sta w W F) (g : G W) (k : Keeps G) : Sta w W G := ⟨h.bel, g, k⟩
theorem Sta.start (w : World) : Sta w w (fun _ => True) := ⟨Below.refl _ _, trivial, fun _ _ h _ => h⟩
theorem keeps_and {F G : World → Prop} (h : Keeps F) (k : Keeps G) : Keeps (fun W => F W ∧ G W) := fun _ _ h1 hb => ⟨h _ _ h1.1 hb, k _ _ h1.2 hb⟩
theorem keeps_idx (a : Nat) (L : List Ln) : Keeps (fun W => IsIdx W a L) := fun _ _ h hb => h.below hb
theorem keeps_ref (a : Nat) (L : List Ln) : Keeps (fun W => IsRef W a L) := fun _ _ h hb => h.below hb
theorem keeps_blk (g : Nat) (o : Obj) : Keeps (fun W => IsBlk W g o) := fun _ _ h hb => h.below hb
theorem keeps_C {α : Type} (d : Kd α) (A : Option Addr) (n : Nat) (xs : List α) : Keeps (fun W => Kd.C d W A n xs) := fun _ _ h hb => Kd.C_below h hb
theorem keeps_R {α : Type} (d : Kd α) (e base : Nat) (ok : Nat → Prop) (v : Value) (xs : List α) : Keeps (fun W => Kd.R d e W base ok v xs) := fun _ _ h hb => Kd.R_below h hb
theorem FromBase.and {base : Nat} {W : World} {F G : World → Prop} (h : FromBase base W F) (k : FromBase base W G) : FromBase base W (fun W => F W ∧ G W) := fun W1 h1 => ⟨h W1 h1, k W1 h1⟩
theorem FromBase.set {base : Nat} {W : World} {F : World → Prop} (h : FromBase base W F) {p : Addr} (hp : p.block < base) (u : Value) : FromBase base (W.setCell p u) F :=
  h.step (fun k hk _ => Below.heap_setCell W p u k (by omega))
theorem FromBase.mono {base : Nat} {W : World} {F G : World → Prop} (h : FromBase base W F) (hFG : ∀ W, F W → G W) : FromBase base W G := fun W1 h1 => hFG _ (h W1 h1)
theorem IsBlk.other {W : World} {g : Nat} {o : Obj} (h : IsBlk W g o) {p : Addr} (hne : g ≠ p.block) (u : Value) : IsBlk (W.setCell p u) g o := (Below.heap_setCell W p u g hne).trans h
theorem Copy_ok (A : Option Addr) (c : Nat) (l : List Int) (w : World) (hr : Kd.C (Kd.int .u8) w A l.length l) (hc : l.length ≤ c) (hs : l.length ≤ 1048576) :
    Calls Try.prog 17 #[.slice A l.length c] w fun e w' => ∃ v : Value, e = .returned v ∧ Kd.R (Kd.int .u8) 5 w' w.heap.size (fun _ => True) v l ∧ Below w.heap.size w w' :=
  colophonref00_CopyBytes.calls A c l l w hr hc (by unfold colophonref00_CopyBytes.f; rw [if_pos (by simp; omega)]; simp)
theorem own_at {k : IntKind} {e base n cap : Nat} {ok : Nat → Prop} {W : World} {A : Option Addr} {xs : List Int} (h : Kd.R (Kd.int k) e W base ok (.slice A n cap) xs) (hn : 0 < n) : ∃ g, A = some ⟨g, 0, none⟩ ∧ base ≤ g ∧ g < W.heap.size := by
  obtain ⟨inner, ho⟩ := Kd.R_own h
  rcases ho.2 with ⟨hv, _⟩ | ⟨g, cap', cur, hv, hg, hh, _⟩
  · injection hv with _ h2 _
    omega
  · injection hv with h1 _ _
    exact ⟨g, h1, hg, blk_lt hh⟩
theorem cell_own {k : IntKind} {e base g n cap : Nat} {ok : Nat → Prop} {W : World} {xs : List Int} (h : Kd.R (Kd.int k) e W base ok (.slice (some ⟨g, 0, none⟩) n cap) xs) (i : Nat) (hi : i < n) : W.cell? ⟨g, i, none⟩ = some (.int k (rd xs i)) ∧ W.frozen? ⟨g, i, none⟩ = false := by
  have h := Kd.R_celln (enc := Value.int k) (h1 := fun _ => rfl) (0 : Int) h (i : Int) (by omega) (by omega)
  rw [Int.toNat_natCast] at h
  exact h
theorem put_own {k : IntKind} {e base g n cap : Nat} {ok : Nat → Prop} {W : World} {xs : List Int} (h : Kd.R (Kd.int k) e W base ok (.slice (some ⟨g, 0, none⟩) n cap) xs) (i : Nat) (x : Int) : Kd.R (Kd.int k) e (W.setCell ⟨g, i, none⟩ (.int k x)) base ok (.slice (some ⟨g, 0, none⟩) n cap) (xs.set i x) := by
  have h := Kd.R_putn (enc := Value.int k) (h1 := fun _ => rfl) h (i : Int) x
  rw [Int.toNat_natCast] at h
  exact h
end Go.Proofs.Ytjebkpcekkkbkaa.B
namespace Go.Proofs.Ytjebkpcekkkbkaa.B
open Go.RowKit Go.Proofs.YtjebkpcekkkbkaaW.PrintWords Go.Proofs.YtjebkpcekkkbkaaW.PrintLast Go.Proofs.YtjebkpcekkkbkaaW.PrintMore Go.Proofs.Ytjebkpcekkkbkaa.FBase
def Bytes (l : List Int) : Prop := ∀ x ∈ l, 0 ≤ x ∧ x < 256
theorem Bytes.tail {b : Int} {l : List Int} (h : Bytes (b :: l)) : Bytes l := fun x hx => h x (List.mem_cons_of_mem _ hx)
theorem Bytes.drop {l : List Int} (h : Bytes l) (n : Nat) : Bytes (l.drop n) := fun x hx => h x (List.mem_of_mem_drop hx)
theorem Bytes.take {l : List Int} (h : Bytes l) (n : Nat) : Bytes (l.take n) := fun x hx => h x (List.mem_of_mem_take hx)
def sizeOfFirst (b : Int) : Int := if b < 128 then 1 else if b < 194 then 0 else if 244 < b then 0 else if b < 224 then 2 else if b < 240 then 3 else 4
def lowOf (b : Int) : Int := if b = 224 then 160 else if b = 240 then 144 else 128
def highOf (b : Int) : Int := if b = 237 then 159 else if b = 244 then 143 else 191
def restOf (c n lo hi : Int) : List Int → Int × Int × Int
  | [] => (0, 0, 3)
  | b1 :: t1 =>
    if b1 < lo then (0, 0, 10) else if hi < b1 then (0, 0, 10)
    else if n = 2 then (c * 64 + b1 % 64, 2, 0)
    else match t1 with
    | [] => (0, 0, 3)
    | b2 :: t2 =>
      if b2 < 128 then (0, 0, 10) else if 191 < b2 then (0, 0, 10)
      else if n = 3 then ((c * 64 + b1 % 64) * 64 + b2 % 64, 3, 0)
      else match t2 with
      | [] => (0, 0, 3)
      | b3 :: _ => if b3 < 128 then (0, 0, 10) else if 191 < b3 then (0, 0, 10) else (((c * 64 + b1 % 64) * 64 + b2 % 64) * 64 + b3 % 64, 4, 0)
def dec : List Int → Int × Int × Int
  | [] => (0, 0, 9)
  | b :: t =>
    if sizeOfFirst b = 1 then (b, 1, 0) else if sizeOfFirst b = 0 then (0, 0, 10)
    else if sizeOfFirst b = 2 then restOf (b % 32) 2 (lowOf b) (highOf b) t
    else if sizeOfFirst b = 3 then restOf (b % 16) 3 (lowOf b) (highOf b) t
    else restOf (b % 8) 4 (lowOf b) (highOf b) t
theorem w64 (x : Int) (h0 : 0 ≤ x) (h1 : x < 4611686018427387904) : wrap64 x = x := by unfold wrap64; omega
theorem i64_or6 (x y : Int) (hx0 : 0 ≤ x) (hx : x % 64 = 0) (hx1 : x < 4611686018427387904) (h0 : 0 ≤ y) (h1 : y < 64) : Go.bits .or .i64 x y = x + y :=
  bits_join .i64 62 (by decide) (fun n h0 h1 => by rw [IntKind.wrap_i64]; omega) 6 x y hx0 hx hx1 h0 h1 (by omega)
theorem step6 (c b : Int) (h0 : 0 ≤ c) (h1 : c < 16777216) (hb0 : 0 ≤ b) (hb1 : b < 256) : Go.bits .or .i64 (wrap64 (c * 64)) (wrap64 (Go.bits .and .u8 b 63)) = c * 64 + b % 64 := by
  rw [u8_and63 b hb0 hb1, w64 (c * 64) (by omega) (by omega), w64 (b % 64) (by omega) (by omega)]
  exact i64_or6 _ _ (by omega) (by omega) (by omega) (by omega) (by omega)
theorem rd0 (b : Int) (t : List Int) : rd (b :: t) 0 = b := rfl
theorem rd1 (b b1 : Int) (t : List Int) : rd (b :: b1 :: t) 1 = b1 := rfl
theorem rd2 (b b1 b2 : Int) (t : List Int) : rd (b :: b1 :: b2 :: t) 2 = b2 := rfl
theorem rd3 (b b1 b2 b3 : Int) (t : List Int) : rd (b :: b1 :: b2 :: b3 :: t) 3 = b3 := rfl
theorem ww1 : wrap64 (1 + 1) = 2 := by unfold wrap64; omega
theorem ww2 : wrap64 (2 + 1) = 3 := by unfold wrap64; omega
theorem ww3 : wrap64 (3 + 1) = 4 := by unfold wrap64; omega
theorem len1 (b : Int) (t : List Int) : ((b :: t).length : Int) = t.length + 1 := by simp
theorem form_f (b : Int) (h0 : 0 ≤ b) (h1 : b < 256) : ∃ m lo hi, runes_form.f 2 b = some (sizeOfFirst b, m, lo, hi) ∧ (sizeOfFirst b = 1 → m = 127) ∧
    (1 < sizeOfFirst b → lo = lowOf b ∧ hi = highOf b) ∧ (sizeOfFirst b = 2 → m = 31) ∧ (sizeOfFirst b = 3 → m = 15) ∧ (sizeOfFirst b = 4 → m = 7) := by
  unfold runes_form.f sizeOfFirst lowOf highOf
  by_cases c1 : b < 128
  · simp [c1]
  · by_cases c2 : b < 194
    · simp [c1, c2, runes_form.j0]
    · by_cases c3 : 244 < b
      · simp [c1, c2, c3, runes_form.j0]
      · by_cases c4 : b < 224
        · have n1 : ¬ b = 224 := by omega
          have n2 : ¬ b = 240 := by omega
          have n3 : ¬ b = 237 := by omega
          have n4 : ¬ b = 244 := by omega
          simp [c1, c2, c3, c4, n1, n2, n3, n4, runes_form.j0]
          exact ⟨_, _, _, ⟨rfl, rfl, rfl⟩, ⟨rfl, rfl⟩, rfl⟩
        · by_cases c5 : b < 240
          · have n2 : ¬ b = 240 := by omega
            have n4 : ¬ b = 244 := by omega
            by_cases c6 : b = 224
            · simp [c6, runes_form.j0]
              exact ⟨_, _, _, ⟨rfl, rfl, rfl⟩, ⟨rfl, rfl⟩, rfl⟩
            · by_cases c7 : b = 237
              · simp [c7, runes_form.j0]
                exact ⟨_, _, _, ⟨rfl, rfl, rfl⟩, ⟨rfl, rfl⟩, rfl⟩
              · simp [c1, c2, c3, c4, c5, c6, c7, n2, n4, runes_form.j0]
                exact ⟨_, _, _, ⟨rfl, rfl, rfl⟩, ⟨rfl, rfl⟩, rfl⟩
          · have n1 : ¬ b = 224 := by omega
            have n3 : ¬ b = 237 := by omega
            by_cases c6 : b = 240
            · simp [c6, runes_form.j0]
              exact ⟨_, _, _, ⟨rfl, rfl, rfl⟩, ⟨rfl, rfl⟩, rfl⟩
            · by_cases c7 : b = 244
              · simp [c7, runes_form.j0]
                exact ⟨_, _, _, ⟨rfl, rfl, rfl⟩, ⟨rfl, rfl⟩, rfl⟩
              · simp [c1, c2, c3, c4, c5, c6, c7, n1, n3, runes_form.j0]
                exact ⟨_, _, _, ⟨rfl, rfl, rfl⟩, ⟨rfl, rfl⟩, rfl⟩
theorem size_range (b : Int) : sizeOfFirst b = 0 ∨ sizeOfFirst b = 1 ∨ sizeOfFirst b = 2 ∨ sizeOfFirst b = 3 ∨ sizeOfFirst b = 4 := by
  unfold sizeOfFirst
  by_cases c1 : b < 128
  · simp [c1]
  · by_cases c2 : b < 194
    · simp [c1, c2]
    · by_cases c3 : 244 < b
      · simp [c1, c2, c3]
      · by_cases c4 : b < 224
        · simp [c1, c2, c3, c4]
        · by_cases c5 : b < 240 <;> simp [c1, c2, c3, c4, c5]
theorem size_one (b : Int) (h : sizeOfFirst b = 1) : b < 128 := by
  refine Int.not_le.1 (fun hn => ?_)
  unfold sizeOfFirst at h
  rw [if_neg (by omega)] at h
  by_cases c2 : b < 194
  · simp [c2] at h
  · by_cases c3 : 244 < b
    · simp [c2, c3] at h
    · by_cases c4 : b < 224
      · simp [c2, c3, c4] at h
      · by_cases c5 : b < 240 <;> simp [c2, c3, c4, c5] at h
set_option maxRecDepth 100000 in
theorem loop_f (b : Int) (t : List Int) (h : Bytes (b :: t)) (c n lo hi : Int) (hl : (t.length : Int) < 4611686018427387904) (hn : n = 2 ∨ n = 3 ∨ n = 4) (hc0 : 0 ≤ c) (hc1 : c < 32) (k : Nat) :
    runes_Decode.l0 (k + 4) c n (b :: t) lo hi 1 = some (restOf c n lo hi t) := by
  have hn1 : 1 < n := by omega
  unfold restOf
  rw [runes_Decode.l0, if_pos hn1]
  cases t with
  | nil => simp
  | cons b1 t1 =>
    have hb1 := h b1 (by simp)
    simp only [len1]
    rw [if_neg (by have : (0 : Int) ≤ t1.length := Int.natCast_nonneg _; omega), if_pos (by decide), if_pos (by have : (0 : Int) ≤ t1.length := Int.natCast_nonneg _; omega), rd1]
    by_cases l1 : b1 < lo
    · simp [l1]
    · rw [if_neg l1, if_neg l1]
      by_cases g1 : hi < b1
      · simp [g1]
      · rw [if_neg (by omega), if_neg g1, step6 c b1 hc0 (by omega) hb1.1 hb1.2, ww1, runes_Decode.l0]
        by_cases n2 : n = 2
        · subst n2; simp
        · rw [if_pos (by omega), if_neg n2]
          cases t1 with
          | nil => simp
          | cons b2 t2 =>
            have hb2 := h b2 (by simp)
            simp only [len1]
            rw [if_neg (by have : (0 : Int) ≤ t2.length := Int.natCast_nonneg _; omega), if_pos (by decide), if_pos (by have : (0 : Int) ≤ t2.length := Int.natCast_nonneg _; omega), rd2]
            by_cases l2 : b2 < 128
            · simp [l2]
            · rw [if_neg l2, if_neg l2]
              by_cases g2 : 191 < b2
              · simp [g2]
              · rw [if_neg (by omega), if_neg g2, step6 _ b2 (by omega) (by omega) hb2.1 hb2.2, ww2, runes_Decode.l0]
                by_cases n3 : n = 3
                · subst n3; simp
                · have n4 : n = 4 := by omega
                  rw [if_pos (show (3 : Int) < n by omega), if_neg n3]
                  cases t2 with
                  | nil => simp
                  | cons b3 t3 =>
                    have hb3 := h b3 (by simp)
                    simp only [len1]
                    rw [if_neg (by have : (0 : Int) ≤ t3.length := Int.natCast_nonneg _; omega), if_pos (by decide), if_pos (by have : (0 : Int) ≤ t3.length := Int.natCast_nonneg _; omega), rd3]
                    by_cases l3 : b3 < 128
                    · simp [l3]
                    · rw [if_neg l3, if_neg l3]
                      by_cases g3 : 191 < b3
                      · simp [g3]
                      · rw [if_neg (by omega), if_neg g3, step6 _ b3 (by omega) (by omega) hb3.1 hb3.2, ww3, runes_Decode.l0, if_neg (by omega), n4]
theorem Decode_f (l : List Int) (i : Int) (h : Bytes l) (hl : l.length ≤ 281474976710656) (h0 : 0 ≤ i) (h1 : i < l.length) : runes_Decode.f 8 l i = some (dec (l.drop i.toNat)) := by
  unfold runes_Decode.f
  rw [if_neg (by omega), decide_eq_false (by omega)]
  simp only [runes_Decode.j0, Option.bind_some]
  rw [if_neg (by decide), if_pos h0, if_pos (by omega)]
  have hB := h.drop i.toNat
  have hlen : (l.drop i.toNat).length = l.length - i.toNat := List.length_drop
  generalize l.drop i.toNat = y at *
  cases y with
  | nil => simp at hlen; omega
  | cons b t =>
    have hb := hB b (by simp)
    have hpos : (0 : Int) < ((b :: t).length : Int) := by simp only [len1]; omega
    rw [if_pos hpos, rd0]
    obtain ⟨m, lo, hi, hf, f1, f2, f3, f4, f5⟩ := form_f b hb.1 hb.2
    have hf7 : runes_form.f 7 b = some (sizeOfFirst b, m, lo, hi) := by
      have e : ∀ k, runes_form.f (2 + k) b = some (sizeOfFirst b, m, lo, hi) := by
        intro k
        induction k with
        | zero => exact hf
        | succ k ih => exact runes_form.mono b _ _ ih
      exact e 5
    rw [hf7]
    simp only [Option.bind_some]
    have ht : (t.length : Int) < 4611686018427387904 := by simp at hlen; omega
    rcases size_range b with e | e | e | e | e
    · rw [if_pos e]; simp [dec, e]
    · rw [if_neg (by omega), f1 e, show (7 : Nat) = 3 + 4 from rfl]
      rw [show (3 + 4 : Nat) = 6 + 1 from rfl, runes_Decode.l0, if_neg (by omega)]
      have hb2 : b < 128 := size_one b e
      have e2 : Go.bits .and .u8 b 127 = b % 128 := bits_mask .u8 8 (by decide) wraps_u8 7 (by decide) b hb.1 (by omega)
      rw [e2, show b % 128 = b by omega, w64 b hb.1 (by omega)]
      simp [dec, e]
    all_goals
      obtain ⟨rfl, rfl⟩ := f2 (by omega)
      rw [if_neg (by omega)]
    · rw [f3 e, u8_and31 b hb.1 hb.2, w64 _ (by omega) (by omega), e, show (7 : Nat) = 3 + 4 from rfl, loop_f b t hB _ 2 _ _ ht (by simp) (by omega) (by omega) 3]
      simp [dec, e]
    · rw [f4 e, u8_and15 b hb.1 hb.2, w64 _ (by omega) (by omega), e, show (7 : Nat) = 3 + 4 from rfl, loop_f b t hB _ 3 _ _ ht (by simp) (by omega) (by omega) 3]
      simp [dec, e]
    · rw [f5 e, u8_and7 b hb.1 hb.2, w64 _ (by omega) (by omega), e, show (7 : Nat) = 3 + 4 from rfl, loop_f b t hB _ 4 _ _ ht (by simp) (by omega) (by omega) 3]
      simp [dec, e]
theorem LeO_le {α : Type} {f : Nat → Option α} (h : ∀ k, LeO (f k) (f (k + 1))) {a b : Nat} (hab : a ≤ b) {r : α} (e : f a = some r) : f b = some r := by
  obtain ⟨d, rfl⟩ : ∃ d, b = a + d := ⟨b - a, by omega⟩
  induction d with
  | zero => exact e
  | succ d ih => exact h _ _ (ih (by omega))
theorem restOf_ok {c n lo hi : Int} {t : List Int} (h0 : 0 ≤ c) (hn : n = 2 ∨ n = 3 ∨ n = 4) (he : (restOf c n lo hi t).2.2 = 0) : (restOf c n lo hi t).2.1 = n ∧ n ≤ t.length + 1 ∧ 0 ≤ (restOf c n lo hi t).1 := by
  unfold restOf at *
  cases t with
  | nil => simp at he
  | cons b1 t1 =>
    simp only at he ⊢
    by_cases l1 : b1 < lo
    · simp [l1] at he
    · by_cases g1 : hi < b1
      · simp [l1, g1] at he
      · rw [if_neg l1, if_neg g1] at he ⊢
        by_cases n2 : n = 2
        · rw [if_pos n2]; simp only [len1]; refine ⟨n2.symm, ?_, ?_⟩ <;> omega
        · rw [if_neg n2] at he ⊢
          cases t1 with
          | nil => simp at he
          | cons b2 t2 =>
            simp only at he ⊢
            by_cases l2 : b2 < 128
            · simp [l2] at he
            · by_cases g2 : 191 < b2
              · simp [l2, g2] at he
              · rw [if_neg l2, if_neg g2] at he ⊢
                by_cases n3 : n = 3
                · rw [if_pos n3]; simp only [len1]; refine ⟨n3.symm, ?_, ?_⟩ <;> omega
                · rw [if_neg n3] at he ⊢
                  cases t2 with
                  | nil => simp at he
                  | cons b3 t3 =>
                    simp only at he ⊢
                    by_cases l3 : b3 < 128
                    · simp [l3] at he
                    · by_cases g3 : 191 < b3
                      · simp [l3, g3] at he
                      · rw [if_neg l3, if_neg g3]; simp only [len1]; refine ⟨by omega, ?_, ?_⟩ <;> omega
theorem dec_ok {y : List Int} (hy : Bytes y) (he : (dec y).2.2 = 0) : 1 ≤ (dec y).2.1 ∧ (dec y).2.1 ≤ y.length ∧ (dec y).2.1 ≤ 4 ∧ 0 ≤ (dec y).1 := by
  unfold dec at *
  cases y with
  | nil => simp at he
  | cons b t =>
    have hb := hy b (by simp)
    simp only at he ⊢
    rcases size_range b with e | e | e | e | e
    · simp [e] at he
    · simp only [e, if_true, len1]; omega
    · rw [e] at he ⊢
      rw [if_neg (by decide), if_neg (by decide), if_pos rfl] at he ⊢
      have := restOf_ok (by omega) (by simp) he
      simp only [len1]
      omega
    · rw [e] at he ⊢
      rw [if_neg (by decide), if_neg (by decide), if_neg (by decide), if_pos rfl] at he ⊢
      have := restOf_ok (by omega) (by simp) he
      simp only [len1]
      omega
    · rw [e] at he ⊢
      rw [if_neg (by decide), if_neg (by decide), if_neg (by decide), if_neg (by decide)] at he ⊢
      have := restOf_ok (by omega) (by simp) he
      simp only [len1]
      omega
def chkF : Nat → List Int → Int → Int × Int
  | 0, _, i => (i, 0)
  | n + 1, l, i => if i < l.length then (if (dec (l.drop i.toNat)).2.2 = 0 then chkF n l (i + (dec (l.drop i.toNat)).2.1) else (i, (dec (l.drop i.toNat)).2.2)) else (i, 0)
def chk (l : List Int) : Int × Int := chkF l.length l 0
theorem Decode_gE {l : List Int} {i : Int} (h : Bytes l) (hl : l.length ≤ 281474976710656) (h0 : 0 ≤ i) (h1 : i < l.length) {k : Nat} (hk : 8 ≤ k) : runes_Decode.f k l i = some (dec (l.drop i.toNat)) :=
  LeO_le (fun k => runes_Decode.mono l i k) hk (Decode_f l i h hl h0 h1)
theorem Check_l (l : List Int) (h : Bytes l) (hl : l.length ≤ 281474976710656) (n : Nat) : ∀ (k : Nat) (i : Int), 0 ≤ i → i ≤ l.length → (l.length : Int) - i ≤ n → n + 8 < k → runes_Check.l0 k l i = some (chkF n l i) := by
  induction n with
  | zero =>
    intro k i h0 h1 hn hk
    obtain ⟨k, rfl⟩ : ∃ m, k = m + 1 := ⟨k - 1, by omega⟩
    rw [runes_Check.l0, if_neg (by omega), chkF]
  | succ n ih =>
    intro k i h0 h1 hn hk
    obtain ⟨k, rfl⟩ : ∃ m, k = m + 1 := ⟨k - 1, by omega⟩
    rw [runes_Check.l0, chkF]
    by_cases hi : i < (l.length : Int)
    · rw [if_pos hi, if_pos hi, Decode_gE h hl h0 hi (by omega)]
      simp only [Option.bind_some]
      by_cases he : (dec (l.drop i.toNat)).2.2 = 0
      · rw [if_pos he, if_pos he]
        have hd := dec_ok (h.drop i.toNat) he
        have hlen : (l.drop i.toNat).length = l.length - i.toNat := List.length_drop
        rw [w64 _ (by omega) (by omega)]
        exact ih k _ (by omega) (by omega) (by omega) (by omega)
      · rw [if_neg he, if_neg he]
    · rw [if_neg hi, if_neg hi]
theorem Check_F (l : List Int) (h : Bytes l) (hl : l.length ≤ 281474976710656) {k : Nat} (hk : l.length + 8 < k) : runes_Check.f k l = some (chk l) := by
  unfold runes_Check.f chk
  exact Check_l l h hl l.length k 0 (Int.le_refl _) (by omega) (by omega) hk
theorem Decode_ge {l : List Int} {i : Int} (h : Bytes l) (hl : l.length ≤ 1048576) (h0 : 0 ≤ i) (h1 : i < l.length) {k : Nat} (hk : 8 ≤ k) : runes_Decode.f k l i = some (dec (l.drop i.toNat)) := Decode_gE h (by omega) h0 h1 hk
theorem Check_f (l : List Int) (h : Bytes l) (hl : l.length ≤ 1048576) {k : Nat} (hk : l.length + 8 < k) : runes_Check.f k l = some (chk l) := Check_F l h (by omega) hk
end Go.Proofs.Ytjebkpcekkkbkaa.B
namespace Go.Proofs.Ytjebkpcekkkbkaa.B
open Go.RowKit Go.Proofs.YtjebkpcekkkbkaaW.PrintWords Go.Proofs.YtjebkpcekkkbkaaW.PrintLast Go.Proofs.YtjebkpcekkkbkaaW.PrintMore
def IsRow (k : IntKind) (w : World) (a : Option Addr) (len cap : Nat) (zs : List Int) : Prop :=
  (a = none ∧ len = 0 ∧ cap = 0 ∧ zs = []) ∨
  ∃ x, a = some x ∧ len ≤ cap ∧ cap ≤ maxLen ∧ zs.length = cap ∧ (∀ i, i < zs.length → w.cell? (x.add i) = some (.int k (zs.getD i 0))) ∧ ∀ n ∈ zs, (Lit.int k n).wf = true
theorem IsRow.reads {k : IntKind} {w : World} {a : Option Addr} {len cap : Nat} {zs : List Int} (h : IsRow k w a len cap zs) : ∃ l, l.length = len ∧ l.length ≤ cap ∧ Kd.C (Kd.int k) w a l.length l ∧ ∀ x ∈ l, (Lit.int k x).wf = true := by
  rcases h with ⟨rfl, rfl, rfl, rfl⟩ | ⟨x, rfl, hl, hm, hz, hc, hw⟩
  · exact ⟨[], rfl, Nat.le_refl _, Kd.C_nil _ _, fun x hx => by cases hx⟩
  · have hlen : (zs.take len).length = len := by rw [List.length_take]; omega
    unfold maxLen at hm
    refine ⟨zs.take len, hlen, by omega, Kd.C_of_reads (d := 0) ⟨rfl, by omega, fun _ => ⟨x, rfl, fun j hj => ?_⟩⟩, fun y hy => hw y (List.mem_of_mem_take hy)⟩
    rw [hc j (by omega)]
    have hj2 : j < len := by omega
    congr 2
    simp only [List.getD, List.getElem?_take, if_pos hj2]
theorem byte_wf {x : Int} (h : (Lit.int .u8 x).wf = true) : 0 ≤ x ∧ x < 256 := by
  have : 0 ≤ x ∧ x ≤ 255 := by simpa [Lit.wf, IntKind.min, IntKind.max, IntKind.signed, IntKind.bits] using h
  omega
theorem int_wf {x : Int} (h : (Lit.int .i64 x).wf = true) : -9223372036854775808 ≤ x ∧ x ≤ 9223372036854775807 := by
  simpa [Lit.wf, IntKind.min, IntKind.max, IntKind.signed, IntKind.bits] using h
end Go.Proofs.Ytjebkpcekkkbkaa.B
namespace Go.Proofs.Ytjebkpcekkkbkaa.B
open Go.RowKit Go.Proofs.YtjebkpcekkkbkaaW.PrintWords Go.Proofs.YtjebkpcekkkbkaaW.PrintLast Go.Proofs.YtjebkpcekkkbkaaW.PrintMore Go.Proofs.Ytjebkpcekkkbkaa.FBase
theorem FindAt.mono {L : List Ln} {fr e pa pb : Int} {r s : Nat} (hc : Chain L fr e) (h : FindAt L pa r) (k : FindAt L pb s) (hp : pa ≤ pb) : r ≤ s ∧ (s : Int) - r ≤ pb - pa := by
  have h1 : r ≤ s := by
    refine Nat.le_of_not_lt (fun hlt => ?_)
    have h2 := h.2.1 s hlt
    have h3 := k.2.2 (by have := h.1; omega)
    omega
  refine ⟨h1, ?_⟩
  rcases Nat.eq_or_lt_of_le h1 with rfl | hlt
  · omega
  · have h2 := h.2.2 (by have := k.1; omega)
    have h3 := k.2.1 (s - 1) (by omega)
    have h4 := (hc.step r (s - 1 - r) (by have := k.1; omega)).1
    rw [show r + (s - 1 - r) = s - 1 by omega, if_neg (by have := k.1; omega)] at h4
    omega
theorem restOf_append {c n lo hi : Int} {t z : List Int} (he : (restOf c n lo hi t).2.2 = 0) : restOf c n lo hi (t ++ z) = restOf c n lo hi t := by
  unfold restOf at *
  cases t with
  | nil => simp at he
  | cons b1 t1 =>
    simp only [List.cons_append] at he ⊢
    by_cases l1 : b1 < lo
    · simp [l1]
    · by_cases g1 : hi < b1
      · simp [l1, g1]
      · rw [if_neg l1, if_neg g1] at he ⊢
        rw [if_neg l1, if_neg g1]
        by_cases n2 : n = 2
        · rw [if_pos n2, if_pos n2]
        · rw [if_neg n2] at he ⊢
          rw [if_neg n2]
          cases t1 with
          | nil => simp at he
          | cons b2 t2 =>
            simp only [List.cons_append] at he ⊢
            by_cases l2 : b2 < 128
            · simp [l2]
            · by_cases g2 : 191 < b2
              · simp [l2, g2]
              · rw [if_neg l2, if_neg g2] at he ⊢
                rw [if_neg l2, if_neg g2]
                by_cases n3 : n = 3
                · rw [if_pos n3, if_pos n3]
                · rw [if_neg n3] at he ⊢
                  rw [if_neg n3]
                  cases t2 with
                  | nil => simp at he
                  | cons b3 t3 => rfl
theorem dec_append {y z : List Int} (he : (dec y).2.2 = 0) : dec (y ++ z) = dec y := by
  unfold dec at *
  cases y with
  | nil => simp at he
  | cons b t =>
    simp only [List.cons_append] at he ⊢
    by_cases e1 : sizeOfFirst b = 1
    · simp [e1]
    · by_cases e0 : sizeOfFirst b = 0
      · simp [e0]
      · rw [if_neg e1, if_neg e0] at he ⊢
        rw [if_neg e1, if_neg e0]
        by_cases e2 : sizeOfFirst b = 2
        · rw [if_pos e2] at he ⊢
          rw [if_pos e2]
          exact restOf_append he
        · rw [if_neg e2] at he ⊢
          rw [if_neg e2]
          by_cases e3 : sizeOfFirst b = 3
          · rw [if_pos e3] at he ⊢
            rw [if_pos e3]
            exact restOf_append he
          · rw [if_neg e3] at he ⊢
            rw [if_neg e3]
            exact restOf_append he
inductive V : List Int → Prop
  | nil : V []
  | step (y : List Int) (he : (dec y).2.2 = 0) (h : V (y.drop (dec y).2.1.toNat)) : V y
theorem chkF_V {l : List Int} (hb : Bytes l) (n : Nat) : ∀ (i : Int), 0 ≤ i → i ≤ l.length → (l.length : Int) - i ≤ n → ((chkF n l i).2 = 0 ↔ V (l.drop i.toNat)) := by
  induction n with
  | zero =>
    intro i h0 h1 hn
    rw [show l.drop i.toNat = [] by rw [List.drop_eq_nil_iff]; omega]
    exact ⟨fun _ => .nil, fun _ => rfl⟩
  | succ n ih =>
    intro i h0 h1 hn
    rw [chkF]
    by_cases hi : i < (l.length : Int)
    · rw [if_pos hi]
      have hne : l.drop i.toNat ≠ [] := by rw [Ne, List.drop_eq_nil_iff]; omega
      by_cases he : (dec (l.drop i.toNat)).2.2 = 0
      · rw [if_pos he]
        have hd := dec_ok (hb.drop i.toNat) he
        have hlen : (l.drop i.toNat).length = l.length - i.toNat := List.length_drop
        rw [ih _ (by omega) (by omega) (by omega)]
        have e : (l.drop (i + (dec (l.drop i.toNat)).2.1).toNat) = (l.drop i.toNat).drop (dec (l.drop i.toNat)).2.1.toNat := by
          rw [List.drop_drop]
          congr 1
          omega
        rw [e]
        refine ⟨fun h => .step _ he h, fun h => ?_⟩
        generalize l.drop i.toNat = y at *
        cases h with
        | nil => exact absurd rfl hne
        | step _ _ h => exact h
      · rw [if_neg he]
        refine ⟨fun h => absurd h he, fun h => ?_⟩
        generalize l.drop i.toNat = y at *
        cases h with
        | nil => exact absurd rfl hne
        | step _ h _ => exact absurd h he
    · rw [if_neg hi, show l.drop i.toNat = [] by rw [List.drop_eq_nil_iff]; omega]
      exact ⟨fun _ => .nil, fun _ => rfl⟩
theorem chk_V {l : List Int} (hb : Bytes l) : (chk l).2 = 0 ↔ V l := by
  have := chkF_V hb l.length 0 (Int.le_refl _) (by omega) (by omega)
  rwa [Int.toNat_zero, List.drop_zero] at this
theorem V.append {a b : List Int} (h : V a) (ha : Bytes a) (hb : V b) : V (a ++ b) := by
  induction h with
  | nil => exact hb
  | step y he h ih =>
    refine .step _ (by rw [dec_append he]; exact he) ?_
    have hd := dec_ok ha he
    rw [dec_append he, List.drop_append_of_le_length (by omega)]
    exact ih (ha.drop _)
theorem Bytes.append {a b : List Int} (ha : Bytes a) (hb : Bytes b) : Bytes (a ++ b) := fun x hx => (List.mem_append.1 hx).elim (ha x) (hb x)
def isC (c : Int) : Prop := 0 ≤ c ∧ c ≤ 1114111 ∧ ¬ (55296 ≤ c ∧ c ≤ 57343)
instance (c : Int) : Decidable (isC c) := by unfold isC; infer_instance
def enc (c : Int) : List Int :=
  if c < 128 then [c] else if c < 2048 then [192 + c / 64, 128 + c % 64] else if c < 65536 then [224 + c / 4096, 128 + c / 64 % 64, 128 + c % 64]
  else [240 + c / 262144, 128 + c / 4096 % 64, 128 + c / 64 % 64, 128 + c % 64]
theorem Is_f (c : Int) : colophonref01_Is.f c = some (decide (isC c)) := by
  unfold colophonref01_Is.f isC
  by_cases h0 : c ≥ 0
  · rw [if_pos h0]
    by_cases h1 : c ≤ 1114111
    · rw [if_pos h1]
      by_cases h2 : c ≥ 55296
      · rw [if_pos h2]
        congr 1
        by_cases h3 : c ≤ 57343
        · simp [h3]; omega
        · simp [h3]; omega
      · rw [if_neg h2]
        congr 1
        simp; omega
    · rw [if_neg h1]
      congr 1
      simp; omega
  · rw [if_neg h0]
    congr 1
    simp; omega
theorem Encode_f (c : Int) (h0 : 0 ≤ c) (h1 : c < 1099511627776) : colophonref01_Encode.f c = if isC c then some (enc c, 0) else some ([], 10) := by
  unfold colophonref01_Encode.f
  rw [Is_f, Option.bind_some]
  by_cases h : isC c
  · rw [if_pos h, if_pos (decide_eq_true h)]
    have hh := h.2.1
    unfold enc
    have d1 : Int.tdiv c 64 = c / 64 := Int.tdiv_eq_ediv_of_nonneg h0
    have d2 : Int.tdiv c 4096 = c / 4096 := Int.tdiv_eq_ediv_of_nonneg h0
    have d3 : Int.tdiv c 262144 = c / 262144 := Int.tdiv_eq_ediv_of_nonneg h0
    have e0 : Int.tmod c 64 = c % 64 := Int.tmod_eq_emod_of_nonneg h0
    rw [d1, d2, d3, e0, w64 (c / 64) (by omega) (by omega), w64 (c / 4096) (by omega) (by omega), w64 (c / 262144) (by omega) (by omega)]
    have e1 : Int.tmod (c / 64) 64 = c / 64 % 64 := Int.tmod_eq_emod_of_nonneg (by omega)
    have e2 : Int.tmod (c / 4096) 64 = c / 4096 % 64 := Int.tmod_eq_emod_of_nonneg (by omega)
    rw [e1, e2, w64 (192 + c / 64) (by omega) (by omega), w64 (128 + c % 64) (by omega) (by omega), w64 (224 + c / 4096) (by omega) (by omega), w64 (128 + c / 64 % 64) (by omega) (by omega), w64 (240 + c / 262144) (by omega) (by omega), w64 (128 + c / 4096 % 64) (by omega) (by omega)]
    split
    · rw [show c % 256 = c by omega]
    · split
      · rw [show (192 + c / 64) % 256 = 192 + c / 64 by omega, show (128 + c % 64) % 256 = 128 + c % 64 by omega]
      · split
        · rw [show (224 + c / 4096) % 256 = 224 + c / 4096 by omega, show (128 + c / 64 % 64) % 256 = 128 + c / 64 % 64 by omega, show (128 + c % 64) % 256 = 128 + c % 64 by omega]
        · rw [show (240 + c / 262144) % 256 = 240 + c / 262144 by omega, show (128 + c / 4096 % 64) % 256 = 128 + c / 4096 % 64 by omega, show (128 + c / 64 % 64) % 256 = 128 + c / 64 % 64 by omega, show (128 + c % 64) % 256 = 128 + c % 64 by omega]
  · rw [if_neg h, if_neg (by simpa using h)]
theorem EqBytes_l (a b : List Int) (hl : a.length = b.length) (hs : a.length ≤ 1048576) (n : Nat) : ∀ (k : Nat) (i : Int), 0 ≤ i → i ≤ a.length → (a.length : Int) - i ≤ n → n < k → colophonref00_EqBytes.l0 k a b i = some (decide (a.drop i.toNat = b.drop i.toNat)) := by
  induction n with
  | zero =>
    intro k i h0 h1 hn hk
    obtain ⟨k, rfl⟩ : ∃ m, k = m + 1 := ⟨k - 1, by omega⟩
    rw [colophonref00_EqBytes.l0, if_neg (by omega), show a.drop i.toNat = [] by rw [List.drop_eq_nil_iff]; omega, show b.drop i.toNat = [] by rw [List.drop_eq_nil_iff]; omega]
    rfl
  | succ n ih =>
    intro k i h0 h1 hn hk
    obtain ⟨k, rfl⟩ : ∃ m, k = m + 1 := ⟨k - 1, by omega⟩
    rw [colophonref00_EqBytes.l0]
    by_cases hi : i < (a.length : Int)
    · have ha : i.toNat < a.length := by omega
      have hb : i.toNat < b.length := by omega
      rw [if_pos hi, if_pos h0, if_pos (by omega)]
      rw [List.drop_eq_getElem_cons ha, List.drop_eq_getElem_cons hb]
      have e1 : rd a i = a[i.toNat] := by simp [rd, List.getD, ha]
      have e2 : rd b i = b[i.toNat] := by simp [rd, List.getD, hb]
      rw [e1, e2]
      by_cases he : a[i.toNat] = b[i.toNat]
      · rw [if_pos he, w64 _ (by omega) (by omega), ih k (i + 1) (by omega) (by omega) (by omega) (by omega), show (i + 1).toNat = i.toNat + 1 by omega]
        exact congrArg some (decide_eq_decide.2 ⟨fun h => by rw [he, h], fun h => (List.cons.inj h).2⟩)
      · rw [if_neg he]
        exact congrArg some (decide_eq_false (fun h => he (List.cons.inj h).1)).symm
    · rw [if_neg hi, show a.drop i.toNat = [] by rw [List.drop_eq_nil_iff]; omega, show b.drop i.toNat = [] by rw [List.drop_eq_nil_iff]; omega]
      rfl
theorem EqBytes_f (a b : List Int) (hs : a.length ≤ 1048576) {k : Nat} (hk : a.length < k) : colophonref00_EqBytes.f k a b = some (decide (a = b)) := by
  unfold colophonref00_EqBytes.f
  by_cases hl : a.length = b.length
  · rw [if_pos (by omega), EqBytes_l a b hl hs a.length k 0 (Int.le_refl _) (by omega) (by omega) hk]
    simp
  · rw [if_neg (by omega)]
    congr 1
    rw [eq_comm, decide_eq_false_iff_not]
    rintro rfl
    exact hl rfl
def jn : Nat → List Int → Int
  | 1, b :: _ => b
  | 2, b :: b1 :: _ => (b % 32) * 64 + b1 % 64
  | 3, b :: b1 :: b2 :: _ => ((b % 16) * 64 + b1 % 64) * 64 + b2 % 64
  | 4, b :: b1 :: b2 :: b3 :: _ => (((b % 8) * 64 + b1 % 64) * 64 + b2 % 64) * 64 + b3 % 64
  | _, _ => 0
theorem tm (x m : Int) (h : 0 ≤ x) : Int.tmod x m = x % m := Int.tmod_eq_emod_of_nonneg h
theorem joined_1 (b : Int) (t : List Int) (h : Bytes (b :: t)) {k : Nat} (hk : 5 ≤ k) : colophonref01_joined.f k (b :: t) 1 = some b := by
  have hb := h b (by simp)
  refine LeO_le (fun k => colophonref01_joined.mono (b :: t) 1 k) hk ?_
  simp only [colophonref01_joined.f, colophonref01_joined.j0, colophonref01_joined.j1, colophonref01_joined.j2, colophonref01_joined.l0, rd0, w64 b (by omega) (by omega)]
  rw [if_pos (by simp), if_neg (by decide), if_neg (by decide), if_neg (by decide), if_neg (by decide)]
theorem joined_2 (b b1 : Int) (t : List Int) (h : Bytes (b :: b1 :: t)) {k : Nat} (hk : 6 ≤ k) : colophonref01_joined.f k (b :: b1 :: t) 2 = some ((b % 32) * 64 + b1 % 64) := by
  have hb := h b (by simp)
  have hb1 := h b1 (by simp)
  refine LeO_le (fun k => colophonref01_joined.mono (b :: b1 :: t) 2 k) hk ?_
  simp only [colophonref01_joined.f, colophonref01_joined.j0, colophonref01_joined.j1, colophonref01_joined.j2, colophonref01_joined.l0, rd0, rd1, ww1, w64 b (by omega) (by omega), w64 b1 (by omega) (by omega), len1]
  rw [if_pos (by omega), if_pos trivial, if_neg (by decide), if_neg (by decide), if_pos (by decide), if_pos (by decide), if_pos (by omega), if_neg (by decide), tm b 32 (by omega), tm b1 64 (by omega), w64 (b % 32 * 64) (by omega) (by omega), w64 _ (by omega) (by omega)]
theorem joined_3 (b b1 b2 : Int) (t : List Int) (h : Bytes (b :: b1 :: b2 :: t)) {k : Nat} (hk : 7 ≤ k) : colophonref01_joined.f k (b :: b1 :: b2 :: t) 3 = some (((b % 16) * 64 + b1 % 64) * 64 + b2 % 64) := by
  have hb := h b (by simp)
  have hb1 := h b1 (by simp)
  have hb2 := h b2 (by simp)
  refine LeO_le (fun k => colophonref01_joined.mono (b :: b1 :: b2 :: t) 3 k) hk ?_
  simp only [colophonref01_joined.f, colophonref01_joined.j0, colophonref01_joined.j1, colophonref01_joined.j2, colophonref01_joined.l0, rd0, rd1, rd2, ww1, ww2, w64 b (by omega) (by omega), w64 b1 (by omega) (by omega), w64 b2 (by omega) (by omega), len1]
  rw [if_pos (by omega), if_neg (by decide), if_pos trivial, if_neg (by decide), if_pos (by decide), if_pos (by decide), if_pos (by omega), if_pos (by decide), if_pos (by decide), if_pos (by omega), if_neg (by decide), tm b 16 (by omega), tm b1 64 (by omega), tm b2 64 (by omega), w64 (b % 16 * 64) (by omega) (by omega), w64 (b % 16 * 64 + b1 % 64) (by omega) (by omega), w64 ((b % 16 * 64 + b1 % 64) * 64) (by omega) (by omega), w64 _ (by omega) (by omega)]
theorem joined_4 (b b1 b2 b3 : Int) (t : List Int) (h : Bytes (b :: b1 :: b2 :: b3 :: t)) {k : Nat} (hk : 8 ≤ k) : colophonref01_joined.f k (b :: b1 :: b2 :: b3 :: t) 4 = some ((((b % 8) * 64 + b1 % 64) * 64 + b2 % 64) * 64 + b3 % 64) := by
  have hb := h b (by simp)
  have hb1 := h b1 (by simp)
  have hb2 := h b2 (by simp)
  have hb3 := h b3 (by simp)
  refine LeO_le (fun k => colophonref01_joined.mono (b :: b1 :: b2 :: b3 :: t) 4 k) hk ?_
  simp only [colophonref01_joined.f, colophonref01_joined.j0, colophonref01_joined.j1, colophonref01_joined.j2, colophonref01_joined.l0, rd0, rd1, rd2, rd3, ww1, ww2, ww3, w64 b (by omega) (by omega), w64 b1 (by omega) (by omega), w64 b2 (by omega) (by omega), w64 b3 (by omega) (by omega), len1]
  rw [if_pos (by omega), if_neg (by decide), if_neg (by decide), if_pos trivial, if_pos (by decide), if_pos (by decide), if_pos (by omega), if_pos (by decide), if_pos (by decide), if_pos (by omega), if_pos (by decide), if_pos (by decide), if_pos (by omega), if_neg (by decide), tm b 8 (by omega), tm b1 64 (by omega), tm b2 64 (by omega), tm b3 64 (by omega), w64 (b % 8 * 64) (by omega) (by omega), w64 (b % 8 * 64 + b1 % 64) (by omega) (by omega), w64 ((b % 8 * 64 + b1 % 64) * 64) (by omega) (by omega), w64 ((b % 8 * 64 + b1 % 64) * 64 + b2 % 64) (by omega) (by omega), w64 (((b % 8 * 64 + b1 % 64) * 64 + b2 % 64) * 64) (by omega) (by omega), w64 _ (by omega) (by omega)]
theorem joined_f (y : List Int) (h : Bytes y) (n : Nat) (h1 : 1 ≤ n) (h4 : n ≤ 4) (hl : n ≤ y.length) {k : Nat} (hk : 8 ≤ k) : colophonref01_joined.f k y n = some (jn n y) := by
  match y, n, h1, h4, hl with
  | b :: t, 1, _, _, _ => exact joined_1 b t h (by omega)
  | b :: b1 :: t, 2, _, _, _ => exact joined_2 b b1 t h (by omega)
  | b :: b1 :: b2 :: t, 3, _, _, _ => exact joined_3 b b1 b2 t h (by omega)
  | b :: b1 :: b2 :: b3 :: t, 4, _, _, _ => exact joined_4 b b1 b2 b3 t h (by omega)
  | _, n + 5, _, h4, _ => exact absurd h4 (by omega)
  | [], _ + 1, _, _, hl => exact absurd hl (by simp)
  | [_], _ + 2, _, _, hl => exact absurd hl (by simp)
  | [_, _], _ + 3, _, _, hl => exact absurd hl (by simp)
  | [_, _, _], _ + 4, _, _, hl => exact absurd hl (by simp)
theorem jn_nn (y : List Int) (h : Bytes y) (n : Nat) : 0 ≤ jn n y ∧ jn n y < 2097152 := by
  unfold jn
  split
  · have := h _ List.mem_cons_self; omega
  · omega
  · omega
  · omega
  · omega
theorem enc_len (c : Int) : 1 ≤ (enc c).length ∧ (enc c).length ≤ 4 := by
  unfold enc
  split
  · simp
  · split
    · simp
    · split <;> simp
theorem enc_1 {c : Int} (h : c < 128) : enc c = [c] := by unfold enc; rw [if_pos h]
theorem enc_2 {c : Int} (h : 128 ≤ c) (h1 : c < 2048) : enc c = [192 + c / 64, 128 + c % 64] := by unfold enc; rw [if_neg (by omega), if_pos h1]
theorem enc_3 {c : Int} (h : 2048 ≤ c) (h1 : c < 65536) : enc c = [224 + c / 4096, 128 + c / 64 % 64, 128 + c % 64] := by unfold enc; rw [if_neg (by omega), if_neg (by omega), if_pos h1]
theorem enc_4 {c : Int} (h : 65536 ≤ c) : enc c = [240 + c / 262144, 128 + c / 4096 % 64, 128 + c / 64 % 64, 128 + c % 64] := by unfold enc; rw [if_neg (by omega), if_neg (by omega), if_neg (by omega)]
theorem enc_len2 {c : Int} (h : (enc c).length = 2) : 128 ≤ c ∧ c < 2048 := by
  unfold enc at h
  split at h
  · simp at h
  · split at h
    · omega
    · split at h <;> simp at h
theorem enc_len3 {c : Int} (h : (enc c).length = 3) : 2048 ≤ c ∧ c < 65536 := by
  unfold enc at h
  split at h
  · simp at h
  · split at h
    · simp at h
    · split at h
      · omega
      · simp at h
theorem enc_len4 {c : Int} (h : (enc c).length = 4) : 65536 ≤ c := by
  unfold enc at h
  split at h
  · simp at h
  · split at h
    · simp at h
    · split at h
      · simp at h
      · omega
def T (y : List Int) (n : Nat) (lo hi c : Int) : Prop := isC c ∧ lo ≤ c ∧ c ≤ hi ∧ (enc c).length = n ∧ (enc c).take y.length = y
instance (y : List Int) (n : Nat) (lo hi c : Int) : Decidable (T y n lo hi c) := by unfold T; infer_instance
theorem l2_step (k : Nat) (hk : 5 ≤ k) (y : List Int) (n : Nat) (hy : y.length < n) (hn : n ≤ 4) (lo hi x8 c : Int) (h0 : 0 ≤ x8) (h4 : x8 < 4) (hc : rd [mx lo (rd [0, 0, 128, 2048, 65536] (n : Int)), 57344, hi, lo] x8 = c) (c0 : 0 ≤ c) (c1 : c < 1099511627776) :
    colophonref01_begins.l2 (k + 1) y n lo hi x8 = if T y n lo hi c then some true else colophonref01_begins.l2 k y n lo hi (x8 + 1) := by
  rw [colophonref01_begins.l2, if_pos h4]
  simp only [Option.bind_some]
  rw [if_pos (by omega), if_pos (by simp; omega), if_pos h0, if_pos (by simp; omega), hc, Encode_f c c0 c1, w64 (x8 + 1) (by omega) (by omega)]
  by_cases hC : isC c
  · rw [if_pos hC]
    simp only [Option.bind_some]
    rw [if_pos trivial]
    by_cases h1 : lo ≤ c
    · rw [if_pos h1]
      by_cases h2 : c ≤ hi
      · rw [if_pos h2]
        by_cases h3 : (enc c).length = n
        · have hl := enc_len c
          rw [if_pos (by omega), if_pos (by omega), if_pos (by omega), Int.toNat_natCast, EqBytes_f _ _ (by rw [List.length_take]; omega) (by rw [List.length_take]; omega), Option.bind_some]
          by_cases h5 : (enc c).take y.length = y
          · rw [if_pos (decide_eq_true h5), if_pos (show T y n lo hi c from ⟨hC, h1, h2, h3, h5⟩)]
          · rw [if_neg (by simpa using h5), if_neg (fun h : T y n lo hi c => h5 h.2.2.2.2)]
        · rw [if_neg (by omega), if_neg (fun h : T y n lo hi c => h3 h.2.2.2.1)]
      · rw [if_neg h2, if_neg (fun h : T y n lo hi c => h2 h.2.2.1)]
    · rw [if_neg h1, if_neg (fun h : T y n lo hi c => h1 h.2.1)]
  · rw [if_neg hC]
    simp only [Option.bind_some]
    rw [if_neg (fun h : T y n lo hi c => hC h.1)]
    rfl
theorem l2_all (k : Nat) (hk : 5 ≤ k) (y : List Int) (n : Nat) (hy : y.length < n) (hn : n ≤ 4) (lo hi : Int) (E : Prop) [Decidable E] (h1 : ∀ c, T y n lo hi c → E) (h2 : E → T y n lo hi (mx lo (rd [0, 0, 128, 2048, 65536] (n : Int))))
    (l0 : 0 ≤ lo) (l1 : lo ≤ hi) (l2 : hi < 2097152) (m0 : 0 ≤ mx lo (rd [0, 0, 128, 2048, 65536] (n : Int))) (m1 : mx lo (rd [0, 0, 128, 2048, 65536] (n : Int)) < 2097152) :
    colophonref01_begins.l2 (k + 5) y n lo hi 0 = if E then some true else colophonref01_begins.l0 k y (n + 1) := by
  rw [l2_step (k + 4) (by omega) y n hy hn lo hi 0 (mx lo (rd [0, 0, 128, 2048, 65536] (n : Int))) (by decide) (by decide) rfl m0 (by omega)]
  by_cases hE : E
  · rw [if_pos (h2 hE), if_pos hE]
  · rw [if_neg (fun h => hE (h1 _ h)), if_neg hE, show (0 : Int) + 1 = 1 from rfl, l2_step (k + 3) (by omega) y n hy hn lo hi 1 57344 (by decide) (by decide) rfl (by decide) (by decide), if_neg (fun h => hE (h1 _ h)),
      show (1 : Int) + 1 = 2 from rfl, l2_step (k + 2) (by omega) y n hy hn lo hi 2 hi (by decide) (by decide) rfl (by omega) (by omega), if_neg (fun h => hE (h1 _ h)),
      show (2 : Int) + 1 = 3 from rfl, l2_step (k + 1) (by omega) y n hy hn lo hi 3 lo (by decide) (by decide) rfl (by omega) (by omega), if_neg (fun h => hE (h1 _ h)),
      show (3 : Int) + 1 = 4 from rfl, colophonref01_begins.l2, if_neg (by decide), w64 _ (by omega) (by omega)]
theorem l1_end (k : Nat) (hk : 8 ≤ k) (y lo hi : List Int) (n : Nat) (h1 : 1 ≤ n) (hn : n ≤ 4) (hlo : lo.length = n) (hhi : hi.length = n) (blo : Bytes lo) (bhi : Bytes hi) :
    colophonref01_begins.l1 (k + 1) y n lo hi = colophonref01_begins.l2 k y n (jn n lo) (jn n hi) 0 := by
  rw [colophonref01_begins.l1, if_neg (by omega), joined_f lo blo n h1 hn (by omega) hk, joined_f hi bhi n h1 hn (by omega) hk]
  rfl
theorem l1_step (k : Nat) (y lo hi : List Int) (n : Nat) (hn : n ≤ 4) (hlo : lo.length < n) (hhi : hi.length < n) :
    colophonref01_begins.l1 (k + 1) y n lo hi = colophonref01_begins.l1 k y n (lo ++ [128]) (hi ++ [191]) := by
  rw [colophonref01_begins.l1, if_pos (by omega), if_pos (by omega), if_pos (by omega)]
theorem l0_step (k : Nat) (y : List Int) (n : Nat) (hn : n ≤ 4) (hy : y.length ≤ 4) : colophonref01_begins.l0 (k + 1) y n = colophonref01_begins.l1 k y n y y := by
  rw [colophonref01_begins.l0, if_pos (by omega)]
  simp only [Option.bind_some, List.nil_append, List.length_nil]
  rw [if_pos (by omega), if_pos (by omega)]
theorem l0_end (k : Nat) (y : List Int) : colophonref01_begins.l0 (k + 1) y 5 = some false := by
  rw [colophonref01_begins.l0, if_neg (by decide)]
theorem Bytes.add {y : List Int} (h : Bytes y) (c : Int) (h0 : 0 ≤ c) (h1 : c < 256) : Bytes (y ++ [c]) := fun x hx => by
  rcases List.mem_append.1 hx with hx | hx
  · exact h x hx
  · rw [List.mem_singleton] at hx; subst hx; exact ⟨h0, h1⟩
theorem round1 (k : Nat) (hk : 5 ≤ k) (y : List Int) (hy : Bytes y) (n : Nat) (hn : n ≤ 4) (hl : y.length + 1 = n) (E : Prop) [Decidable E] (h1 : ∀ c, T y n (jn n (y ++ [128])) (jn n (y ++ [191])) c → E)
    (h2 : E → T y n (jn n (y ++ [128])) (jn n (y ++ [191])) (mx (jn n (y ++ [128])) (rd [0, 0, 128, 2048, 65536] (n : Int)))) (hle : jn n (y ++ [128]) ≤ jn n (y ++ [191])) (m0 : 0 ≤ mx (jn n (y ++ [128])) (rd [0, 0, 128, 2048, 65536] (n : Int))) (m1 : mx (jn n (y ++ [128])) (rd [0, 0, 128, 2048, 65536] (n : Int)) < 2097152) :
    colophonref01_begins.l0 (k + 8) y n = if E then some true else colophonref01_begins.l0 k y (n + 1) := by
  have b1 := hy.add 128 (by decide) (by decide)
  have b2 := hy.add 191 (by decide) (by decide)
  rw [l0_step (k + 7) y n hn (by omega), l1_step (k + 6) y y y n hn (by omega) (by omega), l1_end (k + 5) (by omega) y _ _ n (by omega) hn (by simp; omega) (by simp; omega) b1 b2]
  exact l2_all k hk y n (by omega) hn _ _ E h1 h2 (jn_nn _ b1 n).1 hle (jn_nn _ b2 n).2 m0 m1
theorem round2 (k : Nat) (hk : 5 ≤ k) (y : List Int) (hy : Bytes y) (n : Nat) (hn : n ≤ 4) (hl : y.length + 2 = n) (E : Prop) [Decidable E] (h1 : ∀ c, T y n (jn n (y ++ [128] ++ [128])) (jn n (y ++ [191] ++ [191])) c → E)
    (h2 : E → T y n (jn n (y ++ [128] ++ [128])) (jn n (y ++ [191] ++ [191])) (mx (jn n (y ++ [128] ++ [128])) (rd [0, 0, 128, 2048, 65536] (n : Int)))) (hle : jn n (y ++ [128] ++ [128]) ≤ jn n (y ++ [191] ++ [191])) (m0 : 0 ≤ mx (jn n (y ++ [128] ++ [128])) (rd [0, 0, 128, 2048, 65536] (n : Int))) (m1 : mx (jn n (y ++ [128] ++ [128])) (rd [0, 0, 128, 2048, 65536] (n : Int)) < 2097152) :
    colophonref01_begins.l0 (k + 9) y n = if E then some true else colophonref01_begins.l0 k y (n + 1) := by
  have b1 := (hy.add 128 (by decide) (by decide)).add 128 (by decide) (by decide)
  have b2 := (hy.add 191 (by decide) (by decide)).add 191 (by decide) (by decide)
  rw [l0_step (k + 8) y n hn (by omega), l1_step (k + 7) y y y n hn (by omega) (by omega), l1_step (k + 6) y _ _ n hn (by simp; omega) (by simp; omega), l1_end (k + 5) (by omega) y _ _ n (by omega) hn (by simp; omega) (by simp; omega) b1 b2]
  exact l2_all k hk y n (by omega) hn _ _ E h1 h2 (jn_nn _ b1 n).1 hle (jn_nn _ b2 n).2 m0 m1
theorem mx_ge (a b : Int) (h : b ≤ a) : mx a b = a := by unfold mx; split <;> omega
theorem tab3 : rd [0, 0, 128, 2048, 65536] ((3 : Nat) : Int) = 2048 := rfl
theorem tab4 : rd [0, 0, 128, 2048, 65536] ((4 : Nat) : Int) = 65536 := rfl
theorem mx_range (a b : Int) (h0 : 0 ≤ a) (h1 : a < 2097152) (h2 : 0 ≤ b) (h3 : b < 2097152) : 0 ≤ mx a b ∧ mx a b < 2097152 := by unfold mx; split <;> omega
def Low (b b1 : Int) : Prop := lowOf b ≤ b1 ∧ b1 ≤ highOf b
instance (b b1 : Int) : Decidable (Low b b1) := by unfold Low; infer_instance
def E34 (b b1 b2 : Int) : Prop := 240 ≤ b ∧ b ≤ 244 ∧ Low b b1 ∧ 128 ≤ b2 ∧ b2 ≤ 191
instance (b b1 b2 : Int) : Decidable (E34 b b1 b2) := by unfold E34; infer_instance
def E23 (b b1 : Int) : Prop := 224 ≤ b ∧ b < 240 ∧ Low b b1
instance (b b1 : Int) : Decidable (E23 b b1) := by unfold E23; infer_instance
def E24 (b b1 : Int) : Prop := 240 ≤ b ∧ b ≤ 244 ∧ Low b b1
instance (b b1 : Int) : Decidable (E24 b b1) := by unfold E24; infer_instance
theorem begins_34 (k : Nat) (hk : 5 ≤ k) (b b1 b2 : Int) (h : Bytes [b, b1, b2]) : colophonref01_begins.l0 (k + 8) [b, b1, b2] 4 = if E34 b b1 b2 then some true else colophonref01_begins.l0 k [b, b1, b2] 5 := by
  have hb := h b (by simp)
  have hb1 := h b1 (by simp)
  have hb2 := h b2 (by simp)
  have m := mx_range (jn 4 ([b, b1, b2] ++ [128])) 65536 (jn_nn _ (h.add 128 (by decide) (by decide)) 4).1 (jn_nn _ (h.add 128 (by decide) (by decide)) 4).2 (by decide) (by decide)
  refine round1 k hk [b, b1, b2] h 4 (by decide) rfl (E34 b b1 b2) (fun c hT => ?_) (fun hE => ?_) (by simp [jn]; omega) m.1 m.2
  · obtain ⟨⟨c0, c1, c2⟩, hlo, hhi, hl, ht⟩ := hT
    rw [enc_4 (enc_len4 hl)] at ht
    simp [jn] at hlo hhi ht
    have := enc_len4 hl
    unfold E34 Low lowOf highOf
    refine ⟨by omega, by omega, ⟨?_, ?_⟩, by omega, by omega⟩
    · split
      · omega
      · split <;> omega
    · split
      · omega
      · split <;> omega
  · obtain ⟨e1, e2, ⟨e3, e4⟩, e5, e6⟩ := hE
    unfold lowOf at e3
    unfold highOf at e4
    have hge : 65536 ≤ jn 4 ([b, b1, b2] ++ [128]) := by
      simp [jn]
      rw [if_neg (by omega)] at e3
      split at e3 <;> omega
    rw [tab4, mx_ge _ _ hge]
    have hle : jn 4 ([b, b1, b2] ++ [128]) ≤ 1114111 := by
      simp [jn]
      rw [if_neg (by omega)] at e4
      split at e4 <;> omega
    have hle2 : jn 4 ([b, b1, b2] ++ [128]) ≤ jn 4 ([b, b1, b2] ++ [191]) := by simp [jn]; omega
    refine ⟨⟨by omega, hle, by omega⟩, Int.le_refl _, hle2, by rw [enc_4 hge]; rfl, ?_⟩
    rw [enc_4 hge]
    have b1r : 128 ≤ b1 ∧ b1 < 192 := by
      rw [if_neg (by omega)] at e3
      rw [if_neg (by omega)] at e4
      constructor
      · split at e3 <;> omega
      · split at e4 <;> omega
    simp [jn]
    refine ⟨by omega, by omega, by omega⟩
theorem begins_23 (k : Nat) (hk : 5 ≤ k) (b b1 : Int) (h : Bytes [b, b1]) : colophonref01_begins.l0 (k + 8) [b, b1] 3 = if E23 b b1 then some true else colophonref01_begins.l0 k [b, b1] 4 := by
  have hb := h b (by simp)
  have hb1 := h b1 (by simp)
  have m := mx_range (jn 3 ([b, b1] ++ [128])) 2048 (jn_nn _ (h.add 128 (by decide) (by decide)) 3).1 (jn_nn _ (h.add 128 (by decide) (by decide)) 3).2 (by decide) (by decide)
  refine round1 k hk [b, b1] h 3 (by decide) rfl (E23 b b1) (fun c hT => ?_) (fun hE => ?_) (by simp [jn]; omega) m.1 m.2
  · obtain ⟨⟨c0, c1, c2⟩, hlo, hhi, hl, ht⟩ := hT
    have h3 := enc_len3 hl
    rw [enc_3 h3.1 h3.2] at ht
    simp [jn] at hlo hhi ht
    unfold E23 Low lowOf highOf
    refine ⟨by omega, by omega, ?_, ?_⟩
    · split
      · omega
      · split <;> omega
    · split
      · omega
      · split <;> omega
  · obtain ⟨e1, e2, e3, e4⟩ := hE
    unfold lowOf at e3
    unfold highOf at e4
    have hge : 2048 ≤ jn 3 ([b, b1] ++ [128]) := by
      simp [jn]
      split at e3
      · omega
      · rw [if_neg (by omega)] at e3; omega
    have b1r : 128 ≤ b1 ∧ b1 < 192 := by
      constructor
      · split at e3
        · omega
        · split at e3 <;> omega
      · split at e4
        · omega
        · split at e4 <;> omega
    rw [tab3, mx_ge _ _ hge]
    have hle : jn 3 ([b, b1] ++ [128]) < 65536 := by simp [jn]; omega
    have hsur : ¬ (55296 ≤ jn 3 ([b, b1] ++ [128]) ∧ jn 3 ([b, b1] ++ [128]) ≤ 57343) := by
      simp [jn]
      split at e4 <;> omega
    have hle2 : jn 3 ([b, b1] ++ [128]) ≤ jn 3 ([b, b1] ++ [191]) := by simp [jn]; omega
    refine ⟨⟨by omega, by omega, hsur⟩, Int.le_refl _, hle2, by rw [enc_3 hge hle]; rfl, ?_⟩
    rw [enc_3 hge hle]
    simp [jn]
    refine ⟨by omega, by omega⟩
theorem begins_24 (k : Nat) (hk : 5 ≤ k) (b b1 : Int) (h : Bytes [b, b1]) : colophonref01_begins.l0 (k + 9) [b, b1] 4 = if E24 b b1 then some true else colophonref01_begins.l0 k [b, b1] 5 := by
  have hb := h b (by simp)
  have hb1 := h b1 (by simp)
  have bb := (h.add 128 (by decide) (by decide)).add 128 (by decide) (by decide)
  have m := mx_range (jn 4 ([b, b1] ++ [128] ++ [128])) 65536 (jn_nn _ bb 4).1 (jn_nn _ bb 4).2 (by decide) (by decide)
  refine round2 k hk [b, b1] h 4 (by decide) rfl (E24 b b1) (fun c hT => ?_) (fun hE => ?_) (by simp [jn]; omega) m.1 m.2
  · obtain ⟨⟨c0, c1, c2⟩, hlo, hhi, hl, ht⟩ := hT
    have h3 := enc_len4 hl
    rw [enc_4 h3] at ht
    simp [jn] at hlo hhi ht
    unfold E24 Low lowOf highOf
    refine ⟨by omega, by omega, ?_, ?_⟩
    · split
      · omega
      · split <;> omega
    · split
      · omega
      · split <;> omega
  · obtain ⟨e1, e2, e3, e4⟩ := hE
    unfold lowOf at e3
    unfold highOf at e4
    rw [if_neg (by omega)] at e3 e4
    have b1r : 128 ≤ b1 ∧ b1 < 192 := by
      constructor
      · split at e3 <;> omega
      · split at e4 <;> omega
    have hge : 65536 ≤ jn 4 ([b, b1] ++ [128] ++ [128]) := by
      simp [jn]
      split at e3 <;> omega
    rw [tab4, mx_ge _ _ hge]
    have hle : jn 4 ([b, b1] ++ [128] ++ [128]) ≤ 1114111 := by
      simp [jn]
      split at e4 <;> omega
    have hle2 : jn 4 ([b, b1] ++ [128] ++ [128]) ≤ jn 4 ([b, b1] ++ [191] ++ [191]) := by simp [jn]; omega
    refine ⟨⟨by omega, hle, by omega⟩, Int.le_refl _, hle2, by rw [enc_4 hge]; rfl, ?_⟩
    rw [enc_4 hge]
    simp [jn]
    refine ⟨by omega, by omega⟩
theorem begins_one : ∀ b : Fin 256, colophonref01_begins.f 40 [((b.val : Nat) : Int)] = some (decide (194 ≤ b.val ∧ b.val ≤ 244)) := by decide +kernel
theorem begins_1 (b : Int) (h0 : 0 ≤ b) (h1 : b < 256) : colophonref01_begins.f 40 [b] = some (decide (194 ≤ b ∧ b ≤ 244)) := by
  have := begins_one ⟨b.toNat, by omega⟩
  simp only [Int.toNat_of_nonneg h0] at this
  rw [this]
  congr 1
  exact decide_eq_decide.2 (by omega)
theorem begins_2 (b b1 : Int) (h : Bytes [b, b1]) : colophonref01_begins.f 40 [b, b1] = some (decide (224 ≤ b ∧ b ≤ 244 ∧ Low b b1)) := by
  unfold colophonref01_begins.f
  rw [show wrap64 (([b, b1].length : Nat) + 1 : Int) = 3 from w64 3 (by decide) (by decide), begins_23 32 (by decide) b b1 h]
  by_cases h1 : E23 b b1
  · rw [if_pos h1]
    exact congrArg some (decide_eq_true ⟨h1.1, by have := h1.2.1; omega, h1.2.2⟩).symm
  · rw [if_neg h1, begins_24 23 (by decide) b b1 h]
    by_cases h2 : E24 b b1
    · rw [if_pos h2]
      exact congrArg some (decide_eq_true ⟨by have := h2.1; omega, h2.2.1, h2.2.2⟩).symm
    · rw [if_neg h2, l0_end]
      refine congrArg some (decide_eq_false (fun h3 => ?_)).symm
      rcases Int.lt_or_le b 240 with h4 | h4
      · exact h1 ⟨h3.1, h4, h3.2.2⟩
      · exact h2 ⟨h4, h3.2.1, h3.2.2⟩
theorem begins_3 (b b1 b2 : Int) (h : Bytes [b, b1, b2]) : colophonref01_begins.f 40 [b, b1, b2] = some (decide (E34 b b1 b2)) := by
  unfold colophonref01_begins.f
  rw [show wrap64 (([b, b1, b2].length : Nat) + 1 : Int) = 4 from w64 4 (by decide) (by decide), begins_34 32 (by decide) b b1 b2 h]
  by_cases h1 : E34 b b1 b2
  · rw [if_pos h1]
    exact congrArg some (decide_eq_true h1).symm
  · rw [if_neg h1, l0_end]
    exact congrArg some (decide_eq_false h1).symm
theorem D_step (k : Nat) (hk : 8 ≤ k) (y : List Int) (h : Bytes y) (n : Nat) (h1 : 1 ≤ n) (h4 : n ≤ 4) (hl : n ≤ y.length) :
    colophonref01_Decode.l0 (k + 2) y n = if isC (jn n y) ∧ enc (jn n y) = y.take n then some (jn n y, (n : Int), 0) else colophonref01_Decode.l0 k y (n + 1) := by
  have hj := jn_nn y h n
  have he := enc_len (jn n y)
  rw [colophonref01_Decode.l0, if_pos (by omega), colophonref01_Decode.j2, if_pos (decide_eq_true (by omega)), joined_f y h n h1 h4 hl hk, Option.bind_some, Encode_f _ hj.1 (by omega), w64 _ (by omega) (by omega)]
  by_cases hC : isC (jn n y)
  · rw [if_pos hC]
    simp only [Option.bind_some]
    rw [if_pos trivial, if_pos (by omega), if_pos (by omega), Int.toNat_natCast, EqBytes_f _ _ (by omega) (by omega), Option.bind_some]
    by_cases hE : enc (jn n y) = y.take n
    · rw [if_pos (decide_eq_true hE), if_pos ⟨hC, hE⟩]
    · rw [if_neg (by simpa using hE), if_neg (fun h => hE h.2)]
  · rw [if_neg hC, if_neg (fun h => hC h.1)]
    rfl
theorem D_end (k : Nat) (y : List Int) (n : Nat) (h : 4 < n ∨ y.length < n) :
    colophonref01_Decode.l0 (k + 2) y n = if y.length < 4 then ((colophonref01_begins.f k y).bind fun t => if t = true then some (0, 0, 3) else some (0, 0, 10)) else some (0, 0, 10) := by
  rw [colophonref01_Decode.l0]
  have e : (if (n : Int) ≤ 4 then colophonref01_Decode.j2 (k + 1) y n (decide ((n : Int) ≤ (y.length : Int))) else colophonref01_Decode.j2 (k + 1) y n false) = colophonref01_Decode.j2 (k + 1) y n false := by
    split
    · rw [decide_eq_false (by omega)]
    · rfl
  rw [e, colophonref01_Decode.j2, if_neg (by decide)]
  by_cases hl : y.length < 4
  · rw [if_pos (by omega), if_pos hl]
  · rw [if_neg (by omega), if_neg hl]
theorem m1 (b : Int) (h0 : 0 ≤ b) (h1 : b < 256) : (isC b ∧ enc b = [b]) ↔ b < 128 := by
  constructor
  · rintro ⟨-, h⟩
    refine Int.not_le.1 (fun h2 => ?_)
    rw [enc_2 h2 (by omega)] at h
    simp at h
  · intro h
    exact ⟨⟨h0, by omega, by omega⟩, enc_1 h⟩
theorem m2 (b b1 : Int) (h0 : 0 ≤ b) (h1 : b < 256) (g0 : 0 ≤ b1) (g1 : b1 < 256) : (isC ((b % 32) * 64 + b1 % 64) ∧ enc ((b % 32) * 64 + b1 % 64) = [b, b1]) ↔ (194 ≤ b ∧ b < 224) ∧ 128 ≤ b1 ∧ b1 ≤ 191 := by
  constructor
  · rintro ⟨-, h⟩
    have hl := enc_len2 (show (enc (b % 32 * 64 + b1 % 64)).length = 2 by rw [h]; rfl)
    rw [enc_2 hl.1 hl.2] at h
    simp at h
    refine ⟨⟨by omega, by omega⟩, by omega, by omega⟩
  · rintro ⟨⟨e1, e2⟩, e3, e4⟩
    refine ⟨⟨by omega, by omega, by omega⟩, ?_⟩
    rw [enc_2 (by omega) (by omega)]
    simp
    omega
theorem low_range {b b1 : Int} (h : Low b b1) : 128 ≤ b1 ∧ b1 ≤ 191 := by
  obtain ⟨e3, e4⟩ := h
  unfold lowOf at e3
  unfold highOf at e4
  constructor
  · split at e3
    · omega
    · split at e3 <;> omega
  · split at e4
    · omega
    · split at e4 <;> omega
theorem m3 (b b1 b2 : Int) (h0 : 0 ≤ b) (h1 : b < 256) (g0 : 0 ≤ b1) (g1 : b1 < 256) (i0 : 0 ≤ b2) (i1 : b2 < 256) :
    (isC (((b % 16) * 64 + b1 % 64) * 64 + b2 % 64) ∧ enc (((b % 16) * 64 + b1 % 64) * 64 + b2 % 64) = [b, b1, b2]) ↔ E23 b b1 ∧ 128 ≤ b2 ∧ b2 ≤ 191 := by
  constructor
  · rintro ⟨⟨c0, c1, c2⟩, h⟩
    have hl := enc_len3 (show (enc ((b % 16 * 64 + b1 % 64) * 64 + b2 % 64)).length = 3 by rw [h]; rfl)
    rw [enc_3 hl.1 hl.2] at h
    simp at h
    unfold E23 Low lowOf highOf
    refine ⟨⟨by omega, by omega, ?_, ?_⟩, by omega, by omega⟩
    · split
      · omega
      · split <;> omega
    · split
      · omega
      · split <;> omega
  · rintro ⟨⟨e1, e2, hL⟩, e5, e6⟩
    have hr := low_range hL
    obtain ⟨e3, e4⟩ := hL
    unfold lowOf at e3
    unfold highOf at e4
    have hge : 2048 ≤ (b % 16 * 64 + b1 % 64) * 64 + b2 % 64 := by
      split at e3
      · omega
      · omega
    refine ⟨⟨by omega, by omega, ?_⟩, ?_⟩
    · split at e4 <;> omega
    · rw [enc_3 hge (by omega)]
      simp
      omega
theorem m4 (b b1 b2 b3 : Int) (h0 : 0 ≤ b) (h1 : b < 256) (g0 : 0 ≤ b1) (g1 : b1 < 256) (i0 : 0 ≤ b2) (i1 : b2 < 256) (j0 : 0 ≤ b3) (j1 : b3 < 256) :
    (isC ((((b % 8) * 64 + b1 % 64) * 64 + b2 % 64) * 64 + b3 % 64) ∧ enc ((((b % 8) * 64 + b1 % 64) * 64 + b2 % 64) * 64 + b3 % 64) = [b, b1, b2, b3]) ↔ E34 b b1 b2 ∧ 128 ≤ b3 ∧ b3 ≤ 191 := by
  constructor
  · rintro ⟨⟨c0, c1, c2⟩, h⟩
    have hl := enc_len4 (show (enc (((b % 8 * 64 + b1 % 64) * 64 + b2 % 64) * 64 + b3 % 64)).length = 4 by rw [h]; rfl)
    rw [enc_4 hl] at h
    simp at h
    unfold E34 Low lowOf highOf
    refine ⟨⟨by omega, by omega, ⟨?_, ?_⟩, by omega, by omega⟩, by omega, by omega⟩
    · split
      · omega
      · split <;> omega
    · split
      · omega
      · split <;> omega
  · rintro ⟨⟨e1, e2, hL, e7, e8⟩, e5, e6⟩
    have hr := low_range hL
    obtain ⟨e3, e4⟩ := hL
    unfold lowOf at e3
    unfold highOf at e4
    rw [if_neg (by omega)] at e3 e4
    have hge : 65536 ≤ ((b % 8 * 64 + b1 % 64) * 64 + b2 % 64) * 64 + b3 % 64 := by
      split at e3 <;> omega
    refine ⟨⟨by omega, ?_, by omega⟩, ?_⟩
    · split at e4 <;> omega
    · rw [enc_4 hge]
      simp
      omega
theorem size_1 {b : Int} (h : b < 128) : sizeOfFirst b = 1 := by unfold sizeOfFirst; rw [if_pos h]
theorem size_0 {b : Int} (h : 128 ≤ b) (h1 : b < 194 ∨ 244 < b) : sizeOfFirst b = 0 := by
  unfold sizeOfFirst
  rw [if_neg (by omega)]
  split
  · rfl
  · rw [if_pos (by omega)]
theorem size_2 {b : Int} (h : 194 ≤ b) (h1 : b < 224) : sizeOfFirst b = 2 := by unfold sizeOfFirst; rw [if_neg (by omega), if_neg (by omega), if_neg (by omega), if_pos h1]
theorem size_3 {b : Int} (h : 224 ≤ b) (h1 : b < 240) : sizeOfFirst b = 3 := by unfold sizeOfFirst; rw [if_neg (by omega), if_neg (by omega), if_neg (by omega), if_neg (by omega), if_pos h1]
theorem size_4 {b : Int} (h : 240 ≤ b) (h1 : b ≤ 244) : sizeOfFirst b = 4 := by unfold sizeOfFirst; rw [if_neg (by omega), if_neg (by omega), if_neg (by omega), if_neg (by omega), if_neg (by omega)]
theorem dec_1 {b : Int} (t : List Int) (h : b < 128) : dec (b :: t) = (b, 1, 0) := by rw [dec, size_1 h, if_pos rfl]
theorem dec_0 {b : Int} (t : List Int) (h : 128 ≤ b) (h1 : b < 194 ∨ 244 < b) : dec (b :: t) = (0, 0, 10) := by rw [dec, size_0 h h1, if_neg (by decide), if_pos rfl]
theorem dec_2 {b : Int} (t : List Int) (h : 194 ≤ b) (h1 : b < 224) : dec (b :: t) = restOf (b % 32) 2 128 191 t := by
  rw [dec, size_2 h h1, if_neg (by decide), if_neg (by decide), if_pos rfl]
  unfold lowOf highOf
  rw [if_neg (by omega), if_neg (by omega), if_neg (by omega), if_neg (by omega)]
theorem dec_3 {b : Int} (t : List Int) (h : 224 ≤ b) (h1 : b < 240) : dec (b :: t) = restOf (b % 16) 3 (lowOf b) (highOf b) t := by
  rw [dec, size_3 h h1, if_neg (by decide), if_neg (by decide), if_neg (by decide), if_pos rfl]
theorem dec_4 {b : Int} (t : List Int) (h : 240 ≤ b) (h1 : b ≤ 244) : dec (b :: t) = restOf (b % 8) 4 (lowOf b) (highOf b) t := by
  rw [dec, size_4 h h1, if_neg (by decide), if_neg (by decide), if_neg (by decide), if_neg (by decide)]
theorem dec_of1 (b : Int) (h0 : 0 ≤ b) : dec [b] = if b < 128 then (b, 1, 0) else if 194 ≤ b ∧ b ≤ 244 then (0, 0, 3) else (0, 0, 10) := by
  by_cases c1 : b < 128
  · rw [if_pos c1, dec_1 _ c1]
  · rw [if_neg c1]
    by_cases c2 : 194 ≤ b ∧ b ≤ 244
    · rw [if_pos c2]
      rcases Int.lt_or_le b 224 with h | h
      · rw [dec_2 _ c2.1 h]; rfl
      · rcases Int.lt_or_le b 240 with h2 | h2
        · rw [dec_3 _ h h2]; rfl
        · rw [dec_4 _ h2 c2.2]; rfl
    · rw [if_neg c2, dec_0 _ (by omega) (by omega)]
theorem rest_no {c n lo hi b1 : Int} {t : List Int} (h : ¬ (lo ≤ b1 ∧ b1 ≤ hi)) : restOf c n lo hi (b1 :: t) = (0, 0, 10) := by
  rw [restOf.eq_def]
  dsimp only
  by_cases h1 : b1 < lo
  · rw [if_pos h1]
  · rw [if_neg h1, if_pos (by omega)]
theorem rest_2 {c lo hi b1 : Int} {t : List Int} (h : lo ≤ b1 ∧ b1 ≤ hi) : restOf c 2 lo hi (b1 :: t) = (c * 64 + b1 % 64, 2, 0) := by
  rw [restOf.eq_def]
  dsimp only
  rw [if_neg (by omega), if_neg (by omega), if_pos rfl]
theorem rest_n {c n lo hi b1 : Int} {t : List Int} (h : lo ≤ b1 ∧ b1 ≤ hi) (hn : n ≠ 2) (h3 : t = []) : restOf c n lo hi (b1 :: t) = (0, 0, 3) := by
  subst h3
  rw [restOf.eq_def]
  dsimp only
  rw [if_neg (by omega), if_neg (by omega), if_neg hn]
theorem rest_n2 {c n lo hi b1 b2 : Int} {t : List Int} (h : lo ≤ b1 ∧ b1 ≤ hi) (hn : n ≠ 2) (h3 : ¬ (128 ≤ b2 ∧ b2 ≤ 191)) : restOf c n lo hi (b1 :: b2 :: t) = (0, 0, 10) := by
  rw [restOf.eq_def]
  dsimp only
  rw [if_neg (by omega), if_neg (by omega), if_neg hn]
  by_cases h1 : b2 < 128
  · (try dsimp only); rw [if_pos h1]
  · (try dsimp only); rw [if_neg h1, if_pos (by omega)]
theorem rest_3 {c lo hi b1 b2 : Int} {t : List Int} (h : lo ≤ b1 ∧ b1 ≤ hi) (h3 : 128 ≤ b2 ∧ b2 ≤ 191) : restOf c 3 lo hi (b1 :: b2 :: t) = ((c * 64 + b1 % 64) * 64 + b2 % 64, 3, 0) := by
  rw [restOf.eq_def]
  dsimp only
  rw [if_neg (by omega), if_neg (by omega), if_neg (by decide)]
  try dsimp only
  rw [if_neg (by omega), if_neg (by omega), if_pos rfl]
theorem rest_4e {c lo hi b1 b2 : Int} (h : lo ≤ b1 ∧ b1 ≤ hi) (h3 : 128 ≤ b2 ∧ b2 ≤ 191) : restOf c 4 lo hi [b1, b2] = (0, 0, 3) := by
  rw [restOf.eq_def]
  dsimp only
  rw [if_neg (by omega), if_neg (by omega), if_neg (by decide)]
  try dsimp only
  rw [if_neg (by omega), if_neg (by omega), if_neg (by decide)]
theorem rest_4 {c lo hi b1 b2 b3 : Int} {t : List Int} (h : lo ≤ b1 ∧ b1 ≤ hi) (h3 : 128 ≤ b2 ∧ b2 ≤ 191) : restOf c 4 lo hi (b1 :: b2 :: b3 :: t) = if 128 ≤ b3 ∧ b3 ≤ 191 then (((c * 64 + b1 % 64) * 64 + b2 % 64) * 64 + b3 % 64, 4, 0) else (0, 0, 10) := by
  rw [restOf.eq_def]
  dsimp only
  rw [if_neg (by omega), if_neg (by omega), if_neg (by decide)]
  try dsimp only
  rw [if_neg (by omega), if_neg (by omega), if_neg (by decide)]
  by_cases h5 : 128 ≤ b3 ∧ b3 ≤ 191
  · rw [if_pos h5, if_neg (by omega), if_neg (by omega)]
  · rw [if_neg h5]
    by_cases h1 : b3 < 128
    · rw [if_pos h1]
    · rw [if_neg h1, if_pos (by omega)]
theorem dec_of2 (b b1 : Int) (t : List Int) (h0 : 128 ≤ b) : ((194 ≤ b ∧ b < 224) ∧ 128 ≤ b1 ∧ b1 ≤ 191 → dec (b :: b1 :: t) = (b % 32 * 64 + b1 % 64, 2, 0)) ∧ (¬ ((194 ≤ b ∧ b < 224) ∧ 128 ≤ b1 ∧ b1 ≤ 191) → ¬ (224 ≤ b ∧ b ≤ 244 ∧ Low b b1) → dec (b :: b1 :: t) = (0, 0, 10)) := by
  refine ⟨fun h => by rw [dec_2 _ h.1.1 h.1.2, rest_2 h.2], fun h h2 => ?_⟩
  by_cases c0 : b < 194 ∨ 244 < b
  · rw [dec_0 _ h0 c0]
  · by_cases c2 : b < 224
    · rw [dec_2 _ (by omega) c2, rest_no (fun hh => h ⟨⟨by omega, c2⟩, hh⟩)]
    · by_cases c3 : b < 240
      · rw [dec_3 _ (by omega) c3, rest_no (fun hh => h2 ⟨by omega, by omega, hh⟩)]
      · rw [dec_4 _ (by omega) (by omega), rest_no (fun hh => h2 ⟨by omega, by omega, hh⟩)]
theorem dec_of2e (b b1 : Int) (h : 224 ≤ b ∧ b ≤ 244 ∧ Low b b1) : dec [b, b1] = (0, 0, 3) := by
  by_cases c3 : b < 240
  · rw [dec_3 _ h.1 c3, rest_n h.2.2 (by decide) rfl]
  · rw [dec_4 _ (by omega) h.2.1, rest_n h.2.2 (by decide) rfl]
theorem dec_of3 (b b1 b2 : Int) (t : List Int) (hE : E23 b b1) : dec (b :: b1 :: b2 :: t) = if 128 ≤ b2 ∧ b2 ≤ 191 then ((b % 16 * 64 + b1 % 64) * 64 + b2 % 64, 3, 0) else (0, 0, 10) := by
  rw [dec_3 _ hE.1 hE.2.1]
  by_cases h : 128 ≤ b2 ∧ b2 ≤ 191
  · rw [if_pos h, rest_3 hE.2.2 h]
  · rw [if_neg h, rest_n2 hE.2.2 (by decide) h]
theorem dec_of4 (b b1 b2 : Int) (t : List Int) (hE : E24 b b1) (h : ¬ (128 ≤ b2 ∧ b2 ≤ 191)) : dec (b :: b1 :: b2 :: t) = (0, 0, 10) := by
  rw [dec_4 _ hE.1 hE.2.1, rest_n2 hE.2.2 (by decide) h]
theorem split_E (b b1 : Int) (h : 224 ≤ b ∧ b ≤ 244 ∧ Low b b1) : E23 b b1 ∨ E24 b b1 := by
  rcases Int.lt_or_le b 240 with h4 | h4
  · exact .inl ⟨h.1, h4, h.2.2⟩
  · exact .inr ⟨h4, h.2.1, h.2.2⟩
theorem RDecode_y (y : List Int) (h : Bytes y) (hne : y ≠ []) : colophonref01_Decode.l0 60 y 1 = some (dec y) := by
  match y, h, hne with
  | [], _, hne => exact absurd rfl hne
  | [b], h, _ =>
    have hb := h b (by simp)
    have s1 := D_step 58 (by decide) [b] h 1 (by decide) (by decide) (by simp)
    simp only [jn, List.take, m1 b hb.1 hb.2] at s1
    rw [show ((1 : Nat) : Int) = 1 from rfl] at s1
    rw [s1, dec_of1 b hb.1]
    by_cases c1 : b < 128
    · rw [if_pos c1, if_pos c1]
    · rw [if_neg c1, if_neg c1, show (1 : Int) + 1 = ((2 : Nat) : Int) from rfl, D_end 56 [b] 2 (.inr (by simp)), if_pos (by simp), LeO_le (fun k => colophonref01_begins.mono [b] k) (by decide) (begins_1 b hb.1 hb.2), Option.bind_some]
      by_cases c2 : 194 ≤ b ∧ b ≤ 244
      · rw [if_pos (decide_eq_true c2), if_pos c2]
      · rw [if_neg (by simpa using c2), if_neg c2]
  | [b, b1], h, _ =>
    have hb := h b (by simp)
    have hb1 := h b1 (by simp)
    have s1 := D_step 58 (by decide) [b, b1] h 1 (by decide) (by decide) (by simp)
    have s2 := D_step 56 (by decide) [b, b1] h 2 (by decide) (by decide) (by simp)
    simp only [jn, List.take, m1 b hb.1 hb.2] at s1
    simp only [jn, List.take, m2 b b1 hb.1 hb.2 hb1.1 hb1.2] at s2
    rw [show ((1 : Nat) : Int) = 1 from rfl] at s1
    rw [show ((2 : Nat) : Int) = 2 from rfl] at s2
    rw [s1]
    by_cases c1 : b < 128
    · rw [if_pos c1, dec_1 _ c1]
    · rw [if_neg c1, show (1 : Int) + 1 = 2 from rfl, s2]
      have d2 := dec_of2 b b1 [] (by omega)
      by_cases c2 : (194 ≤ b ∧ b < 224) ∧ 128 ≤ b1 ∧ b1 ≤ 191
      · rw [if_pos c2, d2.1 c2]
      · rw [if_neg c2, show (2 : Int) + 1 = ((3 : Nat) : Int) from rfl, D_end 54 [b, b1] 3 (.inr (by simp)), if_pos (by simp), LeO_le (fun k => colophonref01_begins.mono [b, b1] k) (by decide) (begins_2 b b1 h), Option.bind_some]
        by_cases c3 : 224 ≤ b ∧ b ≤ 244 ∧ Low b b1
        · rw [if_pos (decide_eq_true c3), dec_of2e b b1 c3]
        · rw [if_neg (by simpa using c3), d2.2 c2 c3]
  | [b, b1, b2], h, _ =>
    have hb := h b (by simp)
    have hb1 := h b1 (by simp)
    have hb2 := h b2 (by simp)
    have s1 := D_step 58 (by decide) [b, b1, b2] h 1 (by decide) (by decide) (by simp)
    have s2 := D_step 56 (by decide) [b, b1, b2] h 2 (by decide) (by decide) (by simp)
    have s3 := D_step 54 (by decide) [b, b1, b2] h 3 (by decide) (by decide) (by simp)
    simp only [jn, List.take, m1 b hb.1 hb.2] at s1
    simp only [jn, List.take, m2 b b1 hb.1 hb.2 hb1.1 hb1.2] at s2
    simp only [jn, List.take, m3 b b1 b2 hb.1 hb.2 hb1.1 hb1.2 hb2.1 hb2.2] at s3
    rw [show ((1 : Nat) : Int) = 1 from rfl] at s1
    rw [show ((2 : Nat) : Int) = 2 from rfl] at s2
    rw [show ((3 : Nat) : Int) = 3 from rfl] at s3
    rw [s1]
    by_cases c1 : b < 128
    · rw [if_pos c1, dec_1 _ c1]
    · rw [if_neg c1, show (1 : Int) + 1 = 2 from rfl, s2]
      have d2 := dec_of2 b b1 [b2] (by omega)
      by_cases c2 : (194 ≤ b ∧ b < 224) ∧ 128 ≤ b1 ∧ b1 ≤ 191
      · rw [if_pos c2, d2.1 c2]
      · rw [if_neg c2, show (2 : Int) + 1 = 3 from rfl, s3]
        by_cases c3 : E23 b b1 ∧ 128 ≤ b2 ∧ b2 ≤ 191
        · rw [if_pos c3, dec_of3 b b1 b2 [] c3.1, if_pos c3.2]
        · rw [if_neg c3, show (3 : Int) + 1 = ((4 : Nat) : Int) from rfl, D_end 52 [b, b1, b2] 4 (.inr (by simp)), if_pos (by simp), LeO_le (fun k => colophonref01_begins.mono [b, b1, b2] k) (by decide) (begins_3 b b1 b2 h), Option.bind_some]
          by_cases c4 : E34 b b1 b2
          · rw [if_pos (decide_eq_true c4), dec_4 _ c4.1 c4.2.1, rest_4e c4.2.2.1 c4.2.2.2]
          · rw [if_neg (by simpa using c4)]
            by_cases c5 : 224 ≤ b ∧ b ≤ 244 ∧ Low b b1
            · rcases split_E b b1 c5 with e | e
              · rw [dec_of3 b b1 b2 [] e, if_neg (fun hh => c3 ⟨e, hh⟩)]
              · rw [dec_of4 b b1 b2 [] e (fun hh => c4 ⟨e.1, e.2.1, e.2.2, hh⟩)]
            · rw [d2.2 c2 c5]
  | b :: b1 :: b2 :: b3 :: t, h, _ =>
    have hb := h b (by simp)
    have hb1 := h b1 (by simp)
    have hb2 := h b2 (by simp)
    have hb3 := h b3 (by simp)
    have s1 := D_step 58 (by decide) (b :: b1 :: b2 :: b3 :: t) h 1 (by decide) (by decide) (by simp)
    have s2 := D_step 56 (by decide) (b :: b1 :: b2 :: b3 :: t) h 2 (by decide) (by decide) (by simp)
    have s3 := D_step 54 (by decide) (b :: b1 :: b2 :: b3 :: t) h 3 (by decide) (by decide) (by simp)
    have s4 := D_step 52 (by decide) (b :: b1 :: b2 :: b3 :: t) h 4 (by decide) (by decide) (by simp)
    simp only [jn, List.take, m1 b hb.1 hb.2] at s1
    simp only [jn, List.take, m2 b b1 hb.1 hb.2 hb1.1 hb1.2] at s2
    simp only [jn, List.take, m3 b b1 b2 hb.1 hb.2 hb1.1 hb1.2 hb2.1 hb2.2] at s3
    simp only [jn, List.take, m4 b b1 b2 b3 hb.1 hb.2 hb1.1 hb1.2 hb2.1 hb2.2 hb3.1 hb3.2] at s4
    rw [show ((1 : Nat) : Int) = 1 from rfl] at s1
    rw [show ((2 : Nat) : Int) = 2 from rfl] at s2
    rw [show ((3 : Nat) : Int) = 3 from rfl] at s3
    rw [show ((4 : Nat) : Int) = 4 from rfl] at s4
    rw [s1]
    by_cases c1 : b < 128
    · rw [if_pos c1, dec_1 _ c1]
    · rw [if_neg c1, show (1 : Int) + 1 = 2 from rfl, s2]
      have d2 := dec_of2 b b1 (b2 :: b3 :: t) (by omega)
      by_cases c2 : (194 ≤ b ∧ b < 224) ∧ 128 ≤ b1 ∧ b1 ≤ 191
      · rw [if_pos c2, d2.1 c2]
      · rw [if_neg c2, show (2 : Int) + 1 = 3 from rfl, s3]
        by_cases c3 : E23 b b1 ∧ 128 ≤ b2 ∧ b2 ≤ 191
        · rw [if_pos c3, dec_of3 b b1 b2 _ c3.1, if_pos c3.2]
        · rw [if_neg c3, show (3 : Int) + 1 = 4 from rfl, s4]
          by_cases c4 : E34 b b1 b2 ∧ 128 ≤ b3 ∧ b3 ≤ 191
          · rw [if_pos c4, dec_4 _ c4.1.1 c4.1.2.1, rest_4 c4.1.2.2.1 c4.1.2.2.2, if_pos c4.2]
          · rw [if_neg c4, show (4 : Int) + 1 = ((5 : Nat) : Int) from rfl, D_end 50 _ 5 (.inl (by decide)), if_neg (by simp)]
            by_cases c5 : 224 ≤ b ∧ b ≤ 244 ∧ Low b b1
            · rcases split_E b b1 c5 with e | e
              · rw [dec_of3 b b1 b2 _ e, if_neg (fun hh => c3 ⟨e, hh⟩)]
              · by_cases c6 : 128 ≤ b2 ∧ b2 ≤ 191
                · rw [dec_4 _ e.1 e.2.1, rest_4 e.2.2 c6, if_neg (fun hh => c4 ⟨⟨e.1, e.2.1, e.2.2, c6⟩, hh⟩)]
                · rw [dec_of4 b b1 b2 _ e c6]
            · rw [d2.2 c2 c5]
theorem RDecode_f {l : List Int} {i : Int} (h : Bytes l) (h0 : 0 ≤ i) (h1 : i < l.length) {k : Nat} (hk : 61 ≤ k) : colophonref01_Decode.f k l i = some (dec (l.drop i.toNat)) := by
  refine LeO_le (fun k => colophonref01_Decode.mono l i k) hk ?_
  unfold colophonref01_Decode.f
  rw [if_neg (by omega), decide_eq_false (by omega), colophonref01_Decode.j0, if_neg (by decide), if_pos h0, if_pos (by omega)]
  exact RDecode_y _ (h.drop _) (by rw [Ne, List.drop_eq_nil_iff]; omega)
theorem RCheck_l (l : List Int) (h : Bytes l) (hl : l.length ≤ 1048576) (n : Nat) : ∀ (k : Nat) (i : Int), 0 ≤ i → i ≤ l.length → (l.length : Int) - i ≤ n → n + 61 < k → colophonref01_Check.l0 k l i = some (chkF n l i) := by
  induction n with
  | zero =>
    intro k i h0 h1 hn hk
    obtain ⟨k, rfl⟩ : ∃ m, k = m + 1 := ⟨k - 1, by omega⟩
    rw [colophonref01_Check.l0, if_neg (by omega), chkF, show i = l.length by omega]
  | succ n ih =>
    intro k i h0 h1 hn hk
    obtain ⟨k, rfl⟩ : ∃ m, k = m + 1 := ⟨k - 1, by omega⟩
    rw [colophonref01_Check.l0, chkF]
    by_cases hi : i < (l.length : Int)
    · rw [if_pos hi, if_pos hi, RDecode_f h h0 hi (by omega)]
      simp only [Option.bind_some]
      by_cases he : (dec (l.drop i.toNat)).2.2 = 0
      · rw [if_pos he, if_pos he]
        have hd := dec_ok (h.drop i.toNat) he
        have hlen : (l.drop i.toNat).length = l.length - i.toNat := List.length_drop
        rw [w64 _ (by omega) (by omega)]
        exact ih k _ (by omega) (by omega) (by omega) (by omega)
      · rw [if_neg he, if_neg he]
    · rw [if_neg hi, if_neg hi]
theorem RCheck_f (l : List Int) (h : Bytes l) (hl : l.length ≤ 1048576) {k : Nat} (hk : l.length + 61 < k) : colophonref01_Check.f k l = some (chk l) := by
  unfold colophonref01_Check.f chk
  exact RCheck_l l h hl l.length k 0 (Int.le_refl _) (by omega) (by omega) hk
def usz (c : Int) : Int := if c ≥ 65536 then 2 else 1
inductive Cs : List Int → List (Int × Int) → Prop
  | nil : Cs [] []
  | step (y : List Int) (r : List (Int × Int)) (he : (dec y).2.2 = 0) (h : Cs (y.drop (dec y).2.1.toNat) r) : Cs y (((dec y).2.1, usz (dec y).1) :: r)
theorem V.cs {y : List Int} (h : V y) : ∃ r, Cs y r := by
  induction h with
  | nil => exact ⟨[], .nil⟩
  | step y he h ih =>
    obtain ⟨r, hr⟩ := ih
    exact ⟨_, .step y r he hr⟩
theorem Cs.v {y : List Int} {r : List (Int × Int)} (h : Cs y r) : V y := by
  induction h with
  | nil => exact .nil
  | step y r he h ih => exact .step y he ih
def sz : List (Int × Int) → Int
  | [] => 0
  | x :: r => x.1 + sz r
def un : List (Int × Int) → Int
  | [] => 0
  | x :: r => x.2 + un r
def off : List (Int × Int) → Int → Int
  | [], _ => 0
  | x :: r, k => if k < x.2 then 0 else x.1 + off r (k - x.2)
def flo : List (Int × Int) → Int → Int
  | [], _ => 0
  | x :: r, at_ => if at_ < x.1 then 0 else x.1 + flo r (at_ - x.1)
def ufl : List (Int × Int) → Int → Int
  | [], _ => 0
  | x :: r, at_ => if at_ < x.1 then 0 else x.2 + ufl r (at_ - x.1)
def Good (r : List (Int × Int)) : Prop := ∀ x ∈ r, 1 ≤ x.1 ∧ x.1 ≤ 4 ∧ 1 ≤ x.2 ∧ x.2 ≤ 2
theorem Good.head {x : Int × Int} {r : List (Int × Int)} (h : Good (x :: r)) : 1 ≤ x.1 ∧ x.1 ≤ 4 ∧ 1 ≤ x.2 ∧ x.2 ≤ 2 := h x List.mem_cons_self
theorem Good.tail {x : Int × Int} {r : List (Int × Int)} (h : Good (x :: r)) : Good r := fun y hy => h y (List.mem_cons_of_mem _ hy)
theorem sz_nonneg : ∀ {r : List (Int × Int)}, Good r → 0 ≤ sz r
  | [], _ => by simp [sz]
  | x :: r, h => by have := h.head; have := sz_nonneg h.tail; simp only [sz]; omega
theorem un_nonneg : ∀ {r : List (Int × Int)}, Good r → 0 ≤ un r
  | [], _ => by simp [un]
  | x :: r, h => by have := h.head; have := un_nonneg h.tail; simp only [un]; omega
theorem off_range : ∀ {r : List (Int × Int)} (k : Int), Good r → 0 ≤ off r k ∧ off r k ≤ sz r
  | [], _, _ => by simp [off, sz]
  | x :: r, k, h => by
    have h1 := h.head
    have h2 := off_range (k - x.2) h.tail
    have h3 := sz_nonneg h.tail
    simp only [off, sz]
    split <;> omega
theorem flo_range : ∀ {r : List (Int × Int)} (k : Int), Good r → 0 ≤ k → 0 ≤ flo r k ∧ flo r k ≤ sz r ∧ flo r k ≤ k
  | [], k, _, h0 => by simp [flo, sz]; omega
  | x :: r, k, h, h0 => by
    have h1 := h.head
    have h3 := sz_nonneg h.tail
    simp only [flo, sz]
    split
    · omega
    · have h2 := flo_range (k - x.1) h.tail (by omega)
      omega
theorem ufl_range : ∀ {r : List (Int × Int)} (k : Int), Good r → 0 ≤ ufl r k ∧ ufl r k ≤ un r
  | [], k, _ => by simp [ufl, un]
  | x :: r, k, h => by
    have h1 := h.head
    have h2 := ufl_range (k - x.1) h.tail
    have h3 := un_nonneg h.tail
    simp only [ufl, un]
    split <;> omega
theorem off_ufl : ∀ {r : List (Int × Int)} (k : Int), Good r → 0 ≤ k → off r (ufl r k) = flo r k
  | [], k, _, _ => by simp [off, flo]
  | x :: r, k, h, h0 => by
    have h1 := h.head
    have h3 := un_nonneg h.tail
    by_cases hk : k < x.1
    · simp only [ufl, flo, if_pos hk, off]
      rw [if_pos (by omega)]
    · have h2 := off_ufl (k - x.1) h.tail (by omega)
      have h4 := ufl_range (k - x.1) h.tail
      simp only [ufl, flo, if_neg hk, off]
      rw [if_neg (by omega), show x.2 + ufl r (k - x.1) - x.2 = ufl r (k - x.1) by omega, h2]
theorem flo_off : ∀ {r : List (Int × Int)} (k : Int), Good r → 0 ≤ k → flo r (off r k) = off r k
  | [], k, _, _ => by simp [off, flo]
  | x :: r, k, h, h0 => by
    have h1 := h.head
    by_cases hk : k < x.2
    · simp only [off, if_pos hk, flo]
      rw [if_pos (by omega)]
    · have h2 := flo_off (k - x.2) h.tail (by omega)
      have h4 := off_range (k - x.2) h.tail
      simp only [off, if_neg hk, flo]
      rw [if_neg (by omega), show x.1 + off r (k - x.2) - x.1 = off r (k - x.2) by omega, h2]
theorem ufl_sz : ∀ {r : List (Int × Int)} (k : Int), Good r → sz r ≤ k → ufl r k = un r ∧ flo r k = sz r
  | [], k, _, _ => by simp [ufl, un, flo, sz]
  | x :: r, k, h, hk => by
    have h1 := h.head
    have h3 := sz_nonneg h.tail
    simp only [sz] at hk
    have h2 := ufl_sz (k - x.1) h.tail (by omega)
    simp only [ufl, un, flo, sz]
    rw [if_neg (by omega), if_neg (by omega)]
    omega
theorem dec_head {y : List Int} (hb : Bytes y) (he : (dec y).2.2 = 0) : ∃ h z, y = h ++ z ∧ (h.length : Int) = (dec y).2.1 ∧ (dec h).2.2 = 0 ∧ (∀ k : Nat, k < h.length → (dec (h.take k)).2.2 ≠ 0) ∧ ((∃ b, h = [b] ∧ b < 128) ∨ (2 ≤ h.length ∧ ∀ x ∈ h, 128 ≤ x)) := by
  cases y with
  | nil => simp [dec] at he
  | cons b t =>
    have hb0 := hb b List.mem_cons_self
    by_cases h1 : b < 128
    · refine ⟨[b], t, rfl, by rw [dec_1 t h1]; rfl, by rw [dec_1 [] h1], fun k hk => ?_, .inl ⟨b, rfl, h1⟩⟩
      obtain rfl : k = 0 := by simp at hk; omega
      simp [dec]
    · by_cases h2 : b < 194 ∨ 244 < b
      · rw [dec_0 t (by omega) h2] at he
        simp at he
      · by_cases c2 : b < 224
        · have e := fun z => dec_2 (b := b) z (by omega) c2
          rw [e] at he ⊢
          cases t with
          | nil => simp [restOf] at he
          | cons b1 t1 =>
            by_cases g1 : 128 ≤ b1 ∧ b1 ≤ 191
            · rw [rest_2 g1] at he ⊢
              refine ⟨[b, b1], t1, rfl, rfl, by rw [e, rest_2 g1], fun k hk => ?_, .inr ⟨by simp, fun x hx => by simp at hx; omega⟩⟩
              obtain rfl | rfl : k = 0 ∨ k = 1 := by simp at hk; omega
              · simp [dec]
              · simp only [List.take_succ_cons, List.take_zero]
                rw [e]; simp [restOf]
            · rw [rest_no g1] at he
              simp at he
        · by_cases c3 : b < 240
          · have e := fun z => dec_3 (b := b) z (by omega) c3
            have hlo : 128 ≤ lowOf b := by unfold lowOf; repeat' split <;> try omega
            rw [e] at he ⊢
            cases t with
            | nil => simp [restOf] at he
            | cons b1 t1 =>
              by_cases g1 : lowOf b ≤ b1 ∧ b1 ≤ highOf b
              · cases t1 with
                | nil => rw [rest_n g1 (by decide) rfl] at he; simp at he
                | cons b2 t2 =>
                  by_cases g2 : 128 ≤ b2 ∧ b2 ≤ 191
                  · rw [rest_3 g1 g2] at he ⊢
                    refine ⟨[b, b1, b2], t2, rfl, rfl, by rw [e, rest_3 g1 g2], fun k hk => ?_, .inr ⟨by simp, fun x hx => by simp at hx; omega⟩⟩
                    obtain rfl | rfl | rfl : k = 0 ∨ k = 1 ∨ k = 2 := by simp at hk; omega
                    · simp [dec]
                    · simp only [List.take_succ_cons, List.take_zero]
                      rw [e]; simp [restOf]
                    · simp only [List.take_succ_cons, List.take_zero]
                      rw [e, rest_n g1 (by decide) rfl]; simp
                  · rw [rest_n2 g1 (by decide) g2] at he; simp at he
              · rw [rest_no g1] at he; simp at he
          · have e := fun z => dec_4 (b := b) z (by omega) (by omega)
            have hlo : 128 ≤ lowOf b := by unfold lowOf; repeat' split <;> try omega
            rw [e] at he ⊢
            cases t with
            | nil => simp [restOf] at he
            | cons b1 t1 =>
              by_cases g1 : lowOf b ≤ b1 ∧ b1 ≤ highOf b
              · cases t1 with
                | nil => rw [rest_n g1 (by decide) rfl] at he; simp at he
                | cons b2 t2 =>
                  by_cases g2 : 128 ≤ b2 ∧ b2 ≤ 191
                  · cases t2 with
                    | nil => rw [rest_4e g1 g2] at he; simp at he
                    | cons b3 t3 =>
                      by_cases g3 : 128 ≤ b3 ∧ b3 ≤ 191
                      · rw [rest_4 g1 g2, if_pos g3] at he ⊢
                        refine ⟨[b, b1, b2, b3], t3, rfl, rfl, by rw [e, rest_4 g1 g2, if_pos g3], fun k hk => ?_, .inr ⟨by simp, fun x hx => by simp at hx; omega⟩⟩
                        obtain rfl | rfl | rfl | rfl : k = 0 ∨ k = 1 ∨ k = 2 ∨ k = 3 := by simp at hk; omega
                        · simp [dec]
                        · simp only [List.take_succ_cons, List.take_zero]
                          rw [e]; simp [restOf]
                        · simp only [List.take_succ_cons, List.take_zero]
                          rw [e, rest_n g1 (by decide) rfl]; simp
                        · simp only [List.take_succ_cons, List.take_zero]
                          rw [e, rest_4e g1 g2]; simp
                      · rw [rest_4 g1 g2, if_neg g3] at he; simp at he
                  · rw [rest_n2 g1 (by decide) g2] at he; simp at he
              · rw [rest_no g1] at he; simp at he
theorem Cs.good {y : List Int} {r : List (Int × Int)} (h : Cs y r) (hb : Bytes y) : Good r ∧ sz r = y.length := by
  induction h with
  | nil => exact ⟨fun x hx => (nomatch hx), rfl⟩
  | step y r he h ih =>
    have h1 := dec_ok hb he
    obtain ⟨g, e⟩ := ih (hb.drop _)
    refine ⟨fun x hx => ?_, ?_⟩
    · rcases List.mem_cons.1 hx with rfl | hx
      · refine ⟨h1.1, h1.2.2.1, ?_, ?_⟩ <;> (simp only [usz]; split <;> omega)
      · exact g x hx
    · rw [sz, e, List.length_drop]
      omega
theorem Cs.uniq {y : List Int} {r r' : List (Int × Int)} (h : Cs y r) (h' : Cs y r') : r = r' := by
  induction h generalizing r' with
  | nil =>
    cases h' with
    | nil => rfl
    | step _ _ he _ => simp [dec] at he
  | step y r he h ih =>
    cases h' with
    | nil => simp [dec] at he
    | step _ r2 he2 h2 => rw [ih h2]
theorem cs_nil {r : List (Int × Int)} (h : Cs [] r) : r = [] := h.uniq .nil
theorem Cs.open {y : List Int} {r : List (Int × Int)} (h : Cs y r) (hb : Bytes y) (hne : y ≠ []) : ∃ hd z x q, y = hd ++ z ∧ r = x :: q ∧ (hd.length : Int) = x.1 ∧ (dec hd).2.2 = 0 ∧ (dec hd).2.1 = x.1 ∧ usz (dec hd).1 = x.2 ∧ Cs z q ∧ (∀ k : Nat, k < hd.length → (dec (hd.take k)).2.2 ≠ 0) ∧ ((∃ b, hd = [b] ∧ b < 128) ∨ (2 ≤ hd.length ∧ ∀ x ∈ hd, 128 ≤ x)) := by
  cases h with
  | nil => exact absurd rfl hne
  | step _ q he h =>
    obtain ⟨hd, z, rfl, hl, h0, hk, hs⟩ := dec_head hb he
    have e := dec_append (z := z) h0
    rw [e] at hl h ⊢
    refine ⟨hd, z, _, q, rfl, rfl, hl, h0, rfl, rfl, ?_, hk, hs⟩
    rw [← hl, Int.toNat_natCast, List.drop_left'] at h
    · exact h
    · rfl
theorem dec_hd {hd z : List Int} (h0 : (dec hd).2.2 = 0) : dec (hd ++ z) = dec hd := dec_append h0
theorem chkF_take {l : List Int} (hb : Bytes l) (m : Nat) (hm : m ≤ l.length) (n : Nat) : ∀ (i : Nat) (r : List (Int × Int)), i ≤ m → m - i ≤ n → Cs (l.drop i) r → (chkF n (l.take m) (i : Int)).1 = i + flo r ((m : Int) - i) := by
  induction n with
  | zero =>
    intro i r hi hn h
    obtain rfl : i = m := by omega
    obtain ⟨g, _⟩ := h.good (hb.drop _)
    have := flo_range (r := r) 0 g (Int.le_refl _)
    simp only [chkF]
    rw [show ((i : Int) - i) = 0 by omega]
    omega
  | succ n ih =>
    intro i r hi hn h
    rw [chkF]
    by_cases hlt : i < m
    · have hlen : (l.take m).length = m := by rw [List.length_take]; omega
      rw [if_pos (by rw [hlen]; omega), Int.toNat_natCast, List.drop_take]
      have hne : l.drop i ≠ [] := fun e => by rw [List.drop_eq_nil_iff] at e; omega
      obtain ⟨hd, z, x, q, e, rfl, hl, h0, h1, h2, hz, hk, hs⟩ := h.open (hb.drop _) hne
      rw [e]
      have hx1 : 1 ≤ x.1 := (h.good (hb.drop _)).1.head.1
      by_cases hc : hd.length ≤ m - i
      · have e3 : (hd ++ z).take (m - i) = hd ++ z.take (m - i - hd.length) := by rw [List.take_append, List.take_of_length_le hc]
        rw [e3, dec_hd h0, if_pos h0, h1]
        have hz2 : Cs (l.drop (i + hd.length)) q := by rw [← List.drop_drop, e, List.drop_left' rfl]; exact hz
        have h4 := ih (i + hd.length) q (by omega) (by omega) hz2
        rw [show ((i : Int) + x.1) = ((i + hd.length : Nat) : Int) by omega, h4]
        simp only [flo]
        rw [if_neg (by omega)]
        rw [show ((m : Int) - ((i + hd.length : Nat) : Int)) = (m : Int) - i - x.1 by omega]
        omega
      · have e3 : (hd ++ z).take (m - i) = hd.take (m - i) := by rw [List.take_append_of_le_length (by omega)]
        rw [e3, if_neg (hk _ (by omega))]
        simp only [flo]
        rw [if_pos (by omega)]
        omega
    · obtain rfl : i = m := by omega
      rw [if_neg (by rw [List.length_take]; omega)]
      obtain ⟨g, _⟩ := h.good (hb.drop _)
      have := flo_range (r := r) 0 g (Int.le_refl _)
      rw [show ((i : Int) - i) = 0 by omega]
      show (i : Int) = _
      omega
theorem chk_take {y : List Int} {r : List (Int × Int)} (hb : Bytes y) (h : Cs y r) (m : Nat) (hm : m ≤ y.length) : (chk (y.take m)).1 = flo r m := by
  have h1 := chkF_take hb m hm (y.take m).length 0 r (Nat.zero_le _) (by rw [List.length_take]; omega) (by simpa using h)
  unfold chk
  rw [show ((0 : Nat) : Int) = 0 from rfl] at h1
  rw [h1]
  simp
theorem chk_all {y : List Int} {r : List (Int × Int)} (hb : Bytes y) (h : Cs y r) : chk y = ((y.length : Int), 0) := by
  have h1 := (chk_V hb).2 h.v
  have h2 := chk_take hb h y.length (Nat.le_refl _)
  rw [List.take_length] at h2
  obtain ⟨g, e⟩ := h.good hb
  have h3 := (ufl_sz (r := r) y.length g (by omega)).2
  exact Prod.ext (by rw [h2, h3, e]) h1
theorem cs_take {y : List Int} {r : List (Int × Int)} (h : Cs y r) (hb : Bytes y) : ∀ k : Int, ∃ q, Cs (y.take (flo r k).toNat) q ∧ un q = ufl r k := by
  induction h with
  | nil => exact fun k => ⟨[], by simpa using Cs.nil, rfl⟩
  | step y r he h ih =>
    intro k
    obtain ⟨hd, z, e, hl, h0, hk, hs⟩ := dec_head hb he
    by_cases hlt : k < (dec y).2.1
    · exact ⟨[], by simp only [flo, if_pos hlt]; simpa using Cs.nil, by simp only [ufl, if_pos hlt, un]⟩
    · obtain ⟨q, hq, hu⟩ := ih (hb.drop _) (k - (dec y).2.1)
      have g := ((Cs.step y r he h).good hb).1
      have hf := flo_range (r := r) (k - (dec y).2.1) g.tail (by omega)
      have hd1 : dec (hd ++ z) = dec hd := dec_append h0
      refine ⟨((dec y).2.1, usz (dec y).1) :: q, ?_, ?_⟩
      · simp only [flo, if_neg hlt]
        have e2 : y.take ((dec y).2.1 + flo r (k - (dec y).2.1)).toNat = hd ++ (y.drop (dec y).2.1.toNat).take (flo r (k - (dec y).2.1)).toNat := by
          rw [← hl, Int.toNat_natCast, show ((hd.length : Int) + flo r (k - hd.length)).toNat = hd.length + (flo r (k - hd.length)).toNat by rw [hl]; omega]
          subst e
          rw [List.take_append, List.take_of_length_le (by omega), List.drop_left' rfl]
          congr 2
          omega
        rw [e2]
        have e4 : dec (hd ++ (y.drop (dec y).2.1.toNat).take (flo r (k - (dec y).2.1)).toNat) = dec y := by rw [dec_append h0, e, hd1]
        have h5 := Cs.step (hd ++ (y.drop (dec y).2.1.toNat).take (flo r (k - (dec y).2.1)).toNat) q (by rw [e4]; exact he) (by
          rw [e4]
          rw [List.drop_left' (by omega)]
          exact hq)
        rw [e4] at h5
        exact h5
      · simp only [ufl, if_neg hlt, un, hu]
theorem V.take {a : List Int} (hb : Bytes a) {hd z : List Int} (h0 : (dec hd).2.2 = 0) (hl : (hd.length : Int) = (dec hd).2.1) : V hd := by
  refine .step hd h0 ?_
  rw [← hl, Int.toNat_natCast, List.drop_length]
  exact .nil
theorem lns_skip (l : List Int) (fr : Int) (m : Nat) : ∀ (i : Nat), i + m ≤ l.length → (∀ j : Nat, i ≤ j → j < i + m → rd l j ≠ 10 ∧ rd l j ≠ 13) → lns (l.drop i) fr i = lns (l.drop (i + m)) fr ((i + m : Nat) : Int) := by
  induction m with
  | zero => intro i _ _; rfl
  | succ m ih =>
    intro i hi hne
    have h1 := hne i (Nat.le_refl _) (by omega)
    have h2 := lns_drop l fr (i : Int) (by omega) (by omega)
    rw [Int.toNat_natCast] at h2
    rw [h2, if_neg h1.1, if_neg h1.2, show ((i : Int) + 1).toNat = i + 1 by omega, show ((i : Int) + 1) = ((i + 1 : Nat) : Int) by omega, ih (i + 1) (by omega) (fun j a b => hne j (by omega) (by omega))]
    rw [show i + 1 + m = i + (m + 1) by omega]
theorem seg_app (l : List Int) (fr i m : Nat) (h : fr ≤ i) : (l.take (i + m)).drop fr = (l.take i).drop fr ++ (l.drop i).take m := by
  rw [List.take_add, List.drop_append]
  congr 1
  by_cases hi : i ≤ l.length
  · rw [show fr - (l.take i).length = 0 by rw [List.length_take]; omega, List.drop_zero]
  · rw [show l.drop i = [] by rw [List.drop_eq_nil_iff]; omega]; simp
theorem lns_V (l : List Int) (hb : Bytes l) (n : Nat) : ∀ (fr i : Nat), fr ≤ i → i ≤ l.length → l.length - i ≤ n → V ((l.take i).drop fr) → V (l.drop i) → ∀ x ∈ lns (l.drop i) fr i, V ((l.take x.f1.toNat).drop x.f0.toNat) := by
  induction n with
  | zero =>
    intro fr i hf hi hn h1 h2 x hx
    rw [show l.drop i = [] by rw [List.drop_eq_nil_iff]; omega] at hx
    simp only [lns, List.mem_singleton] at hx
    subst hx
    simpa using h1
  | succ n ih =>
    intro fr i hf hi hn h1 h2 x hx
    by_cases hlt : i < l.length
    · have hne : l.drop i ≠ [] := fun e => by rw [List.drop_eq_nil_iff] at e; omega
      obtain ⟨r, hr⟩ := h2.cs
      obtain ⟨hd, z, y, q, e, rfl, hl, h0, h3, h4, hz, hk, hs⟩ := hr.open (hb.drop _) hne
      have hz2 : l.drop (i + hd.length) = z := by rw [← List.drop_drop, e, List.drop_left' rfl]
      have hlen : i + hd.length ≤ l.length := by
        have := congrArg List.length e
        rw [List.length_drop, List.length_append] at this
        omega
      have hrd : ∀ j : Nat, j < hd.length → rd l ((i + j : Nat) : Int) = hd.getD j 0 := fun j hj => by
        have h9 : l.getD (i + j) 0 = (l.drop i).getD j 0 := by simp [List.getD, List.getElem?_drop]
        simp only [rd, Int.toNat_natCast]
        rw [h9, e]
        simp [List.getD, List.getElem?_append_left hj]
      rcases hs with ⟨b, rfl, hb1⟩ | ⟨hge, hall⟩
      · have hb0 : rd l (i : Int) = b := by have := hrd 0 (by simp); simpa using this
        have h5 := lns_drop l fr (i : Int) (by omega) (by omega)
        rw [Int.toNat_natCast, hb0, show ((i : Int) + 1).toNat = i + 1 by omega, show ((i : Int) + 2).toNat = i + 2 by omega, show ((i : Int) + 1) = ((i + 1 : Nat) : Int) by omega, show ((i : Int) + 2) = ((i + 2 : Nat) : Int) by omega] at h5
        rw [h5] at hx
        have hz3 : l.drop (i + 1) = z := hz2
        have vz : V (l.drop (i + 1)) := by rw [hz3]; exact hz.v
        have nilV : ∀ j : Nat, V ((l.take j).drop j) := fun j => by rw [List.drop_take_self]; exact .nil
        by_cases b10 : b = 10
        · rw [if_pos b10] at hx
          rcases List.mem_cons.1 hx with rfl | hx
          · simpa using h1
          · exact ih (i + 1) (i + 1) (Nat.le_refl _) (by omega) (by omega) (nilV _) vz x hx
        · rw [if_neg b10] at hx
          by_cases b13 : b = 13
          · rw [if_pos b13] at hx
            by_cases h6 : (((i + 1 : Nat) : Int) < l.length ∧ rd l ((i + 1 : Nat) : Int) = 10)
            · rw [if_pos h6] at hx
              rcases List.mem_cons.1 hx with rfl | hx
              · simpa using h1
              · refine ih (i + 2) (i + 2) (Nat.le_refl _) (by omega) (by omega) (nilV _) ?_ x hx
                have hne2 : l.drop (i + 1) ≠ [] := fun e => by rw [List.drop_eq_nil_iff] at e; omega
                have hlt2 : i + 1 < l.length := by omega
                have e7 : l.drop (i + 1) = 10 :: l.drop (i + 2) := by
                  rw [List.drop_eq_getElem_cons hlt2]
                  congr 1
                  have := h6.2
                  simp [rd, List.getD, hlt2] at this
                  exact this
                rw [e7] at vz
                obtain ⟨r2, hr2⟩ := vz.cs
                cases hr2 with
                | step _ _ he9 h9 =>
                  rw [dec_1 _ (by decide)] at h9
                  exact h9.v
            · rw [if_neg h6] at hx
              rcases List.mem_cons.1 hx with rfl | hx
              · simpa using h1
              · exact ih (i + 1) (i + 1) (Nat.le_refl _) (by omega) (by omega) (nilV _) vz x hx
          · rw [if_neg b13] at hx
            refine ih fr (i + 1) (by omega) (by omega) (by omega) ?_ vz x hx
            rw [seg_app l fr i 1 hf, e]
            exact h1.append (fun y hy => hb y (List.mem_of_mem_take (List.mem_of_mem_drop hy))) (by simpa using V.take hb (z := []) h0 (by rw [h3]; exact hl))
      · have h5 := lns_skip l fr hd.length i hlen (fun j a b => by
          have h7 := hrd (j - i) (by omega)
          rw [show i + (j - i) = j by omega] at h7
          have h8 : hd.getD (j - i) 0 ∈ hd := by
            have hj : j - i < hd.length := by omega
            simp [List.getD, hj]
          have := hall _ h8
          rw [h7]
          omega)
        rw [h5] at hx
        refine ih fr (i + hd.length) (by omega) hlen (by omega) ?_ (by rw [hz2]; exact hz.v) x hx
        rw [seg_app l fr i hd.length hf, e, List.take_left' rfl]
        exact h1.append (fun y hy => hb y (List.mem_of_mem_take (List.mem_of_mem_drop hy))) (V.take hb (z := []) h0 (by rw [h3]; exact hl))
    · rw [show l.drop i = [] by rw [List.drop_eq_nil_iff]; omega] at hx
      simp only [lns, List.mem_singleton] at hx
      subst hx
      simpa using h1
theorem line_V {l : List Int} (hb : Bytes l) (hv : V l) (t : Nat) (ht : t < (lns l 0 0).length) : V ((l.take (rdLn (lns l 0 0) t).f1.toNat).drop (rdLn (lns l 0 0) t).f0.toNat) := by
  refine lns_V l hb l.length 0 0 (Nat.le_refl _) (Nat.zero_le _) (by omega) (by simpa using V.nil) (by simpa using hv) _ ?_
  simp only [List.drop_zero]
  have : rdLn (lns l 0 0) t = (lns l 0 0)[t] := by simp [rdLn, List.getD, ht]
  rw [this]
  exact List.getElem_mem _
theorem Cs.split {y : List Int} {r : List (Int × Int)} (h : Cs y r) (hne : y ≠ []) : ∃ q, r = ((dec y).2.1, usz (dec y).1) :: q ∧ (dec y).2.2 = 0 ∧ Cs (y.drop (dec y).2.1.toNat) q := by
  cases h with
  | nil => exact absurd rfl hne
  | step _ q he h => exact ⟨q, rfl, he, h⟩
theorem size_f (c : Int) : units_size.f c = some (usz c) := by unfold units_size.f usz; split <;> rfl
theorem usz_range (c : Int) : 1 ≤ usz c ∧ usz c ≤ 2 := by unfold usz; split <;> omega
theorem Of_l (l : List Int) (hb : Bytes l) (hs : l.length ≤ 1048576) (n : Nat) : ∀ (k : Nat) (i : Nat) (many : Int) (r : List (Int × Int)), i ≤ l.length → l.length - i ≤ n → n + 9 < k → Cs (l.drop i) r → 0 ≤ many → many ≤ 2 * i → units_Of.l0 k l many i = some (many + un r, 0) := by
  induction n with
  | zero =>
    intro k i many r hi hn hk h h0 h1
    obtain ⟨k, rfl⟩ : ∃ m, k = m + 1 := ⟨k - 1, by omega⟩
    obtain rfl : i = l.length := by omega
    rw [List.drop_length] at h
    obtain rfl := cs_nil h
    rw [units_Of.l0, if_neg (by omega)]
    simp [un]
  | succ n ih =>
    intro k i many r hi hn hk h h0 h1
    obtain ⟨k, rfl⟩ : ∃ m, k = m + 1 := ⟨k - 1, by omega⟩
    by_cases hlt : i < l.length
    · have hne : l.drop i ≠ [] := fun e => by rw [List.drop_eq_nil_iff] at e; omega
      rw [units_Of.l0, if_pos (by omega), Decode_ge hb hs (by omega) (by omega) (by omega), Int.toNat_natCast, Option.bind_some]
      obtain ⟨q, rfl, he, h⟩ := h.split hne
      have hd := dec_ok (hb.drop i) he
      rw [List.length_drop] at hd
      have hu := usz_range (dec (l.drop i)).1
      rw [if_pos he, size_f, Option.bind_some, w64 _ (by omega) (by omega), w64 _ (by omega) (by omega)]
      have e : ((i : Int) + (dec (l.drop i)).2.1) = ((i + (dec (l.drop i)).2.1.toNat : Nat) : Int) := by omega
      rw [List.drop_drop] at h
      rw [e, ih k (i + (dec (l.drop i)).2.1.toNat) _ q (by omega) (by omega) (by omega) h (by omega) (by omega)]
      simp only [un]
      rw [Int.add_assoc]
    · obtain rfl : i = l.length := by omega
      rw [List.drop_length] at h
      obtain rfl := cs_nil h
      rw [units_Of.l0, if_neg (by omega)]
      simp [un]
theorem Of_f {y : List Int} {r : List (Int × Int)} (hb : Bytes y) (hs : y.length ≤ 1048576) (h : Cs y r) {k : Nat} (hk : y.length + 9 < k) : units_Of.f k y = some (un r, 0) := by
  have := Of_l y hb hs y.length k 0 0 r (Nat.zero_le _) (by omega) hk (by simpa using h) (Int.le_refl _) (by omega)
  unfold units_Of.f
  rw [Int.zero_add] at this
  exact this
theorem ref_units (c : Int) : ∃ t : List Int, colophonref02_units.f c = some t ∧ (t.length : Int) = usz c := by
  unfold colophonref02_units.f usz
  by_cases h : c < 65536
  · rw [if_pos h, if_neg (by omega)]
    exact ⟨_, rfl, rfl⟩
  · rw [if_neg h, if_pos (by omega)]
    exact ⟨_, rfl, rfl⟩
theorem ROffset_late (l : List Int) (a : Int) (hb : Bytes l) (hs : l.length ≤ 1048576) (n : Nat) : ∀ (k : Nat) (i : Nat) (place seen : Int) (r : List (Int × Int)), i ≤ l.length → l.length - i ≤ n → n + 62 < k → Cs (l.drop i) r → 0 ≤ seen → seen ≤ 2 * i → a < seen → colophonref02_Offset.l0 k l a place seen i = some (place, 0) := by
  induction n with
  | zero =>
    intro k i place seen r hi hn hk h h0 h1 h2
    obtain ⟨k, rfl⟩ : ∃ m, k = m + 1 := ⟨k - 1, by omega⟩
    rw [colophonref02_Offset.l0, if_neg (by omega)]
  | succ n ih =>
    intro k i place seen r hi hn hk h h0 h1 h2
    obtain ⟨k, rfl⟩ : ∃ m, k = m + 1 := ⟨k - 1, by omega⟩
    by_cases hlt : i < l.length
    · have hne : l.drop i ≠ [] := fun e => by rw [List.drop_eq_nil_iff] at e; omega
      rw [colophonref02_Offset.l0, if_pos (by omega), RDecode_f hb (by omega) (by omega) (by omega), Int.toNat_natCast, Option.bind_some]
      obtain ⟨q, rfl, he, h⟩ := h.split hne
      have hd := dec_ok (hb.drop i) he
      rw [List.length_drop] at hd
      obtain ⟨t, ht, htl⟩ := ref_units (dec (l.drop i)).1
      have hu := usz_range (dec (l.drop i)).1
      rw [ht, Option.bind_some, w64 (seen + t.length) (by omega) (by omega), if_neg (by omega), w64 _ (by omega) (by omega)]
      have e : ((i : Int) + (dec (l.drop i)).2.1) = ((i + (dec (l.drop i)).2.1.toNat : Nat) : Int) := by omega
      rw [List.drop_drop] at h
      rw [e, ih k (i + (dec (l.drop i)).2.1.toNat) place _ q (by omega) (by omega) (by omega) h (by omega) (by omega) (by omega)]
    · rw [colophonref02_Offset.l0, if_neg (by omega)]
theorem ROffset_l (l : List Int) (a : Int) (hb : Bytes l) (hs : l.length ≤ 1048576) (n : Nat) : ∀ (k : Nat) (i : Nat) (seen : Int) (r : List (Int × Int)), i ≤ l.length → l.length - i ≤ n → n + 62 < k → Cs (l.drop i) r → 0 ≤ seen → seen ≤ 2 * i → seen ≤ a → colophonref02_Offset.l0 k l a i seen i = some (i + off r (a - seen), 0) := by
  induction n with
  | zero =>
    intro k i seen r hi hn hk h h0 h1 h2
    obtain ⟨k, rfl⟩ : ∃ m, k = m + 1 := ⟨k - 1, by omega⟩
    obtain rfl : i = l.length := by omega
    rw [List.drop_length] at h
    obtain rfl := cs_nil h
    rw [colophonref02_Offset.l0, if_neg (by omega)]
    simp [off]
  | succ n ih =>
    intro k i seen r hi hn hk h h0 h1 h2
    obtain ⟨k, rfl⟩ : ∃ m, k = m + 1 := ⟨k - 1, by omega⟩
    by_cases hlt : i < l.length
    · have hne : l.drop i ≠ [] := fun e => by rw [List.drop_eq_nil_iff] at e; omega
      rw [colophonref02_Offset.l0, if_pos (by omega), RDecode_f hb (by omega) (by omega) (by omega), Int.toNat_natCast, Option.bind_some]
      obtain ⟨q, rfl, he, h⟩ := h.split hne
      have hd := dec_ok (hb.drop i) he
      rw [List.length_drop] at hd
      obtain ⟨t, ht, htl⟩ := ref_units (dec (l.drop i)).1
      have hu := usz_range (dec (l.drop i)).1
      have e : ((i : Int) + (dec (l.drop i)).2.1) = ((i + (dec (l.drop i)).2.1.toNat : Nat) : Int) := by omega
      rw [List.drop_drop] at h
      rw [ht, Option.bind_some, w64 (seen + t.length) (by omega) (by omega), w64 (i + (dec (l.drop i)).2.1) (by omega) (by omega), e]
      by_cases hc : seen + t.length ≤ a
      · rw [if_pos hc, ih k (i + (dec (l.drop i)).2.1.toNat) _ q (by omega) (by omega) (by omega) h (by omega) (by omega) (by omega)]
        simp only [off]
        rw [if_neg (by omega), show a - (seen + (t.length : Int)) = a - seen - usz (dec (l.drop i)).1 by omega]
        congr 2
        omega
      · rw [if_neg hc, ROffset_late l a hb hs n k (i + (dec (l.drop i)).2.1.toNat) _ _ q (by omega) (by omega) (by omega) h (by omega) (by omega) (by omega)]
        simp only [off]
        rw [if_pos (by omega)]
        simp
    · obtain rfl : i = l.length := by omega
      rw [List.drop_length] at h
      obtain rfl := cs_nil h
      rw [colophonref02_Offset.l0, if_neg (by omega)]
      simp [off]
theorem ROffset_f {y : List Int} {r : List (Int × Int)} (a : Int) (h0 : 0 ≤ a) (hb : Bytes y) (hs : y.length ≤ 1048576) (h : Cs y r) {k : Nat} (hk : y.length + 62 < k) : colophonref02_Offset.f k y a = some (off r a, 0) := by
  unfold colophonref02_Offset.f
  rw [RCheck_f y hb hs (by omega), Option.bind_some, chk_all hb h, if_pos rfl, if_neg (by omega)]
  have := ROffset_l y a hb hs y.length k 0 0 r (Nat.zero_le _) (by omega) hk (by simpa using h) (Int.le_refl _) (by omega) (by omega)
  rw [Int.sub_zero] at this
  simpa using this
end Go.Proofs.Ytjebkpcekkkbkaa.B
namespace Go.Proofs.Ytjebkpcekkkbkaa.B
open Go.RowKit Go.Shelf Go.Proofs Go.Proofs.YtjebkpcekkkbkaaW.PrintWords Go.Proofs.YtjebkpcekkkbkaaW.PrintLast Go.Proofs.YtjebkpcekkkbkaaW.PrintMore Go.Proofs.Ytjebkpcekkkbkaa.FBase
set_option maxRecDepth 100000 in
set_option maxHeartbeats 1000000 in
theorem UOffset_ok (A : Option Addr) (c : Nat) (s : List Int) (r : List (Int × Int)) (u : Int) (w : World) (hr : Kd.C (Kd.int .u8) w A s.length s) (hc : s.length ≤ c) (hb : Bytes s) (hs : s.length ≤ 1048576) (h : Cs s r) (h0 : 0 ≤ u) (h1 : u ≤ 9223372036854775807) :
    Calls Try.prog 90 #[.slice A s.length c, .int .i64 u] w fun e w' => e = .returned (.tuple #[.int .i64 (off r u), .int .i64 0]) ∧ Below w.heap.size w w' := by
  have HR := Aside0.mk hr
  have HC := Aside0.mk hc
  have HB := Aside0.mk hb
  have HK := Aside0.mk (show runes_Check.f (s.length + 9) s = some ((s.length : Int), 0) by rw [Check_f s hb hs (Nat.lt_succ_self _), chk_all hb h])
  have HCS := Aside0.mk h
  clear hr hc h hb
  go_enter Try.func90, Try.ntmps90
  go_wp2
  go_step3
  go_wp2_with (go_at_call 58; refine (runes_Check.calls (s.length + 9) _ _ s _ 0 _ (Kd.C_below HR.out (by repeat (first | exact Below.refl _ _ | apply below_alloc | apply pw_below_drewN | apply below_drew1))) HC.out HK.out).mono ?_; rintro e w' ⟨rfl, nc, rfl⟩)
  go_step3
  go_wp2
  go_loopw [1, 8] (fun s1 s8 W => ∃ (n : Nat) (v i : Int), W = w.drewN n ∧ s1 = .int .i64 v ∧ s8 = .int .i64 i ∧ 0 ≤ v ∧ v ≤ 9223372036854775807 ∧ 0 ≤ i ∧ i ≤ s.length ∧ Aside0 (∃ q, Cs (s.drop i.toNat) q ∧ i + off q v = off r u)) (fun _ s8 _ => s.length - (intOf s8).toNat)
  case atStart => exact ⟨nc, u, 0, rfl, rfl, rfl, h0, h1, by omega, by omega, ⟨r, by simpa using HCS.out, by omega⟩⟩
  case round =>
    obtain ⟨n, v, i, rfl, rfl, rfl, hv0, hv1, hi0, hi1, HQ⟩ := hrel
    obtain ⟨q, hq, hoff⟩ := HQ.out
    by_cases hlt : i < s.length
    · have hne : s.drop i.toNat ≠ [] := fun e => by rw [List.drop_eq_nil_iff] at e; omega
      obtain ⟨q2, rfl, he, hq2⟩ := hq.split hne
      have hd := dec_ok (HB.out.drop i.toNat) he
      rw [List.length_drop] at hd
      have hdf := Decode_f s i HB.out (by omega) hi0 hlt
      have hu := usz_range (dec (s.drop i.toNat)).1
      have hsz := size_f (dec (s.drop i.toNat)).1
      rw [show dec (s.drop i.toNat) = ((dec (s.drop i.toNat)).1, (dec (s.drop i.toNat)).2.1, (dec (s.drop i.toNat)).2.2) from rfl, he] at hdf
      simp only [off] at hoff
      rw [List.drop_drop] at hq2
      have hq3 : Cs (s.drop (i + (dec (s.drop i.toNat)).2.1).toNat) q2 := by rw [show (i + (dec (s.drop i.toNat)).2.1).toNat = i.toNat + (dec (s.drop i.toNat)).2.1.toNat by omega]; exact hq2
      clear HQ hq hne hq2 he
      generalize (dec (s.drop i.toNat)).2.1 = nn at *
      generalize (dec (s.drop i.toNat)).1 = cc at *
      have HD := Aside0.mk hdf
      have HU := Aside0.mk hsz
      have HQ3 := Aside0.mk hq3
      have HO := Aside0.mk hoff
      clear hdf hsz hq3 hoff
      generalize usz cc = uu at *
      by_cases hgt : v < uu
      · go_wp2_with (first | (go_at_call 58; refine (runes_Check.calls (s.length + 9) _ _ s _ 0 _ (Kd.C_below HR.out (by repeat (first | exact Below.refl _ _ | apply below_alloc | apply pw_below_drewN | apply below_drew1))) HC.out HK.out).mono ?_; rintro e w' ⟨rfl, nc, rfl⟩) | (go_at_call 85; refine (runes_Decode.calls 8 _ _ s i _ _ _ _ (Kd.C_below HR.out (by repeat (first | exact Below.refl _ _ | apply below_alloc | apply pw_below_drewN | apply below_drew1))) HC.out HD.out).mono ?_; rintro e w' ⟨rfl, nd, rfl⟩) | (go_at_call 114; refine (units_size.calls cc _ _ HU.out).mono ?_; rintro e w' ⟨rfl, ns, rfl⟩))
        first | rw [Exit.noGoto_ret] | skip
        go_ret2
        have := HO.out
        rw [if_pos hgt] at this
        exact ⟨by rw [← this]; simp, (by repeat (first | exact Below.refl _ _ | apply below_alloc | apply pw_below_drewN | apply below_drew1))⟩
      · go_wp2_with (first | (go_at_call 58; refine (runes_Check.calls (s.length + 9) _ _ s _ 0 _ (Kd.C_below HR.out (by repeat (first | exact Below.refl _ _ | apply below_alloc | apply pw_below_drewN | apply below_drew1))) HC.out HK.out).mono ?_; rintro e w' ⟨rfl, nc, rfl⟩) | (go_at_call 85; refine (runes_Decode.calls 8 _ _ s i _ _ _ _ (Kd.C_below HR.out (by repeat (first | exact Below.refl _ _ | apply below_alloc | apply pw_below_drewN | apply below_drew1))) HC.out HD.out).mono ?_; rintro e w' ⟨rfl, nd, rfl⟩) | (go_at_call 114; refine (units_size.calls cc _ _ HU.out).mono ?_; rintro e w' ⟨rfl, ns, rfl⟩))
        go_roundw
        case measure => simp [intOf]; omega
        case rel =>
          have := HO.out
          rw [if_neg (by omega)] at this
          exact ⟨_, v - uu, i + nn, by first | rfl | simp only [World.drewN_drewN], rfl, rfl, by omega, by omega, by omega, by omega, ⟨q2, HQ3.out, by omega⟩⟩
    · obtain rfl : i = s.length := by omega
      rw [Int.toNat_natCast, List.drop_length] at hq
      obtain rfl := cs_nil hq
      have HO := Aside0.mk hoff
      clear hoff hq HQ
      go_wp2
      first | rw [Exit.noGoto_ret] | skip
      go_ret2
      exact ⟨by rw [← HO.out]; simp [off], (by repeat (first | exact Below.refl _ _ | apply below_alloc | apply pw_below_drewN | apply below_drew1))⟩
noncomputable def chars (y : List Int) : List (Int × Int) := open Classical in if h : ∃ r, Cs y r then h.choose else []
theorem V.chars {y : List Int} (h : V y) : Cs y (chars y) := by
  have h1 := h.cs
  unfold B.chars
  rw [dif_pos h1]
  exact h1.choose_spec
theorem chars_is {y : List Int} {r : List (Int × Int)} (h : Cs y r) : chars y = r := (h.v.chars).uniq h
def seg (l : List Int) (x : Ln) : List Int := (l.take x.f1.toNat).drop x.f0.toNat
def IsMap (W : World) (m : Nat) (l : List Int) : Prop :=
  ∃ a A c, W.heap[m]? = some (.cells #[.pointer (some ⟨a, 0, none⟩), .slice A l.length c] 103 (0, 0)) ∧ IsIdx W a (lns l 0 0) ∧ l.length ≤ c ∧ Kd.C (Kd.int .u8) W A l.length l
theorem IsMap.below {W W1 : World} {m : Nat} {l : List Int} (h : IsMap W m l) (hb : Below W.heap.size W W1) : IsMap W1 m l := by
  obtain ⟨a, A, c, h1, h2, h3, h4⟩ := h
  exact ⟨a, A, c, (hb.block m (blk_lt h1)).trans h1, h2.below hb, h3, Kd.C_below h4 hb⟩
theorem keeps_map (m : Nat) (l : List Int) : Keeps (fun W => IsMap W m l) := fun _ _ h hb => h.below hb
theorem none_map (w : World) (m : Nat) (l : List Int) (h : IsMap w m l) : Calls Try.prog 87 #[.pointer (some ⟨m, 0, none⟩)] w fun e w' => e = .returned (.bool false) ∧ w = w' := by
  obtain ⟨a, A, c, h1, _, _, _⟩ := h
  have h2 : w.cell? ⟨m, 0, none⟩ = some (.pointer (some ⟨a, 0, none⟩)) := (blk_cell h1 0).trans rfl
  clear h1
  go_enter Try.func87, Try.ntmps87
  go_wp2
  go_ret
  exact ⟨rfl, rfl⟩
def NoMap (W : World) (p : Option Addr) : Prop := p = none ∨ ∃ m, p = some ⟨m, 0, none⟩ ∧ IsBlk W m (.cells #[.pointer none, .slice none 0 0] 103)
theorem NoMap.below {W W1 : World} {p : Option Addr} (h : NoMap W p) (hb : Below W.heap.size W W1) : NoMap W1 p := by
  rcases h with h | ⟨m, h, hI⟩
  · exact .inl h
  · exact .inr ⟨m, h, hI.below hb⟩
end Go.Proofs.Ytjebkpcekkkbkaa.B
