/-
  SetParts, walked.
-/
import Derived.Test.YtingbjdpjimikaaZT343
set_option linter.unusedSimpArgs false
set_option linter.unusedVariables false
namespace Go.Proofs.Ytingbjdpjimikaa.B
open Go.RowKit Go.Proofs Go.Proofs.YtingbjdpjimikaaW.PrintWords Go.Proofs.YtingbjdpjimikaaW.PrintLast Go.Proofs.YtingbjdpjimikaaW.PrintMore Go.Proofs.Ytingbjdpjimikaa.FBase
theorem ownsMap_move {H : Type} {P : Program} {k : TypeId} {R : Value → Option (DataW H × List MemPlace)} {W W' : World} {b n : Nat} {D : DataW H} (h : W.ownsMap P k R b n D) (e : W'.heap[b]? = W.heap[b]?) : W'.ownsMap P k R b n D := by
  obtain ⟨es, clock, hb, r⟩ := h
  exact ⟨es, clock, e.trans hb, r⟩
def idF (ks : List Int) : Lit → Option Int
  | .int .u32 x => if ks.idxOf x = ks.length then none else some (ks.idxOf x : Nat)
  | _ => none
theorem idF_nil (q : Lit) : (none : Option Int) = idF [] q := by
  unfold idF
  split <;> rfl
theorem or_step (x k : Nat) (hx : x < 2 ^ k) (hk : k < 32) : Go.bits BinOp.or .u32 (x : Int) (2 ^ k % 4294967296) = ((x + 2 ^ k : Nat) : Int) := by
  have hp : 2 ^ k < 2 ^ 32 := Nat.pow_lt_pow_right (by decide) hk
  have h1 : (2 : Int) ^ k % 4294967296 = ((2 ^ k : Nat) : Int) := by
    have e : (2 : Int) ^ k = ((2 ^ k : Nat) : Int) := by simp
    rw [e]
    omega
  rw [h1, (Go.bits_nat .u32 32 (by decide) (fun n h0 h1 => by rw [IntKind.wrap_u32]; omega) x (2 ^ k) (by omega) hp).2]
  have h2 := Nat.two_pow_add_eq_or_of_lt hx 1
  rw [Nat.mul_one] at h2
  rw [Nat.or_comm, ← h2, Nat.add_comm]
theorem zeroI (W : World) : (zeroValue 3).run Try.prog W = .ok (.int .i64 0) W := by kernel_rfl
theorem key_u32 {x : Int} (h0 : 0 ≤ x) (h1 : x < 4294967296) : keyOf Try.prog 64 (.int .u32 x) = some (.int .u32 x) := by
  have hw : (Lit.int .u32 x).wf = true := WalkArith.wf_u32 ⟨h0, by omega⟩
  simp [keyOf, mapKey, Try.underlying64, hw]
theorem run_look {W : World} {gm n : Nat} {D : DataW Unit} {f : Lit → Option Int} (h : W.ownsMap Try.prog 64 (plainElem Try.prog 3) gm n D) (hm : MpI D f) (x : Int) (h0 : 0 ≤ x) (h1 : x < 4294967296) :
    Sem.run Try.prog (Instr.lookup 62 (.map (some gm)) (.int .u32 x) true) W = .ok (.tuple #[.int .i64 ((f (.int .u32 x)).getD 0), .bool (f (.int .u32 x)).isSome]) W := by
  obtain ⟨v, ps, hrun, hv⟩ := h.look_ok (Maps.int_keyed Try.underlying64) Try.underlying62 (zeroI W) (zd := .lit (.int .i64 0)) (zp := []) (plainElem_int Try.underlying3 (by decide)) (key_u32 h0 h1)
  obtain ⟨c, rfl, hc, _⟩ := plainElem_int_inv Try.underlying3 hv
  have hc1 := congrArg Prod.fst hc
  cases hf : f (.int .u32 x) with
  | none =>
    have hn := hm.no _ hf
    rw [hn] at hrun
    rw [Maps.atKey_of_not_has hn] at hc1
    cases hc1
    exact hrun
  | some d =>
    obtain ⟨hy, ha⟩ := hm.yes _ _ hf
    rw [hy] at hrun
    rw [ha] at hc1
    cases hc1
    exact hrun
theorem run_upd {W : World} {gm n : Nat} {D : DataW Unit} (h : W.ownsMap Try.prog 64 (plainElem Try.prog 3) gm n D) (x : Int) (h0 : 0 ≤ x) (h1 : x < 4294967296) (c : Int) (c0 : 0 ≤ c) (c1 : c ≤ 9223372036854775807) (hn : n < maxLen) :
    ∃ w', Sem.run Try.prog (Instr.mapUpdate 62 (.map (some gm)) (.int .u32 x) (.int .i64 c)) W = .ok () w' ∧ w'.ownsMap Try.prog 64 (plainElem Try.prog 3) gm (n + 1) (D.put (.int .u32 x) (.lit (.int .i64 c))) ∧ W.mapTurned w' gm :=
  h.store (Maps.int_keyed Try.underlying64) Try.underlying62 hn (key_u32 h0 h1) (plainElem_int Try.underlying3 (WalkArith.wf_i64 ⟨by omega, c1⟩))
theorem idxOf_app (ks : List Int) (x y : Int) (h : ks.idxOf y = ks.length) : (ks ++ [y]).idxOf x = if x = y then ks.length else if ks.idxOf x = ks.length then ks.length + 1 else ks.idxOf x := by
  have hny : y ∉ ks := fun hm => by
    have := List.idxOf_lt_length_iff.2 hm
    omega
  by_cases hxy : x = y
  · subst hxy
    rw [if_pos rfl, List.idxOf_append, if_neg hny]
    simp
  · rw [if_neg hxy, List.idxOf_append]
    by_cases hx : x ∈ ks
    · rw [if_pos hx, if_neg (by have := List.idxOf_lt_length_iff.2 hx; omega)]
    · rw [if_neg hx, List.idxOf_eq_length hx, if_pos rfl]
      have : [y].idxOf x = 1 := by
        rw [List.idxOf_eq_length (by simpa using hxy)]
        rfl
      omega
open Classical in
theorem idF_put {D : DataW Unit} {ks : List Int} (h : MpI D (idF ks)) {y : Int} (hy : ks.idxOf y = ks.length) {n : Nat} (hn : ks.length = n) : MpI (D.put (.int .u32 y) (.lit (.int .i64 n))) (idF (ks ++ [y])) := by
  subst hn
  refine (h.put (k := .int .u32 y) trivial (ks.length : Int)).congr fun q => ?_
  by_cases hq : q = .int .u32 y
  · subst hq
    rw [if_pos rfl]
    show _ = if (ks ++ [y]).idxOf y = (ks ++ [y]).length then none else some ((ks ++ [y]).idxOf y : Int)
    rw [idxOf_app ks y y hy, if_pos rfl, if_neg (by simp)]
  · rw [if_neg hq]
    unfold idF
    split
    · rename_i x
      have hxy : x ≠ y := fun e => hq (by rw [e])
      rw [idxOf_app ks x y hy, if_neg hxy, List.length_append]
      have hle := List.idxOf_le_length (a := x) (l := ks)
      by_cases hx : ks.idxOf x = ks.length
      · rw [if_pos hx, if_pos hx, if_pos (by simp)]
      · rw [if_neg hx, if_neg hx, if_neg (by simp; omega)]
    · rfl
theorem infoSS : (Try.prog.info? 22).map (fun i => (i.zero, i.size, i.bytes)) = some (some (.slice none 0 0), 1, 24) := by kernel_rfl
theorem frozen_kept {W W2 : World} {S : Nat → Prop} {p : Addr} {v : Value} (hc : W.cell? p = some v) (hf : W.frozen? p = false) (hk : Kept W W2 S) (hne : ¬ S p.block) : W2.frozen? p = false := by
  have h := hk.2 p.block (World.block_lt_of_cell? W p hc) hne
  simp only [World.frozen?] at hf ⊢
  rw [h]
  exact hf
theorem put_c (oki : Nat → Prop) (v : Value) (s : List Sp) (a a2 : Int) (w W0 W : World) (hB : Below w.heap.size w W0) (hR : Kd.R k39 39 W0 w.heap.size oki v s) (hs : s.length ≤ 30000) (hW : Below W0.heap.size W0 W) :
    Calls Try.prog 48 #[v, .int .i64 a, .int .i64 a2] W fun e w' => ∃ A5 c5, e = .returned (.slice A5 (sAdd s a a2).length c5) ∧ Kd.R k39 39 w' w.heap.size (fun k => oki k ∨ W0.heap.size ≤ k) (.slice A5 (sAdd s a a2).length c5) (sAdd s a a2) ∧ Below w.heap.size w w' ∧ Kept W0 w' oki := by
  refine (charset_put.calls oki v s a a2 _ w W (below_step hB hW) (Kd.R_below hR hW) (put_eq s a a2 (by omega))).mono ?_
  rintro e w' ⟨v5, rfl, h1, h2, h3⟩
  obtain ⟨A5, c5, e5⟩ := Kd.R_slice h1
  subst e5
  exact ⟨A5, c5, rfl, Kd.R_mono h1 (fun k hk => hk.imp id (fun h => Nat.le_trans hW.size h)), h2, (Kept.of_below hW oki).then_ h3 (fun k hk => .inl hk)⟩
theorem set_bound {out : List (List Sp)} {j n : Nat} {s : List Sp} (h : ∀ t ∈ out, t.length ≤ j) (hs : out.getD n [] = s) (a b : Int) (n' : Nat) : ∀ t ∈ out.set n' (sAdd s a b), t.length ≤ j + 1 := by
  intro t ht
  rcases List.mem_or_eq_of_mem_set ht with h1 | h1
  · have := h t h1; omega
  · rw [h1]
    have h2 := sAdd_len s a b
    have h3 : s.length ≤ j := by
      rw [← hs, List.getD_eq_getElem?_getD]
      cases hg : out[n]? with
      | none => simp
      | some q => exact h q (List.mem_of_getElem? hg)
    omega
theorem ownsMap_set {H : Type} {P : Program} {k : TypeId} {R : Value → Option (DataW H × List MemPlace)} {W : World} {b n : Nat} {D : DataW H} (h : W.ownsMap P k R b n D) {p : Addr} (hp : b ≠ p.block) (u : Value) : (W.setCell p u).ownsMap P k R b n D :=
  ownsMap_move h (Below.heap_setCell W p u b hp)
theorem row_back {W7 w5 : World} {base B g7 n c7 n7 : Nat} {out7 : List (List Sp)} {oki : Nat → Prop} {vi : Value} {A5 : Option Addr} {c5 : Nat} {s' : List Sp}
    (hH : Kd.H (Kd.slice 39 k39) 22 W7 base (fun k => B ≤ k) (.slice (some ⟨g7, 0, none⟩) n c7) out7 (n7 : Int) (fun k => oki k ∨ B ≤ k ∧ W7.heap.size ≤ k) [vi]) (hk : Kept W7 w5 oki) (hR : Kd.R k39 39 w5 base (fun k => oki k ∨ W7.heap.size ≤ k) (.slice A5 s'.length c5) s')
    (ho : ∀ k, oki k → B ≤ k ∧ k ≠ g7) (hB : B ≤ W7.heap.size) (hg : g7 < W7.heap.size) (hn : n7 < out7.length) (hlen : n = out7.length) :
    Kd.S (Kd.slice 39 k39) 22 (w5.setCell ⟨g7, n7, none⟩ (.slice A5 s'.length c5)) base (fun k => B ≤ k) (.slice (some ⟨g7, 0, none⟩) (out7.set n7 s').length c7) (out7.set n7 s') := by
  subst hlen
  rw [List.length_set]
  have h5 := Kd.H_kept hH hk (fun k _ hn hS => hn (.inl hS))
  obtain ⟨h6, hg6⟩ := Kd.H_seg h5 (by omega) (by omega) (seg := [.slice A5 s'.length c5]) (j := 0) (Nat.le_refl 1) (fun q hq => by rw [List.mem_singleton.1 hq]; rfl)
  have hM : Kd.M (Kd.slice 39 k39) (w5.setCells g7 ((n7 : Int).toNat * (Kd.sz (Kd.slice 39 k39)) + 0) [.slice A5 s'.length c5]) base (fun k => oki k ∨ B ≤ k ∧ W7.heap.size ≤ k) s' ([vi].take 0 ++ [.slice A5 s'.length c5] ++ [vi].drop (0 + [Value.slice A5 s'.length c5].length)) :=
    ⟨_, rfl, Kd.R_grown (Kd.R_mono hR (fun k hk => hk.imp id (fun h => ⟨Nat.le_trans hB h, h⟩))) hg6 (fun k hk he => by
      injection he with he
      rcases hk with h | h
      · exact (ho k h).2 he
      · omega)⟩
  have h7 := Kd.H_back h6 hM (fun k hk => hk)
  rw [Int.toNat_natCast, show Kd.sz (Kd.slice 39 k39) = 1 from rfl, Nat.mul_one, Nat.add_zero] at h7
  exact h7
set_option maxRecDepth 100000 in
set_option maxHeartbeats 4000000 in
theorem Parts_many (A : Option Addr) (c : Nat) (l : List (List Sp)) (w : World) (hr : Kd.C (Kd.slice 39 k39) w A l.length l) (hc : l.length ≤ c) (hm : 32 < l.length) : Calls Try.prog 30 #[.slice A l.length c] w fun e w' => ∃ v : Value, e = .returned (.tuple #[v, .int .i64 (sParts l).2]) ∧ Kd.S (Kd.slice 39 k39) 22 w' w.heap.size (fun _ => True) v (sParts l).1 ∧ Below w.heap.size w w' := by
  have g1 : decide (32 < (l.length : Int)) = true := decide_eq_true (by omega)
  rw [show sParts l = ([], 5) from if_pos hm]
  clear hr
  go_enter Try.func30, Try.ntmps30
  go_wp2
  go_ret2
  exact ⟨_, rfl, Kd.S_nil _ _ _ _ _, Below.refl _ _⟩
set_option maxRecDepth 100000 in
set_option maxHeartbeats 4000000 in
theorem Parts_one (A : Option Addr) (c : Nat) (l : List (List Sp)) (w : World) (hr : Kd.C (Kd.slice 39 k39) w A l.length l) (hc : l.length ≤ c) (hm : ¬ 32 < l.length) : Calls Try.prog 30 #[.slice A l.length c] w fun e w' => ∃ v : Value, e = .returned (.tuple #[v, .int .i64 (sParts l).2]) ∧ Kd.S (Kd.slice 39 k39) 22 w' w.heap.size (fun _ => True) v (sParts l).1 ∧ Below w.heap.size w w' := by
  have g1 : decide (32 < (l.length : Int)) = false := decide_eq_false (by omega)
  have HS : Aside0 (Sta w w (fun W => Kd.C (Kd.slice 39 k39) W A l.length l ∧ True)) := ⟨⟨Below.refl _ _, ⟨hr, trivial⟩, keeps_and (keeps_C _ _ _ _) (fun _ _ h _ => h)⟩⟩
  have hmm := @run_makeMap Try.prog
  have HRW := Aside0.mk hr
  clear hr
  go_enter Try.func30, Try.ntmps30
  go_wp2
  go_loopw [22] (fun s22 W => ∃ k : Nat, s22 = .int .i64 k ∧ k ≤ l.length ∧ Aside0 (∀ i (hi : i < k) (h : i < l.length), sCheck l[i] = 0) ∧ Aside0 (Sta w W (fun W => Kd.C (Kd.slice 39 k39) W A l.length l ∧ True))) (fun s22 _ => l.length - (intOf s22).toNat)
  case atStart => exact ⟨0, rfl, Nat.zero_le _, ⟨fun i hi => absurd hi (Nat.not_lt_zero _)⟩, HS⟩
  case round =>
    clear HS
    obtain ⟨k, rfl, hk, HZ, HS⟩ := hrel
    by_cases h1 : k < l.length
    · have g2 : decide (k < l.length) = true := decide_eq_true h1
      obtain ⟨ad, A0, c0, e0, hcell, hl0c, hC0⟩ := at_L2 HS.out.now.1 (k : Int) (by omega) (by omega)
      cases e0
      rw [Int.toNat_natCast] at hcell
      rw [rdL h1] at hcell hl0c hC0
      have hcalls : ∀ W, Below wr.heap.size wr W → Calls Try.prog 14 #[.slice A0 l[k].length c0] W fun e w' => e = .returned (.int .i64 (sCheck l[k])) ∧ Below W.heap.size W w' := fun W hW =>
        charset_Check.calls (l[k].length + 1) A0 c0 l[k] _ W (Kd.C_below hC0 hW) hl0c (check_ff l[k] (Nat.lt_succ_self _))
      obtain ⟨r, hrr⟩ : ∃ r, sCheck l[k] = r := ⟨_, rfl⟩
      obtain ⟨n0, hn0⟩ : ∃ n, l[k].length = n := ⟨_, rfl⟩
      rw [hrr, hn0] at hcalls
      rw [hn0] at hcell
      have HCK := Aside0.mk hcalls
      have HRR := Aside0.mk hrr
      have hwk : wrap64 ((k : Int) + 1) = (k : Int) + 1 := by unfold wrap64; omega
      clear hcalls hrr hC0 hn0 hl0c
      by_cases hz : r = 0
      · subst hz
        have HZ2 := Aside0.mk (show ∀ i (hi : i < k + 1) (h : i < l.length), sCheck l[i] = 0 from fun i hi h => by
          by_cases hik : i = k
          · subst hik; exact HRR.out
          · exact HZ.out i (by omega) h)
        clear HZ
        go_wp2_with (go_at_call 14; refine (HCK.out _ (by repeat (first | exact Below.refl _ _ | apply zq2 | apply zq3 | apply zq4 | apply zq5))).mono ?_; rintro e w' ⟨rfl, hb⟩; have m_ := Aside0.mk (HS.out.call (by repeat (first | exact Below.refl _ _ | apply zq2 | apply zq3 | apply zq4 | apply zq5)) hb); clear HS hb; have HS := m_; clear m_)
        go_roundw
        case measure => (first | rw [hwk] | skip); show l.length - ((k : Int) + 1).toNat < l.length - (k : Int).toNat; omega
        case rel => exact ⟨k + 1, by (first | rw [hwk] | skip); rfl, by omega, HZ2, HS⟩
      · have hz1 : (r != 0) = true := bne_iff_ne.mpr hz
        have hfin : sParts l = ([], r) := by
          unfold sParts
          have := firstErr_at h1 (fun i hi => HZ.out i hi (by omega)) (by rw [HRR.out]; exact hz)
          rw [if_neg hm, this, HRR.out, if_pos hz]
        have HFIN := Aside0.mk hfin
        clear hfin HZ hz
        go_wp2_with (go_at_call 14; refine (HCK.out _ (by repeat (first | exact Below.refl _ _ | apply zq2 | apply zq3 | apply zq4 | apply zq5))).mono ?_; rintro e w' ⟨rfl, hb⟩; have m_ := Aside0.mk (HS.out.call (by repeat (first | exact Below.refl _ _ | apply zq2 | apply zq3 | apply zq4 | apply zq5)) hb); clear HS hb; have HS := m_; clear m_)
        go_ret2
        rw [HFIN.out]
        exact ⟨_, rfl, Kd.S_nil _ _ _ _ _, HS.out.bel⟩
    · have g2 : decide (k < l.length) = false := decide_eq_false h1
      have hkl : k = l.length := by omega
      subst hkl
      have hz : ∀ s ∈ l, sCheck s = 0 := fun s hs => by
        obtain ⟨i, hi, rfl⟩ := List.mem_iff_getElem.1 hs
        exact HZ.out i hi hi
      have h256 : ∀ s ∈ l, s.length ≤ 256 := fun s hs => ((sCheck_ok s).1 (hz s hs)).1
      have hmay := flat_may hz
      have hfin : sParts l = (if (pFold (kindOf l) (cutsOf l.flatten) ([], [])).2.any (fun s => decide (256 < s.length)) then ([], 5) else ((pFold (kindOf l) (cutsOf l.flatten) ([], [])).2, 0)) := by
        unfold sParts
        rw [if_neg hm, if_neg (fun h => h (firstErr_all hz))]
      obtain ⟨m, hm1, hm2⟩ : ∃ m, (cutsOf l.flatten).length = m + 1 ∧ m ≤ 20000 := by
        have h8 : (0 : Int) ∈ cutsOf l.flatten := ((cutsOf_ok _ hmay).2 0).2 (.inl (.inl rfl))
        have h9 := List.length_pos_of_mem h8
        have h7 := cuts_len l.flatten
        have h6 := flat_len h256 l.length
        rw [List.take_length] at h6
        exact ⟨(cutsOf l.flatten).length - 1, by omega, by omega⟩
      have hct := fun (W : World) (hW : Below wr.heap.size wr W) => cutsL_ok A c l W (Kd.C_below HS.out.now.1 hW) (by omega) h256 hmay
      obtain ⟨cu, hcu⟩ : ∃ cu, cutsOf l.flatten = cu := ⟨_, rfl⟩
      obtain ⟨f, hf⟩ : ∃ f, kindOf l = f := ⟨_, rfl⟩
      have HFX := Aside0.mk (show ∀ x, f x = (kindP l x l.length : Nat) from fun x => by rw [← hf]; rfl)
      rw [hcu, hf] at hfin
      rw [hcu] at hct hm1
      rw [hm1] at hct
      have HFIN := Aside0.mk hfin
      have HCT := Aside0.mk hct
      have HLM := Aside0.mk hm1
      have hwa : wrap64 (m : Int) = (m : Int) := by unfold wrap64; omega
      have hwb : wrap64 ((m : Int) + 1 - 1) = (m : Int) := by unfold wrap64; omega
      clear hfin hct hm1 hcu hf hmay h256 hz HZ
      obtain ⟨wo, rfl⟩ : ∃ wo : World, wo = wr := ⟨_, rfl⟩
      have hwo : w.heap.size ≤ wo.heap.size := HS.out.bel.size
      go_wp2_with (go_at_call 47; refine (HCT.out _ (by repeat (first | exact Below.refl _ _ | apply zq2 | apply zq3 | apply zq4 | apply zq5))).mono ?_; rintro e w3 ⟨A3, c3, rfl, hR, hb⟩; have HMP := Aside0.mk (ownsMap_move (World.ownsMap_made (H := Unit) wo Try.prog 64 (plainElem Try.prog 3)) (hb.block wo.heap.size (by simp))); have hgm : wo.heap.size < w3.heap.size := (by have h9 := hb.size; rw [World.size_alloc] at h9; omega); have HCR := Aside0.mk hR; have m_ := Aside0.mk (HS.out.call (by repeat (first | exact Below.refl _ _ | apply zq2 | apply zq3 | apply zq4 | apply zq5)) hb); clear HS hb; have HS := m_; clear m_; have hcut := cutI m A3 c3 (Kd.R_reads' HCR.out).2.1; obtain ⟨g, c9, e3, hgc, hgl, _⟩ := Kd.R_form HCR.out (by have := HLM.out; omega); rw [HLM.out] at e3; cases e3; clear hR)
      go_loopw [7, 41] (fun s7 s41 W => ∃ (j : Nat) (A2 : Option Addr) (c2 n : Nat) (ks : List Int) (out : List (List Sp)) (D : DataW Unit), s41 = .int .i64 j ∧ s7 = .slice A2 out.length c2 ∧ j ≤ m ∧ n ≤ j ∧ Aside0 (ks.length = out.length ∧ out.length ≤ j ∧ ∀ s ∈ out, s.length ≤ j) ∧ Aside0 (pFold f (cu.drop j) (ks, out) = pFold f cu ([], [])) ∧ Aside0 (W.ownsMap Try.prog 64 (plainElem Try.prog 3) wo.heap.size n D) ∧ Aside0 (MpI D (idF ks)) ∧ Aside0 (Kd.S (Kd.slice 39 k39) 22 W w.heap.size (fun k => w3.heap.size ≤ k) (.slice A2 out.length c2) out) ∧ Aside0 (Kept w3 W (fun k => k = wo.heap.size)) ∧ Aside0 (Below w.heap.size w W)) (fun _ s41 _ => m - (intOf s41).toNat)
      case atStart => exact ⟨0, none, 0, 0, [], [], _, rfl, rfl, Nat.zero_le _, Nat.zero_le _, ⟨rfl, Nat.le_refl _, fun s hs => nomatch hs⟩, ⟨rfl⟩, HMP, ⟨MpI.empty.congr idF_nil⟩, ⟨Kd.S_nil _ _ _ _ _⟩, ⟨Kept.refl _ _⟩, ⟨HS.out.bel⟩⟩
      case round =>
        clear HMP
        obtain ⟨j, A2, c2, n, ks, out, D, rfl, rfl, hj, hn, HKS, HPF, HMP, HMI, HO, HKP, HBW⟩ := hrel
        by_cases h2 : j < m
        · have g3 : decide (j < m) = true := decide_eq_true h2
          obtain ⟨wi, rfl⟩ : ∃ wi : World, wi = wr := ⟨_, rfl⟩
          have hlm := HLM.out
          have hk0 : j < cu.length := by omega
          have hk1 : j + 1 < cu.length := by omega
          have z0 := (cell_own HCR.out j (by omega)).1
          have z1 := (cell_own HCR.out (j + 1) (by omega)).1
          have e0 : rd cu (j : Int) = cu[j] := rdI hk0
          have e1 : rd cu ((j + 1 : Nat) : Int) = cu[j + 1] := rdI hk1
          rw [e0] at z0
          rw [e1] at z1
          have hpf := HPF.out
          rw [List.drop_eq_getElem_cons hk0, List.drop_eq_getElem_cons hk1, show pFold f (cu[j] :: cu[j + 1] :: cu.drop (j + 1 + 1)) (ks, out) = pFold f (cu[j + 1] :: cu.drop (j + 1 + 1)) (pAdd (f cu[j]) cu[j] cu[j + 1] (ks, out)) from rfl, ← List.drop_eq_getElem_cons hk1] at hpf
          obtain ⟨a, ha⟩ : ∃ a, cu[j] = a := ⟨_, rfl⟩
          obtain ⟨a2, ha2⟩ : ∃ a, cu[j + 1] = a := ⟨_, rfl⟩
          rw [ha] at z0 hpf
          rw [ha2] at z1 hpf
          have hne : ¬ g = wo.heap.size := by simp at hgc; omega
          have x0 := cell_kept z0 HKP.out hne
          have x1 := cell_kept z1 HKP.out hne
          rw [HFX.out] at hpf
          have HPF2 := Aside0.mk hpf
          have HCL := Aside0.mk (show Kd.C (Kd.slice 39 k39) wi A l.length l from Kd.C_below HRW.out HBW.out)
          have hx1k := Aside0.mk (And.intro z1 hne)
          clear hpf HPF e0 e1 hlm ha ha2 hk0 hk1 z0 z1
          go_wp2
          go_loopw [12, 48] (fun s12 s48 W => ∃ k : Nat, s48 = .int .i64 k ∧ s12 = .int .u32 (kindP l a k : Nat) ∧ k ≤ l.length ∧ Aside0 (Below wi.heap.size wi W)) (fun _ s48 _ => l.length - (intOf s48).toNat)
          case atStart => exact ⟨0, rfl, rfl, Nat.zero_le _, ⟨Below.refl _ _⟩⟩
          case round =>
            obtain ⟨k, rfl, rfl, hk2, HB⟩ := hrel
            by_cases h3 : k < l.length
            · have g4 : decide (k < l.length) = true := decide_eq_true h3
              obtain ⟨ad, A0, c0, e0, hcell, hl0c, hC0⟩ := at_L2 (Kd.C_below HCL.out HB.out) (k : Int) (by omega) (by omega)
              cases e0
              rw [Int.toNat_natCast] at hcell
              rw [rdL h3] at hcell hl0c hC0
              have hstep : kindP l a (k + 1) = kindP l a k + (if sHas l[k] a then 2 ^ k else 0) := by
                rw [kindP, List.getD_eq_getElem?_getD, List.getElem?_eq_getElem h3]
                rfl
              have hlt := kindP_lt l a k
              have hp2 : 2 ^ k ≤ 2 ^ 31 := Nat.pow_le_pow_right (by decide) (by omega)
              have hh := fun W (hW : Below wr.heap.size wr W) => Has_ok A0 c0 l[k] a W (Kd.C_below hC0 hW)
              obtain ⟨s0, hs0⟩ : ∃ s, l[k] = s := ⟨_, rfl⟩
              rw [hs0] at hstep hcell hh
              obtain ⟨y, hy⟩ : ∃ y, sHas s0 a = y := ⟨_, rfl⟩
              rw [hy] at hstep hh
              have HH := Aside0.mk hh
              have HST := Aside0.mk hstep
              clear hh hs0 hstep hy hC0 hl0c
              cases y
              · go_wp2_with (go_at_call 16; refine (HH.out _ (by repeat (first | exact Below.refl _ _ | apply below_alloc | apply pw_below_drewN | apply below_drew1))).mono ?_; rintro e w' ⟨rfl, hb⟩; have m_ := Aside0.mk (below_step HB.out hb); clear HB hb; have HB := m_; clear m_)
                go_roundw
                case measure => show l.length - ((k : Int) + 1).toNat < l.length - (k : Int).toNat; omega
                case rel => exact ⟨k + 1, rfl, by rw [HST.out]; rfl, by omega, HB⟩
              · go_wp2_with (go_at_call 16; refine (HH.out _ (by repeat (first | exact Below.refl _ _ | apply below_alloc | apply pw_below_drewN | apply below_drew1))).mono ?_; rintro e w' ⟨rfl, hb⟩; have m_ := Aside0.mk (below_step HB.out hb); clear HB hb; have HB := m_; clear m_)
                go_roundw
                case measure => show l.length - ((k : Int) + 1).toNat < l.length - (k : Int).toNat; omega
                case rel => exact ⟨k + 1, rfl, by rw [or_step _ _ hlt (by omega), HST.out]; rfl, by omega, HB⟩
            · have g4 : decide (k < l.length) = false := decide_eq_false h3
              have hkl2 : k = l.length := by omega
              subst hkl2
              have HMP1 := Aside0.mk (ownsMap_move HMP.out (HB.out.block wo.heap.size (Nat.lt_of_lt_of_le hgm HKP.out.1)))
              have HO1 := Aside0.mk (Kd.S_below HO.out HB.out)
              have HKP1 := Aside0.mk (HKP.out.below HB.out)
              have HBW1 := Aside0.mk (below_step HBW.out HB.out)
              have x0' := cell_below x0 HB.out
              have x1' := cell_below x1 HB.out
              have hkd := kindP_lt l a l.length
              obtain ⟨kd, hkde⟩ : ∃ kd, kindP l a l.length = kd := ⟨_, rfl⟩
              rw [hkde] at HPF2 hkd ⊢
              have hkd2 : kd < 4294967296 := Nat.lt_of_lt_of_le hkd (show 2 ^ l.length ≤ 2 ^ 32 from Nat.pow_le_pow_right (by decide) (by omega))
              have hlook := run_look HMP1.out HMI.out (kd : Int) (by omega) (by omega)
              clear x0 x1 HMP HO HKP HBW HB hkd hkde HCL
              by_cases hnew : ks.idxOf (kd : Int) = ks.length
              · rw [show idF ks (.int .u32 (kd : Int)) = none from if_pos hnew] at hlook
                have hlook2 : Sem.run Try.prog (Instr.lookup 62 (.map (some wo.heap.size)) (.int .u32 (kd : Int)) true) wr = .ok (.tuple #[.int .i64 0, .bool false]) wr := hlook
                clear hlook
                have hks := HKS.out
                obtain ⟨w6, hupd, hown6, hturn6⟩ := run_upd HMP1.out (kd : Int) (by omega) (by omega) (out.length : Int) (by omega) (by omega) (by unfold maxLen; omega)
                have hg6 := hturn6.grown
                have HMP6 := Aside0.mk hown6
                have HMI6 := Aside0.mk (idF_put HMI.out hnew hks.1)
                have HO6 := Aside0.mk (Kd.S_grown HO1.out hg6 (fun k hk he => by injection he with he; omega))
                have HBW6 := Aside0.mk (HBW1.out.grown hg6 HBW1.out.size (fun k hk => by injection hk with hk; omega))
                have HKP6 := Aside0.mk (HKP1.out.then_ (Kept.of_grown hg6 (Kept.refl _ (fun k => k = wo.heap.size)) (fun k hk => .inl (by injection hk with hk; exact hk.symm))) (fun k hk => .inl hk))
                have HNEW := Aside0.mk hnew
                clear hown6 hturn6 hg6 hnew
                have HKS2 := Aside0.mk hks.1
                obtain ⟨_, hks2, _⟩ := hks
                go_wp2_with ((with_reducible refine gate_builtin (b := .append) (xs := #[.tmp 74, .tmp 75]) rfl ?_); at_builtin; go_loud (refine Kd.S_append (Kd.slice 39 k39) (w0 := w) w.heap.size rfl (.tmp 74) (.tmp 75) 43 22 (.slice none 0 0) 24 rfl Try.underlying43 infoSS rfl (by decide) (by decide) (.slice A2 out.length c2) out ([] : List Sp) [.slice none 0 0] (fun k => w3.heap.size ≤ k) (fun _ => False) rfl (congrArg (fun n => Value.slice (some ⟨n, 0, none⟩) 1 1) (by simp)) ?aP (fun _ hk => hk.elim) ?aF ?aO ?aB ?aS ?aL ?_; (case aP => exact ⟨_, rfl, Kd.R_nil _ _ _ _ _⟩); (case aF => exact (fun k hk => Nat.le_trans HKP6.out.1 hk)); (case aO => exact Kd.S_mono HO6.out (fun k hk => ⟨hk, fun h => h⟩)); (case aB => exact HBW6.out); (case aS => exact HBW6.out.size); (case aL => omega); intro v7 w7 hS7 hb7 hg7 hat7; have HS7 := Aside0.mk hS7; have HB7 := Aside0.mk hb7; have HG7 := Aside0.mk hg7; clear hS7 hb7 hg7 hat7))
                obtain ⟨A7, c7, e7⟩ := Kd.R_slice (Kd.S_R HS7.out)
                subst e7
                have HMP7 := Aside0.mk (ownsMap_move HMP6.out (HG7.out.block wo.heap.size (by have := HKP6.out.1; omega) (fun he => by have := (Kd.S_R HO6.out).1 _ he.symm; omega)))
                have HKP7 := Aside0.mk (Kept.of_grown HG7.out HKP6.out (fun k hk => .inr ((Kd.S_R HO6.out).1 k hk)))
                have HX7 := Aside0.mk (cell_kept (hx1k.out.1) HKP7.out hx1k.out.2)
                have hl7 : (out ++ [([] : List Sp)]).length = out.length + 1 := by simp
                have hs7l : ((out ++ [([] : List Sp)]).getD out.length []).length ≤ 0 := by simp
                obtain ⟨out7, ho7⟩ : ∃ o, out ++ [([] : List Sp)] = o := ⟨_, rfl⟩
                rw [ho7] at HS7 hl7 hs7l
                have HO7 := Aside0.mk ho7
                rw [ho7]
                clear ho7 HMP6 HKP6 HG7 HMP1 HO1 HKP1 HBW1 HO6 HBW6 HMI
                generalize hn7 : out.length = n7 at *
                have HN7 := Aside0.mk hn7
                rw [hl7] at HS7 ⊢
                have HL7 := Aside0.mk hl7
                clear hn7 hl7
                have HS7L := Aside0.mk (show (out7.getD n7 []).length ≤ 30000 by omega)
                have hll : n7 < out7.length := by have := HL7.out; omega
                have HLEN := Aside0.mk (show n7 + 1 = out7.length from HL7.out.symm)
                have x1 := HX7.out
                have HBO := Aside0.mk (show ∀ s ∈ out7, s.length ≤ j from fun s hs => by
                  rw [← HO7.out] at hs
                  rcases List.mem_append.1 hs with h | h
                  · exact HKS.out.2.2 s h
                  · rw [List.mem_singleton.1 h]; exact Nat.zero_le _)
                have HLK := Aside0.mk (show (ks ++ [(kd : Int)]).length = out7.length by rw [HL7.out, List.length_append, HKS2.out]; rfl)
                have HPA := Aside0.mk (show pAdd (kd : Int) a a2 (ks, out) = (ks ++ [(kd : Int)], out7.set n7 (sAdd (out7.getD n7 []) a a2)) by
                  rw [← HO7.out, ← HN7.out]
                  unfold pAdd
                  rw [if_pos HNEW.out]
                  simp)
                clear HKS HKS2 HN7 HO7 HL7 HNEW
                obtain ⟨g7, d7, e7, hgb7, hgl7, _⟩ := Kd.R_form (Kd.S_R HS7.out) (by omega)
                injection e7 with e7 _ e8
                subst e7; subst e8
                obtain ⟨oki, cs7, hcl7, hM7, hcc7, hfr7, hoki7, hH7⟩ := Kd.S_elem HS7.out ([] : List Sp) (n7 : Int) (by omega) (by omega)
                obtain ⟨vi, rfl, hRi⟩ := hM7
                rw [Int.toNat_natCast] at hRi hcc7 hfr7
                obtain ⟨s7, hs7⟩ : ∃ s, out7.getD n7 [] = s := ⟨_, rfl⟩
                rw [hs7] at hRi
                obtain ⟨Ai, ci, e9⟩ := Kd.R_slice hRi
                subst e9
                have q0 := hcc7 0 _ rfl
                have q1 := hfr7 0
                rw [show (Kd.slice 39 k39).sz = 1 from rfl, Nat.mul_one, Nat.add_zero] at q0 q1
                have hqn : ¬ oki g7 := fun h => (hoki7 g7 h).2 rfl
                have hB7 : w3.heap.size ≤ g7 := (Kd.S_R HS7.out).1 g7 (by simp [Value.ownBlock])
                have HQ := Aside0.mk (And.intro q0 (And.intro q1 hqn))
                have hput := fun W (hW : Below w7.heap.size w7 W) => put_c oki (.slice Ai s7.length ci) s7 a a2 w w7 W HB7.out hRi (hs7 ▸ HS7L.out) hW
                have HPUT := Aside0.mk hput
                have HH7 := Aside0.mk (Kd.H_widen hH7)
                have HOK := Aside0.mk hoki7
                have HSG := Aside0.mk hs7
                clear hput hH7 hRi hcc7 hfr7 hoki7 hs7 hcl7 hqn
                have p0 : (0 : Int) ≤ (j : Int) + 1 := by omega
                have p1 : (j : Int) + 1 < (m : Int) + 1 := by omega
                have p2 : (0 : Int) ≤ (n7 : Int) := by omega
                have vw := IntWalk.i64_in ((j : Int) + 1) (by omega)
                have HBO2 := Aside0.mk (set_bound HBO.out HSG.out a a2 n7)
                have hpa := HPA.out
                rw [HSG.out] at hpa
                have hpf9 := HPF2.out
                rw [hpa] at hpf9
                have HPF9 := Aside0.mk hpf9
                clear hpa hpf9 HPA HPF2 HSG HBO
                go_region_with (go_at_call 48; refine (HPUT.out _ (by repeat (first | exact Below.refl _ _ | apply below_drew1 | apply pw_below_drewN))).mono ?_; rintro e w5 ⟨A5, c5, rfl, hR5, hb5, hk5⟩; have HR5 := Aside0.mk hR5; have HB5 := Aside0.mk hb5; have HK5 := Aside0.mk hk5; have q0 : w5.cell? ⟨g7, n7, none⟩ = some (.slice Ai s7.length ci) := cell_kept HQ.out.1 HK5.out HQ.out.2.2; have q1 : w5.frozen? ⟨g7, n7, none⟩ = false := frozen_kept HQ.out.1 HQ.out.2.1 HK5.out HQ.out.2.2; clear hR5 hb5 hk5)
                all_goals
                  go_wp2
                  go_roundw
                  case measure => show m - ((j : Int) + 1).toNat < m - (j : Int).toNat; omega
                  case rel =>
                    have hokg := fun k hk => (HOK.out k hk).1
                    exact ⟨j + 1, _, _, n + 1, (ks ++ [(kd : Int)]), _, _, rfl, by rw [List.length_set], by omega, by omega, ⟨by rw [List.length_set]; exact HLK.out, by rw [List.length_set]; omega, HBO2.out⟩, HPF9, ⟨ownsMap_set (ownsMap_move HMP7.out (HK5.out.2 wo.heap.size (by have := HKP7.out.1; omega) (fun h => by have := hokg _ h; omega))) (Nat.ne_of_lt (Nat.lt_of_lt_of_le hgm hB7)) _⟩, HMI6, ⟨row_back HH7.out HK5.out HR5.out (fun k hk => HOK.out k hk) HKP7.out.1 hgl7 hll (by first | exact HLEN.out | rfl)⟩, ⟨(HKP7.out.then_ HK5.out (fun k hk => .inr (hokg k hk))).setCell (.inr hB7) _⟩, ⟨HB5.out.setCell hgb7 _⟩⟩
              · rw [show idF ks (.int .u32 (kd : Int)) = some ((ks.idxOf (kd : Int) : Nat) : Int) from if_neg hnew] at hlook
                obtain ⟨hks, hks2, _⟩ := HKS.out
                have hlt := Nat.lt_of_le_of_ne (List.idxOf_le_length (a := (kd : Int)) (l := ks)) hnew
                obtain ⟨n7, hn7⟩ : ∃ n, ks.idxOf (kd : Int) = n := ⟨_, rfl⟩
                have HPA := Aside0.mk (show pAdd (kd : Int) a a2 (ks, out) = (ks, out.set n7 (sAdd (out.getD n7 []) a a2)) by
                  rw [← hn7]
                  unfold pAdd
                  rw [if_neg hnew])
                rw [hn7] at hlook hlt
                have hlook2 : Sem.run Try.prog (Instr.lookup 62 (.map (some wo.heap.size)) (.int .u32 (kd : Int)) true) wr = .ok (.tuple #[.int .i64 (n7 : Int), .bool true]) wr := hlook
                have hll : n7 < out.length := by omega
                have HLEN := Aside0.mk (Eq.refl out.length)
                have HLK := Aside0.mk hks
                have HBO := Aside0.mk HKS.out.2.2
                have HS7L := Aside0.mk (show (out.getD n7 []).length ≤ 30000 by
                  rw [List.getD_eq_getElem?_getD, List.getElem?_eq_getElem hll]
                  have := HBO.out _ (List.getElem_mem hll)
                  show (out[n7]).length ≤ 30000
                  omega)
                clear hlook hn7 hnew hks HKS hlt
                go_wp2
                obtain ⟨g7, d7, e7, hgb7, hgl7, _⟩ := Kd.R_form (Kd.S_R HO1.out) (by omega)
                injection e7 with e7 _ e8
                subst e7; subst e8
                obtain ⟨oki, cs7, hcl7, hM7, hcc7, hfr7, hoki7, hH7⟩ := Kd.S_elem HO1.out ([] : List Sp) (n7 : Int) (by omega) (by omega)
                obtain ⟨vi, rfl, hRi⟩ := hM7
                rw [Int.toNat_natCast] at hRi hcc7 hfr7
                obtain ⟨s7, hs7⟩ : ∃ s, out.getD n7 [] = s := ⟨_, rfl⟩
                rw [hs7] at hRi
                obtain ⟨Ai, ci, e9⟩ := Kd.R_slice hRi
                subst e9
                have q0 := hcc7 0 _ rfl
                have q1 := hfr7 0
                rw [show (Kd.slice 39 k39).sz = 1 from rfl, Nat.mul_one, Nat.add_zero] at q0 q1
                have hqn : ¬ oki g7 := fun h => (hoki7 g7 h).2 rfl
                have hB7 : w3.heap.size ≤ g7 := (Kd.S_R HO1.out).1 g7 (by simp [Value.ownBlock])
                have HQ := Aside0.mk (And.intro q0 (And.intro q1 hqn))
                have hput := fun W (hW : Below wr.heap.size wr W) => put_c oki (.slice Ai s7.length ci) s7 a a2 w wr W HBW1.out hRi (hs7 ▸ HS7L.out) hW
                have HPUT := Aside0.mk hput
                have HH7 := Aside0.mk (Kd.H_widen hH7)
                have HOK := Aside0.mk hoki7
                have HSG := Aside0.mk hs7
                clear hput hH7 hRi hcc7 hfr7 hoki7 hs7 hcl7 hqn
                have p0 : (0 : Int) ≤ (j : Int) + 1 := by omega
                have p1 : (j : Int) + 1 < (m : Int) + 1 := by omega
                have p2 : (0 : Int) ≤ (n7 : Int) := by omega
                have vw := IntWalk.i64_in ((j : Int) + 1) (by omega)
                have HBO2 := Aside0.mk (set_bound HBO.out HSG.out a a2 n7)
                have hpa := HPA.out
                rw [HSG.out] at hpa
                have hpf9 := HPF2.out
                rw [hpa] at hpf9
                have HPF9 := Aside0.mk hpf9
                clear hpa hpf9 HPA HPF2 HSG HBO
                go_region_with (go_at_call 48; refine (HPUT.out _ (by repeat (first | exact Below.refl _ _ | apply below_drew1 | apply pw_below_drewN))).mono ?_; rintro e w5 ⟨A5, c5, rfl, hR5, hb5, hk5⟩; have HR5 := Aside0.mk hR5; have HB5 := Aside0.mk hb5; have HK5 := Aside0.mk hk5; have q0 : w5.cell? ⟨g7, n7, none⟩ = some (.slice Ai s7.length ci) := cell_kept HQ.out.1 HK5.out HQ.out.2.2; have q1 : w5.frozen? ⟨g7, n7, none⟩ = false := frozen_kept HQ.out.1 HQ.out.2.1 HK5.out HQ.out.2.2; clear hR5 hb5 hk5)
                all_goals
                  go_wp2
                  go_roundw
                  case measure => show m - ((j : Int) + 1).toNat < m - (j : Int).toNat; omega
                  case rel =>
                    have hokg := fun k hk => (HOK.out k hk).1
                    exact ⟨j + 1, _, _, n, ks, _, _, rfl, by rw [List.length_set], by omega, by omega, ⟨by rw [List.length_set]; exact HLK.out, by rw [List.length_set]; omega, HBO2.out⟩, HPF9, ⟨ownsMap_set (ownsMap_move HMP1.out (HK5.out.2 wo.heap.size (by have := HKP1.out.1; omega) (fun h => by have := hokg _ h; omega))) (Nat.ne_of_lt (Nat.lt_of_lt_of_le hgm hB7)) _⟩, HMI, ⟨row_back HH7.out HK5.out HR5.out (fun k hk => HOK.out k hk) HKP1.out.1 hgl7 hll (by first | exact HLEN.out | rfl)⟩, ⟨(HKP1.out.then_ HK5.out (fun k hk => .inr (hokg k hk))).setCell (.inr hB7) _⟩, ⟨HB5.out.setCell hgb7 _⟩⟩
        · have g3 : decide (j < m) = false := decide_eq_false h2
          have hfin2 : pFold f cu ([], []) = (ks, out) := by
            have hlm := HLM.out
            rw [← HPF.out, List.drop_eq_getElem_cons (by omega), List.drop_eq_nil_of_le (by omega)]
            rfl
          have hfin := HFIN.out
          rw [hfin2] at hfin
          simp only at hfin
          have hcn := ConL_ok A2 c2 out wr (Kd.R_reads' (Kd.S_R HO.out)).2.2
          clear HFIN HPF hfin2
          by_cases h9 : (out.any fun s => decide (256 < s.length)) = true
          · rw [h9] at hcn
            rw [if_pos h9] at hfin
            have HFIN := Aside0.mk hfin
            have HCN := Aside0.mk hcn
            clear hfin hcn h9
            go_wp2_with (go_at_call 49; refine (HCN.out).mono ?_; rintro e w' ⟨rfl, rfl⟩)
            go_ret2
            rw [HFIN.out]
            exact ⟨_, rfl, Kd.S_nil _ _ _ _ _, HBW.out⟩
          · rw [if_neg h9] at hfin
            rw [Bool.not_eq_true] at h9
            rw [h9] at hcn
            have HFIN := Aside0.mk hfin
            have HCN := Aside0.mk hcn
            clear hfin hcn h9
            go_wp2_with (go_at_call 49; refine (HCN.out).mono ?_; rintro e w' ⟨rfl, rfl⟩)
            go_ret2
            rw [HFIN.out]
            exact ⟨_, rfl, Kd.S_mono HO.out (fun _ _ => trivial), HBW.out⟩
theorem Parts_ok (A : Option Addr) (c : Nat) (l : List (List Sp)) (w : World) (hr : Kd.C (Kd.slice 39 k39) w A l.length l) (hc : l.length ≤ c) : Calls Try.prog 30 #[.slice A l.length c] w fun e w' => ∃ v : Value, e = .returned (.tuple #[v, .int .i64 (sParts l).2]) ∧ Kd.S (Kd.slice 39 k39) 22 w' w.heap.size (fun _ => True) v (sParts l).1 ∧ Below w.heap.size w w' := by
  by_cases hm : 32 < l.length
  · exact Parts_many A c l w hr hc hm
  · exact Parts_one A c l w hr hc hm
end Go.Proofs.Ytingbjdpjimikaa.B
namespace Go.Proofs.Ytingbjdpjimikaa.FBase
open Go.RowKit Go.Proofs.YtingbjdpjimikaaW.PrintWords Go.Proofs.YtingbjdpjimikaaW.PrintLast Go.Proofs.YtingbjdpjimikaaW.PrintMore
attribute [local go_sem] max2_int min2_int max_two min_two max_three min_three max_four min_four   -- for this text's walks alone
def colophonref17_bits.l0 : Nat → List (List (S39)) → Int → Int → Int → Option (Int)
  | 0, _, _, _, _ => none
  | k + 1, x0, x1, x5, x6 => if x6 < (x0.length : Int) then (if 0 ≤ x6 then ((colophonref17_Has.f k (rd_L2 x0 x6) x1).bind fun t184 => (if t184 = true then (colophonref17_bits.l0 k x0 x1 (wrap64 (x5 + (shl .i64 1 x6))) (wrap64 (x6 + 1))) else (colophonref17_bits.l0 k x0 x1 x5 (wrap64 (x6 + 1))))) else (none)) else (some x5)
def colophonref17_bits.f (k : Nat) (l0 : List (List (S39))) (a1 : Int) : Option (Int) := colophonref17_bits.l0 k l0 a1 0 0
theorem colophonref17_bits.mono_l : ∀ k, (∀ y0 y1 y2 y3, LeO (colophonref17_bits.l0 k y0 y1 y2 y3) (colophonref17_bits.l0 (k + 1) y0 y1 y2 y3))
  | 0 => fun _ _ _ _ r h => by simp [colophonref17_bits.l0] at h
  | k + 1 => by
    have ih0 := colophonref17_bits.mono_l k
    · intro y0 y1 y2 y3
      unfold colophonref17_bits.l0
      repeat' first
      | (with_reducible exact ih0 _ _ _ _)
      | (with_reducible exact colophonref17_Has.mono _ _ _)
      | (with_reducible exact LeO.refl _)
      | (with_reducible exact LeO.none _)
      | (with_reducible refine LeO.ite ?_ ?_)
      | (with_reducible refine LeO.bind ?_ (fun _ => ?_))
      | exact ih0 _ _ _ _
      | exact colophonref17_Has.mono _ _ _
      | exact LeO.none _
      | refine LeO.ite ?_ ?_
      | refine LeO.bind ?_ (fun _ => ?_)
theorem colophonref17_bits.mono : ∀ a0 a1 k, LeO (colophonref17_bits.f k a0 a1) (colophonref17_bits.f (k + 1) a0 a1) := by
  intro a0 a1 k
  have ih0 := colophonref17_bits.mono_l k
  unfold colophonref17_bits.f
  repeat' first
      | (with_reducible exact ih0 _ _ _ _)
      | (with_reducible exact colophonref17_Has.mono _ _ _)
      | (with_reducible exact LeO.refl _)
      | (with_reducible exact LeO.none _)
      | (with_reducible refine LeO.ite ?_ ?_)
      | (with_reducible refine LeO.bind ?_ (fun _ => ?_))
      | exact ih0 _ _ _ _
      | exact colophonref17_Has.mono _ _ _
      | exact LeO.none _
      | refine LeO.ite ?_ ?_
      | refine LeO.bind ?_ (fun _ => ?_)
set_option maxHeartbeats 8000000 in
set_option maxRecDepth 100000 in
theorem colophonref17_bits.calls (k : Nat) (A0 : Option Addr) (c0 : Nat) (l0 : List (List (S39))) (a1 : Int) (r : Int) (w : World) (hr0 : Kd.C (Kd.slice 39 k39) w A0 l0.length l0) (hc0 : l0.length ≤ c0) (h : colophonref17_bits.f k l0 a1 = some r) :
    Calls Try.prog 51 #[.slice A0 l0.length c0, .int .i64 a1] w fun e w' => e = .returned (.int .i64 r) ∧ Drawn0 w w' := by
  have HR0 := Aside0.mk hr0
  have HC0 := Aside0.mk hc0
  clear hr0 hc0
  have H : (colophonref17_bits.l0 k l0 a1 0 0) = some r := h
  clear h
  have H' := Aside0.mk H
  clear H
  go_enter Try.func51, Try.ntmps51
  go_wp2
  go_loopg [5, 6] k (fun kq v5 v6 w' => ∃ (x5_1 : Int) (x6_1 : Int), v5 = .int .i64 x5_1 ∧ v6 = .int .i64 x6_1 ∧ Aside0 (colophonref17_bits.l0 kq l0 a1 x5_1 x6_1 = some r) ∧ Aside0 (kq ≤ k) ∧ Drawn0 w w')
  case atStart => exact ⟨(0), (0), (by first | rfl | (simp; done) | (simp [*]; done)), (by first | rfl | (simp; done) | (simp [*]; done)), H', ⟨Nat.le_refl _⟩, by repeat (first | exact Drawn0.refl _ | apply Drawn0.step)⟩
  case round =>
    clear H'
    try clear p2
    obtain ⟨x5_1, x6_1, rfl, rfl, HA, HK1, ⟨m1, rfl⟩⟩ := hrel
    cases gk with
    | zero => exact absurd HA.out (by simp [colophonref17_bits.l0])
    | succ k1 =>
      have H := HA.out
      clear HA
      simp only [colophonref17_bits.l0] at H
      by_cases c3 : x6_1 < (l0.length : Int)
      · rw [if_pos c3] at H
        have c3b0 : decide (x6_1 < (l0.length : Int)) = true := decide_eq_true c3
        clear c3
        by_cases c4 : 0 ≤ x6_1
        · rw [if_pos c4] at H
          have c4b0 : decide (0 ≤ x6_1) = true := decide_eq_true c4
          clear c4
          replace H := Option.bind_eq_some_iff.mp H
          obtain ⟨t184, A50, H⟩ := H
          replace H : (if t184 = true then (colophonref17_bits.l0 k1 l0 a1 (wrap64 (x5_1 + (shl .i64 1 x6_1))) (wrap64 (x6_1 + 1))) else (colophonref17_bits.l0 k1 l0 a1 x5_1 (wrap64 (x6_1 + 1)))) = some r := H
          have A5 := Aside0.mk A50
          clear A50
          by_cases c6 : t184 = true
          · subst c6
            have H1 : (colophonref17_bits.l0 k1 l0 a1 (wrap64 (x5_1 + (shl .i64 1 x6_1))) (wrap64 (x6_1 + 1))) = some r := by rw [if_pos rfl] at H; exact H
            clear H
            have H := H1
            clear H1
            have c7b0 := eq_true (of_decide_eq_true (by first | (with_reducible assumption) | assumption) : 0 ≤ x6_1)
            obtain ⟨ji8, hji8⟩ : ∃ j_ : Int, (shl .i64 1 x6_1) = j_ := ⟨_, rfl⟩
            replace H : (colophonref17_bits.l0 k1 l0 a1 (wrap64 (x5_1 + (ji8))) (wrap64 (x6_1 + 1))) = some r := by first | (rw [hji8] at H; exact H) | (simp only [hji8] at H ⊢; exact H)
            (try rw [hji8] at A5)
            have hji8_ : (IntKind.i64.wrap (1 * 2 ^ min x6_1.toNat 64)) = ji8 := hji8
            have hji8z : x6_1 ≤ 64 → (IntKind.i64.wrap (1 * 2 ^ x6_1.toNat)) = ji8 := shl_small hji8
            have hji8u : (IntKind.i64.wrap (2 ^ min x6_1.toNat 64)) = ji8 := by have h_ := hji8_; rw [Int.one_mul] at h_; exact h_
            have hji8v : x6_1 ≤ 64 → (IntKind.i64.wrap (2 ^ x6_1.toNat)) = ji8 := fun hle_ => by have h_ := hji8z hle_; rw [Int.one_mul] at h_; exact h_
            have hji8y : (wrap64 (1 * 2 ^ min x6_1.toNat 64)) = ji8 := (i64_w _).symm.trans hji8_
            have hji8x : x6_1 ≤ 64 → (wrap64 (1 * 2 ^ x6_1.toNat)) = ji8 := fun h_ => (i64_w _).symm.trans (hji8z h_)
            have H' := Aside0.mk H
            clear H
            have p183 : 0 ≤ (x6_1 : Int) := of_decide_eq_true (by first | (with_reducible assumption) | assumption)
            have q183 : x6_1 < (l0.length : Int) := of_decide_eq_true (by first | (with_reducible assumption) | assumption)
            obtain ⟨ad183, A183_0, c183_0, e183, hx183_0, hl183_0, hi183_0⟩ := at_L2 HR0.out x6_1 p183 q183
            cases e183
            have HR183_0 := Aside0.mk hi183_0
            have HC183_0 := Aside0.mk hl183_0
            clear hi183_0 hl183_0
            replace p183 := eq_true p183
            replace q183 := eq_true q183
            go_wp2_with (first | ((with_reducible refine gate_callee (f := 17) rfl ?_); refine goesL_ (some 18) rfl rfl Try.func17 (by kernel_rfl) rfl #[.slice A183_0 (rd_L2 l0 x6_1).length c183_0, .int .i64 a1] rfl (by (try simp only [List.map_toArray, List.map_cons, List.map_nil]); first | done | rfl | (simp only [List.length_drop, List.length_take]; rfl)) ?_; (with_reducible refine (colophonref17_Has.calls k1 _ _ (rd_L2 l0 x6_1) a1 true _ ?side1 ?side2 A5.out).mono ?_); (case side1 => repeat (first | exact HR183_0.out | (with_reducible refine Kd.C_alloc ?_ _) | (with_reducible refine Kd.C_drewN ?_ _) | (with_reducible refine Kd.C_drew ?_))); (case side2 => exact HC183_0.out); rintro e w' ⟨rfl, ⟨nd, rfl⟩⟩; refine ⟨_, rfl, ?_⟩))
            go_roundg k1
            case measure => have := HK1.out; omega
            case rel => exact ⟨(wrap64 (x5_1 + (ji8))), (wrap64 (x6_1 + 1)), (by first | rfl | (simp; done) | (simp only [← hji8] <;> (first | rfl | simp)) | (simp [*]; done)), (by first | rfl | (simp; done) | (simp [*]; done)), H', ⟨by have := HK1.out; omega⟩, by repeat (first | exact Drawn0.refl _ | apply Drawn0.step)⟩
          · replace c6 := Bool.eq_false_iff.mpr c6
            subst c6
            have H1 : (colophonref17_bits.l0 k1 l0 a1 x5_1 (wrap64 (x6_1 + 1))) = some r := by rw [if_neg (show ¬ (false = true) by decide)] at H; exact H
            clear H
            have H := H1
            clear H1
            have H' := Aside0.mk H
            clear H
            have p183 : 0 ≤ (x6_1 : Int) := of_decide_eq_true (by first | (with_reducible assumption) | assumption)
            have q183 : x6_1 < (l0.length : Int) := of_decide_eq_true (by first | (with_reducible assumption) | assumption)
            obtain ⟨ad183, A183_0, c183_0, e183, hx183_0, hl183_0, hi183_0⟩ := at_L2 HR0.out x6_1 p183 q183
            cases e183
            have HR183_0 := Aside0.mk hi183_0
            have HC183_0 := Aside0.mk hl183_0
            clear hi183_0 hl183_0
            replace p183 := eq_true p183
            replace q183 := eq_true q183
            go_wp2_with (first | ((with_reducible refine gate_callee (f := 17) rfl ?_); refine goesL_ (some 18) rfl rfl Try.func17 (by kernel_rfl) rfl #[.slice A183_0 (rd_L2 l0 x6_1).length c183_0, .int .i64 a1] rfl (by (try simp only [List.map_toArray, List.map_cons, List.map_nil]); first | done | rfl | (simp only [List.length_drop, List.length_take]; rfl)) ?_; (with_reducible refine (colophonref17_Has.calls k1 _ _ (rd_L2 l0 x6_1) a1 false _ ?side1 ?side2 A5.out).mono ?_); (case side1 => repeat (first | exact HR183_0.out | (with_reducible refine Kd.C_alloc ?_ _) | (with_reducible refine Kd.C_drewN ?_ _) | (with_reducible refine Kd.C_drew ?_))); (case side2 => exact HC183_0.out); rintro e w' ⟨rfl, ⟨nd, rfl⟩⟩; refine ⟨_, rfl, ?_⟩))
            go_roundg k1
            case measure => have := HK1.out; omega
            case rel => exact ⟨(x5_1), (wrap64 (x6_1 + 1)), (by first | rfl | (simp; done) | (simp [*]; done)), (by first | rfl | (simp; done) | (simp [*]; done)), H', ⟨by have := HK1.out; omega⟩, by repeat (first | exact Drawn0.refl _ | apply Drawn0.step)⟩
        · rw [if_neg c4] at H
          exact absurd H (by simp)
      · rw [if_neg c3] at H
        have c3b0 : decide (x6_1 < (l0.length : Int)) = false := decide_eq_false c3
        clear c3
        obtain rfl := Option.some.inj H
        go_wp2
        go_ret
        exact ⟨by first | rfl | (simp; done) | (simp [*]; done), by repeat (first | exact Drawn0.refl _ | apply Drawn0.step)⟩
def colophonref17_SameAll.l0 : Nat → List (List (S39)) → List (List (S39)) → Int → Option (Bool)
  | 0, _, _, _ => none
  | k + 1, x0, x1, x5 => if x5 < (x0.length : Int) then (if 0 ≤ x5 then (if x5 < (x1.length : Int) then ((colophonref17_Same.f k (rd_L2 x0 x5) (rd_L2 x1 x5)).bind fun t187 => (if t187 = true then (colophonref17_SameAll.l0 k x0 x1 (wrap64 (x5 + 1))) else (some false))) else (none)) else (none)) else (some true)
def colophonref17_SameAll.f (k : Nat) (l0 : List (List (S39))) (l1 : List (List (S39))) : Option (Bool) := if (l0.length : Int) = (l1.length : Int) then (colophonref17_SameAll.l0 k l0 l1 0) else (some false)
theorem colophonref17_SameAll.mono_l : ∀ k, (∀ y0 y1 y2, LeO (colophonref17_SameAll.l0 k y0 y1 y2) (colophonref17_SameAll.l0 (k + 1) y0 y1 y2))
  | 0 => fun _ _ _ r h => by simp [colophonref17_SameAll.l0] at h
  | k + 1 => by
    have ih0 := colophonref17_SameAll.mono_l k
    · intro y0 y1 y2
      unfold colophonref17_SameAll.l0
      repeat' first
      | (with_reducible exact ih0 _ _ _)
      | (with_reducible exact colophonref17_Same.mono _ _ _)
      | (with_reducible exact LeO.refl _)
      | (with_reducible exact LeO.none _)
      | (with_reducible refine LeO.ite ?_ ?_)
      | (with_reducible refine LeO.bind ?_ (fun _ => ?_))
      | exact ih0 _ _ _
      | exact colophonref17_Same.mono _ _ _
      | exact LeO.none _
      | refine LeO.ite ?_ ?_
      | refine LeO.bind ?_ (fun _ => ?_)
theorem colophonref17_SameAll.mono : ∀ a0 a1 k, LeO (colophonref17_SameAll.f k a0 a1) (colophonref17_SameAll.f (k + 1) a0 a1) := by
  intro a0 a1 k
  have ih0 := colophonref17_SameAll.mono_l k
  unfold colophonref17_SameAll.f
  repeat' first
      | (with_reducible exact ih0 _ _ _)
      | (with_reducible exact colophonref17_Same.mono _ _ _)
      | (with_reducible exact LeO.refl _)
      | (with_reducible exact LeO.none _)
      | (with_reducible refine LeO.ite ?_ ?_)
      | (with_reducible refine LeO.bind ?_ (fun _ => ?_))
      | exact ih0 _ _ _
      | exact colophonref17_Same.mono _ _ _
      | exact LeO.none _
      | refine LeO.ite ?_ ?_
      | refine LeO.bind ?_ (fun _ => ?_)
set_option maxHeartbeats 8000000 in
set_option maxRecDepth 100000 in
theorem colophonref17_SameAll.calls (k : Nat) (A0 : Option Addr) (c0 : Nat) (l0 : List (List (S39))) (A1 : Option Addr) (c1 : Nat) (l1 : List (List (S39))) (r : Bool) (w : World) (hr0 : Kd.C (Kd.slice 39 k39) w A0 l0.length l0) (hc0 : l0.length ≤ c0) (hr1 : Kd.C (Kd.slice 39 k39) w A1 l1.length l1) (hc1 : l1.length ≤ c1) (h : colophonref17_SameAll.f k l0 l1 = some r) :
    Calls Try.prog 32 #[.slice A0 l0.length c0, .slice A1 l1.length c1] w fun e w' => e = .returned (.bool r) ∧ Drawn0 w w' := by
  have HR0 := Aside0.mk hr0
  have HC0 := Aside0.mk hc0
  clear hr0 hc0
  have HR1 := Aside0.mk hr1
  have HC1 := Aside0.mk hc1
  clear hr1 hc1
  have H : (if (l0.length : Int) = (l1.length : Int) then (colophonref17_SameAll.l0 k l0 l1 0) else (some false)) = some r := h
  clear h
  by_cases c3 : (l0.length : Int) = (l1.length : Int)
  · rw [if_pos c3] at H
    have c3b0 : ((l0.length : Int) == (l1.length : Int)) = true := beq_iff_eq.mpr c3
    have c3b1 : ((l0.length : Int) != (l1.length : Int)) = false := bne_eq_false_iff_eq.mpr c3
    have c3b2 : (l0.length == l1.length) = true := by first | simpa using c3 | (simp at c3 ⊢; omega)
    clear c3
    have H' := Aside0.mk H
    clear H
    go_enter Try.func32, Try.ntmps32
    go_wp2
    repeat (go_quiet (fail); try go_wp2)
    go_loopg [5] k (fun kq v5 w' => ∃ (x5_1 : Int), v5 = .int .i64 x5_1 ∧ Aside0 (colophonref17_SameAll.l0 kq l0 l1 x5_1 = some r) ∧ Aside0 (kq ≤ k) ∧ Drawn0 w w')
    case atStart => exact ⟨(0), (by first | rfl | (simp; done) | (simp [*]; done)), H', ⟨Nat.le_refl _⟩, by repeat (first | exact Drawn0.refl _ | apply Drawn0.step)⟩
    case round =>
      clear H'
      try clear c1
      try clear p2
      try clear c3
      try clear c3b0
      try clear c3b1
      try clear c3b2
      obtain ⟨x5_1, rfl, HA, HK1, ⟨m1, rfl⟩⟩ := hrel
      cases gk with
      | zero => exact absurd HA.out (by simp [colophonref17_SameAll.l0])
      | succ k1 =>
        have H := HA.out
        clear HA
        simp only [colophonref17_SameAll.l0] at H
        by_cases c4 : x5_1 < (l0.length : Int)
        · rw [if_pos c4] at H
          have c4b0 : decide (x5_1 < (l0.length : Int)) = true := decide_eq_true c4
          clear c4
          by_cases c5 : 0 ≤ x5_1
          · rw [if_pos c5] at H
            have c5b0 : decide (0 ≤ x5_1) = true := decide_eq_true c5
            clear c5
            by_cases c6 : x5_1 < (l1.length : Int)
            · rw [if_pos c6] at H
              have c6b0 : decide (x5_1 < (l1.length : Int)) = true := decide_eq_true c6
              clear c6
              replace H := Option.bind_eq_some_iff.mp H
              obtain ⟨t187, A70, H⟩ := H
              replace H : (if t187 = true then (colophonref17_SameAll.l0 k1 l0 l1 (wrap64 (x5_1 + 1))) else (some false)) = some r := H
              have A7 := Aside0.mk A70
              clear A70
              by_cases c8 : t187 = true
              · subst c8
                have H1 : (colophonref17_SameAll.l0 k1 l0 l1 (wrap64 (x5_1 + 1))) = some r := by rw [if_pos rfl] at H; exact H
                clear H
                have H := H1
                clear H1
                have H' := Aside0.mk H
                clear H
                have p185 : 0 ≤ (x5_1 : Int) := of_decide_eq_true (by first | (with_reducible assumption) | assumption)
                have q185 : x5_1 < (l0.length : Int) := of_decide_eq_true (by first | (with_reducible assumption) | assumption)
                obtain ⟨ad185, A185_0, c185_0, e185, hx185_0, hl185_0, hi185_0⟩ := at_L2 HR0.out x5_1 p185 q185
                cases e185
                have HR185_0 := Aside0.mk hi185_0
                have HC185_0 := Aside0.mk hl185_0
                clear hi185_0 hl185_0
                replace p185 := eq_true p185
                replace q185 := eq_true q185
                have p186 : 0 ≤ (x5_1 : Int) := of_decide_eq_true (by first | (with_reducible assumption) | assumption)
                have q186 : x5_1 < (l1.length : Int) := of_decide_eq_true (by first | (with_reducible assumption) | assumption)
                obtain ⟨ad186, A186_0, c186_0, e186, hx186_0, hl186_0, hi186_0⟩ := at_L2 HR1.out x5_1 p186 q186
                cases e186
                have HR186_0 := Aside0.mk hi186_0
                have HC186_0 := Aside0.mk hl186_0
                clear hi186_0 hl186_0
                replace p186 := eq_true p186
                replace q186 := eq_true q186
                go_wp2_with (first | (go_at_call 13; (with_reducible refine (colophonref17_Same.calls k1 _ _ (rd_L2 l0 x5_1) _ _ (rd_L2 l1 x5_1) true _ ?side1 ?side2 ?side3 ?side4 A7.out).mono ?_); (case side1 => repeat (first | exact HR185_0.out | (with_reducible refine Kd.C_alloc ?_ _) | (with_reducible refine Kd.C_drewN ?_ _) | (with_reducible refine Kd.C_drew ?_))); (case side2 => exact HC185_0.out); (case side3 => repeat (first | exact HR186_0.out | (with_reducible refine Kd.C_alloc ?_ _) | (with_reducible refine Kd.C_drewN ?_ _) | (with_reducible refine Kd.C_drew ?_))); (case side4 => exact HC186_0.out); rintro e w' ⟨rfl, ⟨nd, rfl⟩⟩; (try first | exact ⟨rfl, _, World.drewN_drewN _ _ _⟩ | exact ⟨rfl, _, Eq.trans (World.drewN_drewN _ _ _) (congrArg (World.drewN _) (Nat.add_assoc _ _ _))⟩)))
                repeat (go_quiet (first | (go_at_call 13; (with_reducible refine (colophonref17_Same.calls k1 _ _ (rd_L2 l0 x5_1) _ _ (rd_L2 l1 x5_1) true _ ?side1 ?side2 ?side3 ?side4 A7.out).mono ?_); (case side1 => repeat (first | exact HR185_0.out | (with_reducible refine Kd.C_alloc ?_ _) | (with_reducible refine Kd.C_drewN ?_ _) | (with_reducible refine Kd.C_drew ?_))); (case side2 => exact HC185_0.out); (case side3 => repeat (first | exact HR186_0.out | (with_reducible refine Kd.C_alloc ?_ _) | (with_reducible refine Kd.C_drewN ?_ _) | (with_reducible refine Kd.C_drew ?_))); (case side4 => exact HC186_0.out); rintro e w' ⟨rfl, ⟨nd, rfl⟩⟩; (try first | exact ⟨rfl, _, World.drewN_drewN _ _ _⟩ | exact ⟨rfl, _, Eq.trans (World.drewN_drewN _ _ _) (congrArg (World.drewN _) (Nat.add_assoc _ _ _))⟩))); try go_wp2_with (first | (go_at_call 13; (with_reducible refine (colophonref17_Same.calls k1 _ _ (rd_L2 l0 x5_1) _ _ (rd_L2 l1 x5_1) true _ ?side1 ?side2 ?side3 ?side4 A7.out).mono ?_); (case side1 => repeat (first | exact HR185_0.out | (with_reducible refine Kd.C_alloc ?_ _) | (with_reducible refine Kd.C_drewN ?_ _) | (with_reducible refine Kd.C_drew ?_))); (case side2 => exact HC185_0.out); (case side3 => repeat (first | exact HR186_0.out | (with_reducible refine Kd.C_alloc ?_ _) | (with_reducible refine Kd.C_drewN ?_ _) | (with_reducible refine Kd.C_drew ?_))); (case side4 => exact HC186_0.out); rintro e w' ⟨rfl, ⟨nd, rfl⟩⟩; (try first | exact ⟨rfl, _, World.drewN_drewN _ _ _⟩ | exact ⟨rfl, _, Eq.trans (World.drewN_drewN _ _ _) (congrArg (World.drewN _) (Nat.add_assoc _ _ _))⟩))))
                go_roundg k1
                case measure => have := HK1.out; omega
                case rel => exact ⟨(wrap64 (x5_1 + 1)), (by first | rfl | (simp; done) | (simp [*]; done)), H', ⟨by have := HK1.out; omega⟩, by repeat (first | exact Drawn0.refl _ | apply Drawn0.step)⟩
              · replace c8 := Bool.eq_false_iff.mpr c8
                subst c8
                have H1 : (some false) = some r := by rw [if_neg (show ¬ (false = true) by decide)] at H; exact H
                clear H
                have H := H1
                clear H1
                obtain rfl := Option.some.inj H
                have p185 : 0 ≤ (x5_1 : Int) := of_decide_eq_true (by first | (with_reducible assumption) | assumption)
                have q185 : x5_1 < (l0.length : Int) := of_decide_eq_true (by first | (with_reducible assumption) | assumption)
                obtain ⟨ad185, A185_0, c185_0, e185, hx185_0, hl185_0, hi185_0⟩ := at_L2 HR0.out x5_1 p185 q185
                cases e185
                have HR185_0 := Aside0.mk hi185_0
                have HC185_0 := Aside0.mk hl185_0
                clear hi185_0 hl185_0
                replace p185 := eq_true p185
                replace q185 := eq_true q185
                have p186 : 0 ≤ (x5_1 : Int) := of_decide_eq_true (by first | (with_reducible assumption) | assumption)
                have q186 : x5_1 < (l1.length : Int) := of_decide_eq_true (by first | (with_reducible assumption) | assumption)
                obtain ⟨ad186, A186_0, c186_0, e186, hx186_0, hl186_0, hi186_0⟩ := at_L2 HR1.out x5_1 p186 q186
                cases e186
                have HR186_0 := Aside0.mk hi186_0
                have HC186_0 := Aside0.mk hl186_0
                clear hi186_0 hl186_0
                replace p186 := eq_true p186
                replace q186 := eq_true q186
                go_wp2_with (first | (go_at_call 13; (with_reducible refine (colophonref17_Same.calls k1 _ _ (rd_L2 l0 x5_1) _ _ (rd_L2 l1 x5_1) false _ ?side1 ?side2 ?side3 ?side4 A7.out).mono ?_); (case side1 => repeat (first | exact HR185_0.out | (with_reducible refine Kd.C_alloc ?_ _) | (with_reducible refine Kd.C_drewN ?_ _) | (with_reducible refine Kd.C_drew ?_))); (case side2 => exact HC185_0.out); (case side3 => repeat (first | exact HR186_0.out | (with_reducible refine Kd.C_alloc ?_ _) | (with_reducible refine Kd.C_drewN ?_ _) | (with_reducible refine Kd.C_drew ?_))); (case side4 => exact HC186_0.out); rintro e w' ⟨rfl, ⟨nd, rfl⟩⟩; (try first | exact ⟨rfl, _, World.drewN_drewN _ _ _⟩ | exact ⟨rfl, _, Eq.trans (World.drewN_drewN _ _ _) (congrArg (World.drewN _) (Nat.add_assoc _ _ _))⟩)))
                repeat (go_quiet (first | (go_at_call 13; (with_reducible refine (colophonref17_Same.calls k1 _ _ (rd_L2 l0 x5_1) _ _ (rd_L2 l1 x5_1) false _ ?side1 ?side2 ?side3 ?side4 A7.out).mono ?_); (case side1 => repeat (first | exact HR185_0.out | (with_reducible refine Kd.C_alloc ?_ _) | (with_reducible refine Kd.C_drewN ?_ _) | (with_reducible refine Kd.C_drew ?_))); (case side2 => exact HC185_0.out); (case side3 => repeat (first | exact HR186_0.out | (with_reducible refine Kd.C_alloc ?_ _) | (with_reducible refine Kd.C_drewN ?_ _) | (with_reducible refine Kd.C_drew ?_))); (case side4 => exact HC186_0.out); rintro e w' ⟨rfl, ⟨nd, rfl⟩⟩; (try first | exact ⟨rfl, _, World.drewN_drewN _ _ _⟩ | exact ⟨rfl, _, Eq.trans (World.drewN_drewN _ _ _) (congrArg (World.drewN _) (Nat.add_assoc _ _ _))⟩))); try go_wp2_with (first | (go_at_call 13; (with_reducible refine (colophonref17_Same.calls k1 _ _ (rd_L2 l0 x5_1) _ _ (rd_L2 l1 x5_1) false _ ?side1 ?side2 ?side3 ?side4 A7.out).mono ?_); (case side1 => repeat (first | exact HR185_0.out | (with_reducible refine Kd.C_alloc ?_ _) | (with_reducible refine Kd.C_drewN ?_ _) | (with_reducible refine Kd.C_drew ?_))); (case side2 => exact HC185_0.out); (case side3 => repeat (first | exact HR186_0.out | (with_reducible refine Kd.C_alloc ?_ _) | (with_reducible refine Kd.C_drewN ?_ _) | (with_reducible refine Kd.C_drew ?_))); (case side4 => exact HC186_0.out); rintro e w' ⟨rfl, ⟨nd, rfl⟩⟩; (try first | exact ⟨rfl, _, World.drewN_drewN _ _ _⟩ | exact ⟨rfl, _, Eq.trans (World.drewN_drewN _ _ _) (congrArg (World.drewN _) (Nat.add_assoc _ _ _))⟩))))
                go_ret
                exact ⟨by first | rfl | (simp; done) | (simp [*]; done), by repeat (first | exact Drawn0.refl _ | apply Drawn0.step)⟩
            · rw [if_neg c6] at H
              exact absurd H (by simp)
          · rw [if_neg c5] at H
            exact absurd H (by simp)
        · rw [if_neg c4] at H
          have c4b0 : decide (x5_1 < (l0.length : Int)) = false := decide_eq_false c4
          clear c4
          obtain rfl := Option.some.inj H
          go_wp2
          repeat (go_quiet (fail); try go_wp2)
          go_ret
          exact ⟨by first | rfl | (simp; done) | (simp [*]; done), by repeat (first | exact Drawn0.refl _ | apply Drawn0.step)⟩
  · rw [if_neg c3] at H
    have c3b0 : ((l0.length : Int) == (l1.length : Int)) = false := beq_eq_false_iff_ne.mpr c3
    have c3b1 : ((l0.length : Int) != (l1.length : Int)) = true := bne_iff_ne.mpr c3
    have c3b2 : (l0.length == l1.length) = false := by first | simpa using c3 | (simp at c3 ⊢; omega)
    obtain rfl := Option.some.inj H
    go_enter Try.func32, Try.ntmps32
    go_wp2
    repeat (go_quiet (fail); try go_wp2)
    go_ret
    exact ⟨by first | rfl | (simp; done) | (simp [*]; done), by repeat (first | exact Drawn0.refl _ | apply Drawn0.step)⟩
end Go.Proofs.Ytingbjdpjimikaa.FBase
namespace Go.Proofs.Ytingbjdpjimikaa.B
open Go.RowKit Go.Proofs Go.Proofs.YtingbjdpjimikaaW.PrintWords Go.Proofs.YtingbjdpjimikaaW.PrintLast Go.Proofs.YtingbjdpjimikaaW.PrintMore Go.Proofs.Ytingbjdpjimikaa.FBase
theorem bits_l (l : List (List Sp)) (c : Int) (hl : l.length ≤ 32) (hs : ∀ s ∈ l, s.length ≤ 256) : ∀ (n i k : Nat), l.length - i = n → n + 300 < k → colophonref17_bits.l0 k l c (kindP l c i : Nat) i = some (kindOf l c)
  | n, i, 0, _, h => absurd h (Nat.not_lt_zero _)
  | n, i, k + 1, hn, hk => by
    unfold colophonref17_bits.l0
    by_cases hi : i < l.length
    · have hsl := hs l[i] (List.getElem_mem hi)
      have hlt := kindP_lt l c i
      have hp : 2 ^ i ≤ 2 ^ 31 := Nat.pow_le_pow_right (by decide) (by omega)
      have hpi : (2 : Int) ^ i = ((2 ^ i : Nat) : Int) := by simp
      have hsh : shl .i64 1 (i : Int) = ((2 ^ i : Nat) : Int) := by
        unfold shl
        have e : (1 : Int) * 2 ^ min ((i : Int)).toNat IntKind.i64.bits = ((2 ^ i : Nat) : Int) := by
          rw [Int.toNat_natCast, Nat.min_eq_left (show i ≤ IntKind.i64.bits from Nat.le_trans (by omega) (show 32 ≤ 64 by decide)), Int.one_mul, hpi]
        rw [e]
        exact IntWalk.i64_in _ (by omega)
      rw [if_pos (by omega), if_pos (by omega), rdL hi, has_f l[i] c (by omega) (by omega), Option.bind_some, hsh, w1 (by omega)]
      have ih := bits_l l c hl hs (n - 1) (i + 1) k (by omega) (by omega)
      have hstep : kindP l c (i + 1) = kindP l c i + (if sHas l[i] c then 2 ^ i else 0) := by
        rw [kindP, List.getD_eq_getElem?_getD, List.getElem?_eq_getElem hi]
        rfl
      rw [hstep] at ih
      cases hh : sHas l[i] c with
      | true =>
        rw [hh, if_pos rfl] at ih
        rw [if_pos rfl, show wrap64 ((kindP l c i : Nat) + ((2 ^ i : Nat) : Int)) = ((kindP l c i + 2 ^ i : Nat) : Int) by unfold wrap64; omega]
        exact ih
      | false =>
        rw [hh, if_neg (by simp), Nat.add_zero] at ih
        rw [if_neg (by simp)]
        exact ih
    · have : i = l.length ∨ l.length < i := by omega
      rw [if_neg (by omega)]
      rcases this with rfl | h
      · rfl
      · have hkk : ∀ d, kindP l c (l.length + d) = kindP l c l.length := by
          intro d
          induction d with
          | zero => rfl
          | succ d ih =>
            rw [show l.length + (d + 1) = (l.length + d) + 1 from rfl, kindP, ih, List.getD_eq_getElem?_getD, List.getElem?_eq_none (by omega)]
            simp [sHas]
        have := hkk (i - l.length)
        rw [show l.length + (i - l.length) = i by omega] at this
        rw [this]
        rfl
theorem bits_f (l : List (List Sp)) (c : Int) (hl : l.length ≤ 32) (hs : ∀ s ∈ l, s.length ≤ 256) {k : Nat} (hk : 400 < k) : colophonref17_bits.f k l c = some (kindOf l c) := by
  have := bits_l l c hl hs l.length 0 k (by omega) (by omega)
  exact this
theorem idxOf_at {ks : List Int} {y : Int} {n : Nat} (hle : n ≤ ks.length) (h : ∀ i (hi : i < n), ks[i]'(by omega) ≠ y) (he : n = ks.length ∨ ∃ hn : n < ks.length, ks[n] = y) : ks.idxOf y = n := by
  induction ks generalizing n with
  | nil => simp at hle; subst hle; rfl
  | cons x ks ih =>
    rw [List.idxOf_cons]
    cases n with
    | zero =>
      rcases he with h1 | ⟨_, h1⟩
      · simp at h1
      · have : x = y := h1
        rw [this]
        simp
    | succ n =>
      have hx : x ≠ y := h 0 (by omega)
      rw [show (x == y) = false from beq_eq_false_iff_ne.2 hx]
      show ks.idxOf y + 1 = n + 1
      rw [ih (n := n) (by simpa using hle) (fun i hi => h (i + 1) (by omega)) (by
        rcases he with h1 | ⟨h1, h2⟩
        · exact .inl (by simpa using h1)
        · exact .inr ⟨by simpa using h1, h2⟩)]
theorem own_typed2 {α : Type} {d : Kd α} {e : Nat} {W : World} {base : Nat} {ok : Nat → Prop} {v : Value} {xs : List α} (h : Kd.R d e W base ok v xs) (k : Nat) (hk : some k = v.ownBlock) : ∃ cells, W.heap[k]? = some (.cells cells e (0, 0)) := by
  obtain ⟨inner, ho⟩ := Kd.R_own h
  exact own_typed ho k hk.symm
theorem S_apart {W : World} {base base' : Nat} {ok ok' : Nat → Prop} {v vo : Value} {ks : List Int} {out : List (List Sp)} (h : Kd.S (Kd.slice 39 k39) 22 W base ok vo out) (hk : Kd.R (Kd.int .i64) 3 W base' ok' v ks) :
    Kd.S (Kd.slice 39 k39) 22 W base (fun k => ok k ∧ some k ≠ v.ownBlock) vo out := by
  refine Kd.S_mono (Kd.S_bound h) (fun k hb => ⟨hb.1, fun he => ?_⟩)
  obtain ⟨cells, h1⟩ := own_typed2 hk k he
  obtain ⟨_, _, _, q, hq, cells2, h2⟩ := hb
  rw [h1] at h2
  injection h2 with h2
  injection h2 with _ h2 _
  have hq2 : q = 22 ∨ q = 39 := by
    rcases List.mem_cons.1 hq with h | h
    · exact .inl h
    · rcases List.mem_cons.1 h with h | h
      · exact .inr h
      · cases h
  rw [← h2] at hq2
  revert hq2
  decide
theorem R_apart {W : World} {base base' : Nat} {ok ok' : Nat → Prop} {v vo : Value} {ks : List Int} {out : List (List Sp)} (hk : Kd.R (Kd.int .i64) 3 W base ok v ks) (h : Kd.R (Kd.slice 39 k39) 22 W base' ok' vo out) :
    Kd.R (Kd.int .i64) 3 W base (fun k => ok k ∧ some k ≠ vo.ownBlock) v ks := by
  refine Kd.R_mono (Kd.R_bound hk) (fun k hb => ⟨hb.1, fun he => ?_⟩)
  obtain ⟨cells, h1⟩ := own_typed2 h k he
  obtain ⟨_, _, _, q, hq, cells2, h2⟩ := hb
  rw [h1] at h2
  injection h2 with h2
  injection h2 with _ h2 _
  have hq2 : q = 3 := by
    rcases List.mem_cons.1 hq with h | h
    · exact h
    · cases h
  rw [← h2] at hq2
  revert hq2
  decide
theorem row_back2 {W7 w5 : World} {base g7 n c7 n7 : Nat} {ok : Nat → Prop} {out7 : List (List Sp)} {oki : Nat → Prop} {vi : Value} {A5 : Option Addr} {c5 : Nat} {s' : List Sp}
    (hH : Kd.H (Kd.slice 39 k39) 22 W7 base ok (.slice (some ⟨g7, 0, none⟩) n c7) out7 (n7 : Int) (fun k => oki k ∨ ok k ∧ W7.heap.size ≤ k) [vi]) (hk : Kept W7 w5 oki) (hR : Kd.R k39 39 w5 base (fun k => oki k ∨ W7.heap.size ≤ k) (.slice A5 s'.length c5) s')
    (ho : ∀ k, oki k → ok k ∧ k ≠ g7) (hB : ∀ k, W7.heap.size ≤ k → ok k) (hg : g7 < W7.heap.size) (hn : n7 < out7.length) (hlen : n = out7.length) :
    Kd.S (Kd.slice 39 k39) 22 (w5.setCell ⟨g7, n7, none⟩ (.slice A5 s'.length c5)) base ok (.slice (some ⟨g7, 0, none⟩) (out7.set n7 s').length c7) (out7.set n7 s') := by
  subst hlen
  rw [List.length_set]
  have h5 := Kd.H_kept hH hk (fun k _ hn hS => hn (.inl hS))
  obtain ⟨h6, hg6⟩ := Kd.H_seg h5 (by omega) (by omega) (seg := [.slice A5 s'.length c5]) (j := 0) (Nat.le_refl 1) (fun q hq => by rw [List.mem_singleton.1 hq]; rfl)
  have hM : Kd.M (Kd.slice 39 k39) (w5.setCells g7 ((n7 : Int).toNat * (Kd.sz (Kd.slice 39 k39)) + 0) [.slice A5 s'.length c5]) base (fun k => oki k ∨ ok k ∧ W7.heap.size ≤ k) s' ([vi].take 0 ++ [.slice A5 s'.length c5] ++ [vi].drop (0 + [Value.slice A5 s'.length c5].length)) :=
    ⟨_, rfl, Kd.R_grown (Kd.R_mono hR (fun k hk => hk.imp id (fun h => ⟨hB k h, h⟩))) hg6 (fun k hk he => by
      injection he with he
      rcases hk with h | h
      · exact (ho k h).2 he
      · omega)⟩
  have h7 := Kd.H_back h6 hM (fun k hk => hk)
  rw [Int.toNat_natCast, show Kd.sz (Kd.slice 39 k39) = 1 from rfl, Nat.mul_one, Nat.add_zero] at h7
  exact h7
theorem add_c (oki : Nat → Prop) (v : Value) (s : List Sp) (a a2 : Int) (w W0 W : World) (hB : Below w.heap.size w W0) (hR : Kd.R k39 39 W0 w.heap.size oki v s) (hs : s.length ≤ 30000) (hW : Below W0.heap.size W0 W) :
    Calls Try.prog 39 #[v, .int .i64 a, .int .i64 a2] W fun e w' => ∃ A5 c5, e = .returned (.slice A5 (sAdd s a a2).length c5) ∧ Kd.R k39 39 w' w.heap.size (fun k => oki k ∨ W0.heap.size ≤ k) (.slice A5 (sAdd s a a2).length c5) (sAdd s a a2) ∧ Below w.heap.size w w' ∧ Kept W0 w' oki := by
  refine (colophonref17_Add.calls oki v s a a2 _ w W (below_step hB hW) (Kd.R_below hR hW) (add_eq s a a2 (by omega))).mono ?_
  rintro e w' ⟨v5, rfl, h1, h2, h3⟩
  obtain ⟨A5, c5, e5⟩ := Kd.R_slice h1
  subst e5
  exact ⟨A5, c5, rfl, Kd.R_mono h1 (fun k hk => hk.imp id (fun h => Nat.le_trans hW.size h)), h2, (Kept.of_below hW oki).then_ h3 (fun k hk => .inl hk)⟩
theorem below_of_kept {w w3 W7 w9 : World} {oki : Nat → Prop} (h1 : Below w3.heap.size w3 W7) (hk : Kept W7 w9 oki) (h9 : Below w.heap.size w w9) (h7 : Below w.heap.size w W7) (ho : ∀ k, oki k → w3.heap.size ≤ k) : Below w3.heap.size w3 w9 :=
  ⟨h9.os.trans (h7.os.symm.trans h1.os), h9.tape.trans (h7.tape.symm.trans h1.tape), h9.output.trans (h7.output.symm.trans h1.output), Nat.le_trans h1.size hk.1,
    fun k hlt => (hk.2 k (Nat.lt_of_lt_of_le hlt h1.size) (fun h => by have := ho k h; omega)).trans (h1.block k hlt)⟩
set_option maxRecDepth 100000 in
set_option maxHeartbeats 4000000 in
theorem RParts_many (A : Option Addr) (c : Nat) (l : List (List Sp)) (w : World) (hr : Kd.C (Kd.slice 39 k39) w A l.length l) (hc : l.length ≤ c) (hm : 32 < l.length) : Calls Try.prog 31 #[.slice A l.length c] w fun e w' => ∃ v : Value, e = .returned (.tuple #[v, .int .i64 (sParts l).2]) ∧ Kd.S (Kd.slice 39 k39) 22 w' w.heap.size (fun _ => True) v (sParts l).1 ∧ Below w.heap.size w w' := by
  have g1 : decide (32 < (l.length : Int)) = true := decide_eq_true (by omega)
  rw [show sParts l = ([], 5) from if_pos hm]
  clear hr
  go_enter Try.func31, Try.ntmps31
  go_wp2
  go_ret2
  exact ⟨_, rfl, Kd.S_nil _ _ _ _ _, Below.refl _ _⟩
set_option maxRecDepth 100000 in
set_option maxHeartbeats 4000000 in
theorem RParts_one (A : Option Addr) (c : Nat) (l : List (List Sp)) (w : World) (hr : Kd.C (Kd.slice 39 k39) w A l.length l) (hc : l.length ≤ c) (hm : ¬ 32 < l.length) : Calls Try.prog 31 #[.slice A l.length c] w fun e w' => ∃ v : Value, e = .returned (.tuple #[v, .int .i64 (sParts l).2]) ∧ Kd.S (Kd.slice 39 k39) 22 w' w.heap.size (fun _ => True) v (sParts l).1 ∧ Below w.heap.size w w' := by
  have g1 : decide (32 < (l.length : Int)) = false := decide_eq_false (by omega)
  have HRW := Aside0.mk hr
  clear hr
  go_enter Try.func31, Try.ntmps31
  go_wp2
  go_loopw [4, 5] (fun s4 s5 W => ∃ (k : Nat) (A2 : Option Addr) (c2 : Nat) (all : List Sp), s5 = .int .i64 k ∧ s4 = .slice A2 all.length c2 ∧ k ≤ l.length ∧ all.length ≤ 256 * k ∧ Aside0 (all = (l.take k).flatten) ∧ Aside0 (∀ i (hi : i < k) (h : i < l.length), sCheck l[i] = 0) ∧ Aside0 (Kd.R k39 39 W w.heap.size (fun _ => True) (.slice A2 all.length c2) all) ∧ Aside0 (Below w.heap.size w W)) (fun _ s5 _ => l.length - (intOf s5).toNat)
  case atStart => exact ⟨0, none, 0, [], rfl, rfl, Nat.zero_le _, Nat.zero_le _, ⟨rfl⟩, ⟨fun i hi => absurd hi (Nat.not_lt_zero _)⟩, ⟨Kd.R_nil _ _ _ _ _⟩, ⟨Below.refl _ _⟩⟩
  case round =>
    obtain ⟨k, A2, c2, all, rfl, rfl, hk, hal, HAL, HZ, HO, HB⟩ := hrel
    by_cases h1 : k < l.length
    · have g2 : decide (k < l.length) = true := decide_eq_true h1
      obtain ⟨ad, A0, c0, e0, hcell, hl0c, hC0⟩ := at_L2 (Kd.C_below HRW.out HB.out) (k : Int) (by omega) (by omega)
      cases e0
      rw [Int.toNat_natCast] at hcell
      rw [rdL h1] at hcell hl0c hC0
      have hcalls : ∀ W, Below wr.heap.size wr W → Calls Try.prog 15 #[.slice A0 l[k].length c0] W fun e w' => e = .returned (.int .i64 (sCheck l[k])) ∧ Below W.heap.size W w' := fun W hW =>
        colophonref17_Check.calls (l[k].length + 1) A0 c0 l[k] _ W (Kd.C_below hC0 hW) hl0c (rcheck_ff l[k] (Nat.lt_succ_self _))
      have hfs := flat_step h1
      rw [← HAL.out] at hfs
      obtain ⟨r, hrr⟩ : ∃ r, sCheck l[k] = r := ⟨_, rfl⟩
      have hr0 : r = 0 → l[k].length ≤ 256 := fun h => ((sCheck_ok l[k]).1 (hrr.trans h)).1
      obtain ⟨s0, hs0⟩ : ∃ s, l[k] = s := ⟨_, rfl⟩
      rw [hrr] at hcalls
      rw [hs0] at hcalls hcell hC0 hr0 hfs
      have HCK := Aside0.mk hcalls
      have HRR := Aside0.mk hrr
      have HC0 := Aside0.mk hC0
      have HFS := Aside0.mk hfs
      clear hcalls hrr hC0 hs0 hl0c hfs
      by_cases hz : r = 0
      · have h256 := hr0 hz
        subst hz
        have HZ2 := Aside0.mk (show ∀ i (hi : i < k + 1) (h : i < l.length), sCheck l[i] = 0 from fun i hi h => by
          by_cases hik : i = k
          · subst hik; exact HRR.out
          · exact HZ.out i (by omega) h)
        clear HZ hr0
        go_wp2_with (first | (go_at_call 15; refine (HCK.out _ (by repeat (first | exact Below.refl _ _ | apply zq2 | apply zq3 | apply zq4 | apply zq5))).mono ?_; rintro e w1 ⟨rfl, hb⟩; have HO1 := Aside0.mk (Kd.R_below HO.out hb); have hcell1 := cell_below hcell hb; have HC1 := Aside0.mk (Kd.C_below HC0.out hb); have m_ := Aside0.mk (below_step HB.out hb); clear HB; have HB := m_; clear m_; clear hb hcell HC0 HO; have hcell := hcell1; clear hcell1) | ((with_reducible refine gate_builtin (b := .append) (xs := #[.tmp 31, .tmp 35]) rfl ?_); at_builtin; go_loud (refine Kd.R_append_rows k39 (w0 := w) w.heap.size rfl (.tmp 31) (.tmp 35) 22 39 (.agg #[(.int .i64 0), (.int .i64 0)]) 16 rfl Try.underlying22 info39 rfl (by decide) (by omega) (.slice A2 all.length c2) all s0 A0 s0.length c0 (fun _ => True) (fun _ => False) rfl rfl ?aO ?aR (fun _ _ h => h) (fun _ h => h.elim) ?aF ?aB ?aS ?aL ?_; (case aR => exact HC1.out); (case aB => exact HB.out); (case aF => exact (fun _ _ => trivial)); (case aO => exact HO1.out); (case aS => exact HB.out.size); (case aL => omega); intro v3 w3 ho hb hg hat; have n0_ := Aside0.mk hb; have n1_ := Aside0.mk ho; clear ho hb hg hat)))
        go_roundw
        case measure => show l.length - ((k : Int) + 1).toNat < l.length - (k : Int).toNat; omega
        case rel =>
          obtain ⟨A4, c4, e4⟩ := Kd.R_slice n1_.out
          subst e4
          exact ⟨k + 1, A4, c4, _, rfl, rfl, by omega, by rw [List.length_append]; omega, ⟨HFS.out.symm⟩, HZ2, n1_, n0_⟩
      · have hz1 : (r != 0) = true := bne_iff_ne.mpr hz
        have hfin : sParts l = ([], r) := by
          unfold sParts
          have := firstErr_at h1 (fun i hi => HZ.out i hi (by omega)) (by rw [HRR.out]; exact hz)
          rw [if_neg hm, this, HRR.out, if_pos hz]
        have HFIN := Aside0.mk hfin
        clear hfin HZ hz hr0
        go_wp2_with (go_at_call 15; refine (HCK.out _ (by repeat (first | exact Below.refl _ _ | apply zq2 | apply zq3 | apply zq4 | apply zq5))).mono ?_; rintro e w1 ⟨rfl, hb⟩; have HO1 := Aside0.mk (Kd.R_below HO.out hb); have hcell1 := cell_below hcell hb; have HC1 := Aside0.mk (Kd.C_below HC0.out hb); have m_ := Aside0.mk (below_step HB.out hb); clear HB; have HB := m_; clear m_; clear hb hcell HC0 HO; have hcell := hcell1; clear hcell1)
        go_ret2
        rw [HFIN.out]
        exact ⟨_, rfl, Kd.S_nil _ _ _ _ _, HB.out⟩
    · have g2 : decide (k < l.length) = false := decide_eq_false h1
      have hkl : k = l.length := by omega
      subst hkl
      have hz : ∀ s ∈ l, sCheck s = 0 := fun s hs => by
        obtain ⟨i, hi, rfl⟩ := List.mem_iff_getElem.1 hs
        exact HZ.out i hi hi
      have h256 : ∀ s ∈ l, s.length ≤ 256 := fun s hs => ((sCheck_ok s).1 (hz s hs)).1
      have hmay := flat_may hz
      have hfin : sParts l = (if (pFold (kindOf l) (cutsOf l.flatten) ([], [])).2.any (fun s => decide (256 < s.length)) then ([], 5) else ((pFold (kindOf l) (cutsOf l.flatten) ([], [])).2, 0)) := by
        unfold sParts
        rw [if_neg hm, if_neg (fun h => h (firstErr_all hz))]
      have hal2 := HAL.out
      rw [List.take_length] at hal2
      rw [← hal2] at hfin hmay
      obtain ⟨m, hm1, hm2⟩ : ∃ m, (cutsOf all).length = m + 1 ∧ m ≤ 20000 := by
        have h8 : (0 : Int) ∈ cutsOf all := ((cutsOf_ok _ hmay).2 0).2 (.inl (.inl rfl))
        have h9 := List.length_pos_of_mem h8
        have h7 := cuts_len all
        exact ⟨(cutsOf all).length - 1, by omega, by omega⟩
      have hct := colophonref17_Cuts.calls 100000 A2 c2 all _ wr (Kd.R_reads' HO.out).2.2 (Kd.R_reads' HO.out).2.1 (cuts_f all (by omega) (by omega))
      have hbt := fun (W : World) (a : Int) (hW : Kd.C (Kd.slice 39 k39) W A l.length l) => colophonref17_bits.calls 401 A c l a (kindOf l a) W hW hc (bits_f l a (by omega) h256 (by omega))
      obtain ⟨cu, hcu⟩ : ∃ cu, cutsOf all = cu := ⟨_, rfl⟩
      obtain ⟨f, hf⟩ : ∃ f, kindOf l = f := ⟨_, rfl⟩
      have hkb : ∀ a, 0 ≤ f a ∧ f a < 4294967296 := fun a => by
        rw [← hf]
        have h := kindP_lt l a l.length
        have h2 : 2 ^ l.length ≤ 2 ^ 32 := Nat.pow_le_pow_right (by decide) (by omega)
        unfold kindOf
        omega
      rw [hf] at hbt
      rw [hcu, hf] at hfin
      rw [hcu] at hct hm1
      have HFIN := Aside0.mk hfin
      have HCT := Aside0.mk hct
      have HLM := Aside0.mk hm1
      have HBTT := Aside0.mk hbt
      have HKB := Aside0.mk hkb
      clear hfin hct hm1 hcu hf hmay h256 hz HZ hbt hkb hal2 HAL
      obtain ⟨wo, rfl⟩ : ∃ wo : World, wo = wr := ⟨_, rfl⟩
      go_wp2_with (go_at_call 38; refine (HCT.out).mono ?_; rintro e w3 ⟨v, rfl, hR, hb⟩; obtain ⟨A3, c3, e3⟩ := Kd.R_slice hR; subst e3; rw [HLM.out] at hR ⊢; have HCR := Aside0.mk hR; have HB3 := Aside0.mk (below_step HB.out hb); obtain ⟨g, c9, e3, hgc, hgl, _⟩ := Kd.R_form HCR.out (by have := HLM.out; omega); rw [HLM.out] at e3; cases e3; clear hR hb)
      clear HO
      go_loopw [7, 8, 10] (fun s7 s8 s10 W => ∃ (j : Nat) (Ak A2 : Option Addr) (ck c2 : Nat) (ks : List Int) (out : List (List Sp)), s10 = .int .i64 j ∧ s7 = .slice Ak ks.length ck ∧ s8 = .slice A2 out.length c2 ∧ j ≤ m ∧ Aside0 (ks.length = out.length ∧ out.length ≤ j ∧ ∀ s ∈ out, s.length ≤ j) ∧ Aside0 (pFold f (cu.drop j) (ks, out) = pFold f cu ([], [])) ∧ Aside0 (Kd.R (Kd.int .i64) 3 W w.heap.size (fun k => w3.heap.size ≤ k) (.slice Ak ks.length ck) ks) ∧ Aside0 (Kd.S (Kd.slice 39 k39) 22 W w.heap.size (fun k => w3.heap.size ≤ k) (.slice A2 out.length c2) out) ∧ Aside0 (Below w3.heap.size w3 W)) (fun _ _ s10 _ => m - (intOf s10).toNat)
      case atStart => exact ⟨0, none, none, 0, 0, [], [], rfl, rfl, rfl, Nat.zero_le _, ⟨rfl, Nat.le_refl _, fun s hs => nomatch hs⟩, ⟨rfl⟩, ⟨Kd.R_nil _ _ _ _ _⟩, ⟨Kd.S_nil _ _ _ _ _⟩, ⟨Below.refl _ _⟩⟩
      case round =>
        obtain ⟨j, Ak, A2, ck, c2, ks, out, rfl, rfl, rfl, hj, HKS, HPF, HKR, HO, HBJ⟩ := hrel
        by_cases h2 : j < m
        · have g3 : decide (j < m) = true := decide_eq_true h2
          have hlm := HLM.out
          have hk0 : j < cu.length := by omega
          have hk1 : j + 1 < cu.length := by omega
          have z0 := (cell_own HCR.out j (by omega)).1
          have z1 := (cell_own HCR.out (j + 1) (by omega)).1
          have e0 : rd cu (j : Int) = cu[j] := rdI hk0
          have e1 : rd cu ((j + 1 : Nat) : Int) = cu[j + 1] := rdI hk1
          rw [e0] at z0
          rw [e1] at z1
          have hpf := HPF.out
          rw [List.drop_eq_getElem_cons hk0, List.drop_eq_getElem_cons hk1, show pFold f (cu[j] :: cu[j + 1] :: cu.drop (j + 1 + 1)) (ks, out) = pFold f (cu[j + 1] :: cu.drop (j + 1 + 1)) (pAdd (f cu[j]) cu[j] cu[j + 1] (ks, out)) from rfl, ← List.drop_eq_getElem_cons hk1] at hpf
          obtain ⟨a, ha⟩ : ∃ a, cu[j] = a := ⟨_, rfl⟩
          obtain ⟨a2, ha2⟩ : ∃ a, cu[j + 1] = a := ⟨_, rfl⟩
          rw [ha] at z0 hpf
          rw [ha2] at z1 hpf
          have x0 := cell_below z0 HBJ.out
          have x1 := cell_below z1 HBJ.out
          have HZZ := Aside0.mk (And.intro z0 z1)
          have hbw := below_step HB3.out HBJ.out
          have hbt := HBTT.out wr a (Kd.C_below HRW.out hbw)
          obtain ⟨kd, hkd⟩ : ∃ kd, f a = kd := ⟨_, rfl⟩
          have hkb := HKB.out a
          rw [hkd] at hbt hpf hkb
          have hbt2 : Calls Try.prog 51 #[.slice A l.length c, .int .i64 a] wr fun e w' => e = .returned (.int .i64 kd) ∧ ∃ m, w' = wr.drewN m := hbt.mono fun _ _ h => ⟨h.1, h.2.out⟩
          have HBT := Aside0.mk hbt2
          have HPF2 := Aside0.mk hpf
          obtain ⟨hkd0, hkd1⟩ := hkb
          clear hpf HPF e0 e1 hlm ha ha2 hk0 hk1 z0 z1 hbt hbt2 hkd hbw
          go_wp2_with (go_at_call 51; refine (HBT.out).mono ?_; rintro e w' ⟨rfl, nb, rfl⟩)
          obtain ⟨wi, hwi⟩ : ∃ wi, wr.drewN nb = wi := ⟨_, rfl⟩
          have HKR2 := Aside0.mk (hwi ▸ Kd.R_drewN HKR.out nb)
          have HO2 := Aside0.mk (hwi ▸ Kd.S_drewN HO.out nb)
          have HBJ2 := Aside0.mk (hwi ▸ pw_below_drewN HBJ.out nb)
          rw [hwi]
          clear hwi HKR HO HBJ x0 x1
          have HKR := HKR2
          have HO := HO2
          have HBJ := HBJ2
          have HBW := Aside0.mk (below_step HB3.out HBJ.out)
          clear HKR2 HO2 HBJ2
          go_loopw [12] (fun s12 W => ∃ n : Nat, s12 = .int .i64 n ∧ n ≤ ks.length ∧ Aside0 (∀ i (hi : i < n) (h : i < ks.length), ks[i] ≠ kd) ∧ Aside0 (W = wi)) (fun s12 _ => ks.length - (intOf s12).toNat)
          case atStart => exact ⟨0, rfl, Nat.zero_le _, ⟨fun i hi => absurd hi (Nat.not_lt_zero _)⟩, ⟨rfl⟩⟩
          case round =>
            obtain ⟨n7, rfl, hn7, HNO, HWI⟩ := hrel
            have hwi2 := HWI.out
            subst hwi2
            clear HWI
            have x0 := cell_below HZZ.out.1 HBJ.out
            have x1 := cell_below HZZ.out.2 HBJ.out
            have hksl : ks.length ≤ 1000000 := by have := HKS.out.1; have := HKS.out.2.1; omega
            by_cases h3 : n7 < ks.length
            · have g4 : decide (n7 < ks.length) = true := decide_eq_true h3
              obtain ⟨gk, dk, ek, _, _, _⟩ := Kd.R_form HKR.out (by omega)
              injection ek with ek _ ek2
              subst ek; subst ek2
              have y0 := (cell_own HKR.out n7 h3).1
              rw [rdI h3] at y0
              by_cases h4 : ks[n7] = kd
              · have hidx := idxOf_at (y := kd) (Nat.le_of_lt h3) (fun i hi => HNO.out i hi (by omega)) (.inr ⟨h3, h4⟩)
                have g5 : (ks[n7] != kd) = false := bne_eq_false_iff_eq.mpr h4
                have HPA := Aside0.mk (show pAdd kd a a2 (ks, out) = (ks, out.set n7 (sAdd (out.getD n7 []) a a2)) by
                  unfold pAdd
                  rw [hidx, if_neg (by show ¬ n7 = ks.length; omega)])
                have g6 : ((n7 : Int) == (ks.length : Int)) = false := beq_eq_false_iff_ne.mpr (by omega)
                have g7 : (n7 == ks.length) = false := beq_eq_false_iff_ne.mpr (by omega)
                obtain ⟨y, hy⟩ : ∃ y, ks[n7] = y := ⟨_, rfl⟩
                rw [hy] at y0 g5
                obtain ⟨hks, hks2, _⟩ := HKS.out
                have hll : n7 < out.length := by omega
                have HLEN := Aside0.mk (Eq.refl out.length)
                have HLK := Aside0.mk hks
                have HBO := Aside0.mk HKS.out.2.2
                have HS7L := Aside0.mk (show (out.getD n7 []).length ≤ 30000 by
                  rw [List.getD_eq_getElem?_getD, List.getElem?_eq_getElem hll]
                  have := HBO.out _ (List.getElem_mem hll)
                  show (out[n7]).length ≤ 30000
                  omega)
                clear HNO h4 hy hidx hks HKS
                go_wp2
                clear g5 g6 g7 y0
                have HOA := Aside0.mk (S_apart HO.out HKR.out)
                have HKT := Aside0.mk (Kd.R_tight rfl HKR.out)
                have hfrs : ∀ k, wr.heap.size ≤ k → w3.heap.size ≤ k ∧ some k ≠ (Value.slice (some ⟨gk, 0, none⟩) ks.length ck).ownBlock := fun k hk => ⟨Nat.le_trans HBJ.out.size hk, fun he => (by
                  obtain ⟨inner, ho⟩ := Kd.R_own HKR.out
                  have := own_lt ho k he.symm
                  omega)⟩
                have HFRS := Aside0.mk hfrs
                clear hfrs
                obtain ⟨g7, d7, e7, hgb7, hgl7, _⟩ := Kd.R_form (Kd.S_R HOA.out) (by omega)
                injection e7 with e7 _ e8
                subst e7; subst e8
                obtain ⟨oki, cs7, hcl7, hM7, hcc7, hfr7, hoki7, hH7⟩ := Kd.S_elem HOA.out ([] : List Sp) (n7 : Int) (by omega) (by omega)
                obtain ⟨vi, rfl, hRi⟩ := hM7
                rw [Int.toNat_natCast] at hRi hcc7 hfr7
                obtain ⟨s7, hs7⟩ : ∃ s, out.getD n7 [] = s := ⟨_, rfl⟩
                rw [hs7] at hRi
                obtain ⟨Ai, ci, e9⟩ := Kd.R_slice hRi
                subst e9
                have q0 := hcc7 0 _ rfl
                have q1 := hfr7 0
                rw [show (Kd.slice 39 k39).sz = 1 from rfl, Nat.mul_one, Nat.add_zero] at q0 q1
                have hqn : ¬ oki g7 := fun h => (hoki7 g7 h).2 rfl
                have hB7 : w3.heap.size ≤ g7 ∧ some g7 ≠ (Value.slice (some ⟨gk, 0, none⟩) ks.length ck).ownBlock := (Kd.S_R HOA.out).1 g7 (by simp [Value.ownBlock])
                have HB7N := Aside0.mk hB7
                have HFAR := Aside0.mk (show ∀ k, some k = (Value.slice (some ⟨gk, 0, none⟩) ks.length ck).ownBlock → k ≠ g7 from fun k hk he => hB7.2 (by rw [← he]; exact hk))
                obtain ⟨hB7, _⟩ := hB7
                have HQ := Aside0.mk (And.intro q0 (And.intro q1 hqn))
                have hput := fun W (hW : Below wr.heap.size wr W) => add_c oki (.slice Ai s7.length ci) s7 a a2 w wr W HBW.out hRi (hs7 ▸ HS7L.out) hW
                have HPUT := Aside0.mk hput
                have HH7 := Aside0.mk (Kd.H_widen hH7)
                have HOK := Aside0.mk hoki7
                have HSG := Aside0.mk hs7
                clear hput hH7 hRi hcc7 hfr7 hoki7 hs7 hcl7 hqn HOA
                have p0 : (0 : Int) ≤ (j : Int) + 1 := by omega
                have p1 : (j : Int) + 1 < (m : Int) + 1 := by omega
                have p2 : (0 : Int) ≤ (n7 : Int) := by omega
                have p3 : (j : Int) < (m : Int) + 1 := by omega
                have vw := IntWalk.i64_in ((j : Int) + 1) (by omega)
                have HBO2 := Aside0.mk (set_bound HBO.out HSG.out a a2 n7)
                have hpa := HPA.out
                rw [HSG.out] at hpa
                have hpf9 := HPF2.out
                rw [hpa] at hpf9
                have HPF9 := Aside0.mk hpf9
                clear hpa hpf9 HPA HPF2 HSG HBO
                go_region_with (go_at_call 39; refine (HPUT.out _ (by repeat (first | exact Below.refl _ _ | apply below_drew1 | apply pw_below_drewN))).mono ?_; rintro e w9 ⟨A5, c5, rfl, hR9, hb9, hk9⟩; have HR9 := Aside0.mk hR9; have HB9 := Aside0.mk hb9; have HK9 := Aside0.mk hk9; have q0 : w9.cell? ⟨g7, n7, none⟩ = some (.slice Ai s7.length ci) := cell_kept HQ.out.1 HK9.out HQ.out.2.2; have q1 : w9.frozen? ⟨g7, n7, none⟩ = false := frozen_kept HQ.out.1 HQ.out.2.1 HK9.out HQ.out.2.2; clear hR9 hb9 hk9)
                all_goals
                  go_wp2
                  go_roundw
                  case measure => show m - ((j : Int) + 1).toNat < m - (j : Int).toNat; omega
                  case rel =>
                    exact ⟨j + 1, _, _, _, _, ks, _, rfl, rfl, by rw [List.length_set], by omega, ⟨by rw [List.length_set]; exact HLK.out, by rw [List.length_set]; omega, HBO2.out⟩, HPF9, ⟨Kd.R_mono (Kd.R_far (Kd.R_kept HKT.out HK9.out (fun k hk hn => (HOK.out k hn).1.2 hk)) (fun k hk => HFAR.out k hk) _) (fun k hk => HKR.out.1 k hk.symm)⟩, ⟨Kd.S_mono (row_back2 HH7.out HK9.out HR9.out HOK.out HFRS.out hgl7 hll (by first | exact HLEN.out | rfl)) (fun k hk => hk.1)⟩, ⟨Below.setCell ((below_of_kept HBJ.out HK9.out HB9.out HBW.out (fun k hk => (HOK.out k hk).1.1))) hB7 _⟩⟩
              · have HNO2 := Aside0.mk (show ∀ i (hi : i < n7 + 1) (h : i < ks.length), ks[i] ≠ kd from fun i hi h => by
                  by_cases hin : i = n7
                  · subst hin; exact h4
                  · exact HNO.out i (by omega) h)
                have g5 : (ks[n7] != kd) = true := bne_iff_ne.mpr h4
                obtain ⟨y, hy⟩ : ∃ y, ks[n7] = y := ⟨_, rfl⟩
                rw [hy] at y0 g5
                clear HNO h4 hy
                go_wp2
                go_roundw
                case measure => show ks.length - ((n7 : Int) + 1).toNat < ks.length - (n7 : Int).toNat; omega
                case rel => exact ⟨n7 + 1, rfl, by omega, HNO2, ⟨by first | trivial | rfl⟩⟩
            · have g4 : decide (n7 < ks.length) = false := decide_eq_false h3
              have hn7e : n7 = ks.length := by omega
              have hidx := idxOf_at (y := kd) hn7 (fun i hi => HNO.out i hi (by omega)) (.inl hn7e)
              obtain ⟨hks, hks2, _⟩ := HKS.out
              have hno : n7 = out.length := by omega
              have HPA := Aside0.mk (show pAdd kd a a2 (ks, out) = (ks ++ [kd], (out ++ [[]]).set n7 (sAdd ((out ++ [[]]).getD n7 []) a a2)) by
                rw [hno]
                unfold pAdd
                rw [if_pos (show ks.idxOf kd = ks.length by omega)]
                simp)
              have hl7 : (out ++ [([] : List Sp)]).length = n7 + 1 := by simp [hno]
              have hs7l : ((out ++ [([] : List Sp)]).getD n7 []).length ≤ 0 := by rw [hno]; simp
              have HBO := Aside0.mk (show ∀ s ∈ out ++ [([] : List Sp)], s.length ≤ j from fun s hs => by
                rcases List.mem_append.1 hs with h | h
                · exact HKS.out.2.2 s h
                · rw [List.mem_singleton.1 h]; exact Nat.zero_le _)
              have HLK := Aside0.mk (show (ks ++ [kd]).length = (out ++ [([] : List Sp)]).length by rw [hl7, List.length_append, ← hn7e]; rfl)
              have HS7L := Aside0.mk (show ((out ++ [([] : List Sp)]).getD n7 []).length ≤ 30000 by omega)
              have hkj : ks.length ≤ j := by omega
              have hoj : out.length ≤ j := by omega
              subst hn7e
              have HL7 := Aside0.mk hl7
              clear hidx hks HKS HNO hno hl7 hs7l x0 x1
              go_wp2_with (first | ((with_reducible refine gate_builtin (b := .append) (xs := #[.tmp 70, .tmp 72]) rfl ?_); at_builtin; go_loud (refine Kd.R_append (Kd.int .i64) (w0 := w) w.heap.size rfl (.tmp 70) (.tmp 72) 53 3 (.int .i64 0) 8 rfl Try.underlying53 info3 rfl (by decide) (by omega) (.slice Ak ks.length ck) ks kd [.int .i64 kd] (fun k => w3.heap.size ≤ k) (fun _ => False) rfl (congrArg (fun n => Value.slice (some ⟨n, 0, none⟩) 1 1) (by simp)) ?aP (fun _ hk => hk.elim) ?aF ?aO ?aB ?aS ?aL ?_; (case aP => rfl); (case aB => exact HBW.out); (case aF => exact (fun k hk => Nat.le_trans HBJ.out.size hk)); (case aO => exact HKR.out); (case aS => exact HBW.out.size); (case aL => omega); intro v5 w5 hK5 hb5 hg5 hat5; have HK5 := Aside0.mk hK5; have HO5 := Aside0.mk (Kd.S_mono (Kd.S_grown (S_apart HO.out HKR.out) hg5 (fun k hk => hk.2)) (fun k hk => hk.1)); have HBJ5 := Aside0.mk (HBJ.out.grown hg5 HBJ.out.size (fun k hk => HKR.out.1 k hk)); have HBW5 := Aside0.mk hb5; clear hK5 hb5 hg5 hat5)) | ((with_reducible refine gate_builtin (b := .append) (xs := #[.tmp 74, .tmp 75]) rfl ?_); at_builtin; go_loud (refine Kd.S_append (Kd.slice 39 k39) (w0 := w) w.heap.size rfl (.tmp 74) (.tmp 75) 43 22 (.slice none 0 0) 24 rfl Try.underlying43 infoSS rfl (by decide) (by decide) (.slice A2 out.length c2) out ([] : List Sp) [.slice none 0 0] (fun k => w3.heap.size ≤ k) (fun _ => False) rfl (congrArg (fun n => Value.slice (some ⟨n, 0, none⟩) 1 1) (by simp)) ?aP (fun _ hk => hk.elim) ?aF ?aO ?aB ?aS ?aL ?_; (case aP => exact ⟨_, rfl, Kd.R_nil _ _ _ _ _⟩); (case aF => exact (fun k hk => Nat.le_trans HBJ5.out.size hk)); (case aO => exact Kd.S_mono HO5.out (fun k hk => ⟨hk, fun h => h⟩)); (case aB => exact HBW5.out); (case aS => exact HBW5.out.size); (case aL => omega); intro v7 w7 hS7 hb7 hg7 hat7; have HS7 := Aside0.mk hS7; have HK7 := Aside0.mk (Kd.R_mono (Kd.R_grown (R_apart HK5.out (Kd.S_R HO5.out)) hg7 (fun k hk => hk.2)) (fun k hk => hk.1)); have HBJ7 := Aside0.mk (HBJ5.out.grown hg7 HBJ5.out.size (fun k hk => (Kd.S_R HO5.out).1 k hk)); have HBW7 := Aside0.mk hb7; clear hS7 hb7 hg7 hat7)))
              obtain ⟨A7, c7, e7⟩ := Kd.R_slice (Kd.S_R HS7.out)
              subst e7
              obtain ⟨Ak7, ck7, e7⟩ := Kd.R_slice HK7.out
              subst e7
              have x0 := cell_below HZZ.out.1 HBJ7.out
              have x1 := cell_below HZZ.out.2 HBJ7.out
              obtain ⟨out7, ho7⟩ : ∃ o, out ++ [([] : List Sp)] = o := ⟨_, rfl⟩
              rw [ho7] at HS7 HPA HBO HLK HS7L HL7 ⊢
              have hll : ks.length < out7.length := by have := HL7.out; omega
              have ho7l : out7.length ≤ j + 1 := by have := HL7.out; omega
              have HLEN := Aside0.mk (Eq.refl out7.length)
              obtain ⟨ks7, hks7⟩ : ∃ q, ks ++ [kd] = q := ⟨_, rfl⟩
              rw [hks7] at HK7 HPA HLK ⊢
              clear ho7 hks7 HL7 HKR HO HBJ HBW HK5 HO5 HBJ5 HBW5 hks2 hn7 h3 g4
              generalize ks.length = n7 at *
              have HOA := Aside0.mk (S_apart HS7.out HK7.out)
              have HKT := Aside0.mk (Kd.R_tight rfl HK7.out)
              have hfrs : ∀ k, w7.heap.size ≤ k → w3.heap.size ≤ k ∧ some k ≠ (Value.slice Ak7 ks7.length ck7).ownBlock := fun k hk => ⟨Nat.le_trans HBJ7.out.size hk, fun he => (by
                obtain ⟨inner, ho⟩ := Kd.R_own HK7.out
                have := own_lt ho k he.symm
                omega)⟩
              have HFRS := Aside0.mk hfrs
              clear hfrs
              obtain ⟨g7, d7, e7, hgb7, hgl7, _⟩ := Kd.R_form (Kd.S_R HOA.out) (by omega)
              injection e7 with e7 _ e8
              subst e7; subst e8
              obtain ⟨oki, cs7, hcl7, hM7, hcc7, hfr7, hoki7, hH7⟩ := Kd.S_elem HOA.out ([] : List Sp) (n7 : Int) (by omega) (by omega)
              obtain ⟨vi, rfl, hRi⟩ := hM7
              rw [Int.toNat_natCast] at hRi hcc7 hfr7
              obtain ⟨s7, hs7⟩ : ∃ s, out7.getD n7 [] = s := ⟨_, rfl⟩
              rw [hs7] at hRi
              obtain ⟨Ai, ci, e9⟩ := Kd.R_slice hRi
              subst e9
              have q0 := hcc7 0 _ rfl
              have q1 := hfr7 0
              rw [show (Kd.slice 39 k39).sz = 1 from rfl, Nat.mul_one, Nat.add_zero] at q0 q1
              have hqn : ¬ oki g7 := fun h => (hoki7 g7 h).2 rfl
              have hB7 : w3.heap.size ≤ g7 ∧ some g7 ≠ (Value.slice Ak7 ks7.length ck7).ownBlock := (Kd.S_R HOA.out).1 g7 (by simp [Value.ownBlock])
              have HB7N := Aside0.mk hB7
              have HFAR := Aside0.mk (show ∀ k, some k = (Value.slice Ak7 ks7.length ck7).ownBlock → k ≠ g7 from fun k hk he => hB7.2 (by rw [← he]; exact hk))
              obtain ⟨hB7, _⟩ := hB7
              have HQ := Aside0.mk (And.intro q0 (And.intro q1 hqn))
              have hput := fun W (hW : Below w7.heap.size w7 W) => add_c oki (.slice Ai s7.length ci) s7 a a2 w w7 W HBW7.out hRi (hs7 ▸ HS7L.out) hW
              have HPUT := Aside0.mk hput
              have HH7 := Aside0.mk (Kd.H_widen hH7)
              have HOK := Aside0.mk hoki7
              have HSG := Aside0.mk hs7
              clear hput hH7 hRi hcc7 hfr7 hoki7 hs7 hcl7 hqn HOA
              have p0 : (0 : Int) ≤ (j : Int) + 1 := by omega
              have p1 : (j : Int) + 1 < (m : Int) + 1 := by omega
              have p2 : (0 : Int) ≤ (n7 : Int) := by omega
              have p3 : (j : Int) < (m : Int) + 1 := by omega
              have vw := IntWalk.i64_in ((j : Int) + 1) (by omega)
              have HBO2 := Aside0.mk (set_bound HBO.out HSG.out a a2 n7)
              have hpa := HPA.out
              rw [HSG.out] at hpa
              have hpf9 := HPF2.out
              rw [hpa] at hpf9
              have HPF9 := Aside0.mk hpf9
              clear hpa hpf9 HPA HPF2 HSG HBO
              go_region_with (go_at_call 39; refine (HPUT.out _ (by repeat (first | exact Below.refl _ _ | apply below_drew1 | apply pw_below_drewN))).mono ?_; rintro e w9 ⟨A5, c5, rfl, hR9, hb9, hk9⟩; have HR9 := Aside0.mk hR9; have HB9 := Aside0.mk hb9; have HK9 := Aside0.mk hk9; have q0 : w9.cell? ⟨g7, n7, none⟩ = some (.slice Ai s7.length ci) := cell_kept HQ.out.1 HK9.out HQ.out.2.2; have q1 : w9.frozen? ⟨g7, n7, none⟩ = false := frozen_kept HQ.out.1 HQ.out.2.1 HK9.out HQ.out.2.2; clear hR9 hb9 hk9)
              all_goals
                go_wp2
                go_roundw
                case measure => show m - ((j : Int) + 1).toNat < m - (j : Int).toNat; omega
                case rel =>
                  exact ⟨j + 1, _, _, _, _, ks7, _, rfl, rfl, by rw [List.length_set], by omega, ⟨by rw [List.length_set]; exact HLK.out, by rw [List.length_set]; omega, HBO2.out⟩, HPF9, ⟨Kd.R_mono (Kd.R_far (Kd.R_kept HKT.out HK9.out (fun k hk hn => (HOK.out k hn).1.2 hk)) (fun k hk => HFAR.out k hk) _) (fun k hk => HK7.out.1 k hk.symm)⟩, ⟨Kd.S_mono (row_back2 HH7.out HK9.out HR9.out HOK.out HFRS.out hgl7 hll (by first | exact HLEN.out | rfl)) (fun k hk => hk.1)⟩, ⟨Below.setCell ((below_of_kept HBJ7.out HK9.out HB9.out HBW7.out (fun k hk => (HOK.out k hk).1.1))) hB7 _⟩⟩
        · have g3 : decide (j < m) = false := decide_eq_false h2
          have hfin2 : pFold f cu ([], []) = (ks, out) := by
            have hlm := HLM.out
            rw [← HPF.out, List.drop_eq_getElem_cons (by omega), List.drop_eq_nil_of_le (by omega)]
            rfl
          have hfin := HFIN.out
          rw [hfin2] at hfin
          simp only at hfin
          have HFN := Aside0.mk hfin
          have HCO := Aside0.mk (Kd.R_reads' (Kd.S_R HO.out)).2.2
          have hol : out.length ≤ 1000000 := by have := HKS.out.2.1; omega
          have HBW := Aside0.mk (below_step HB3.out HBJ.out)
          clear HFIN HPF hfin2 hfin
          obtain ⟨wj, rfl⟩ : ∃ wj : World, wj = wr := ⟨_, rfl⟩
          go_wp2
          go_loopw [13] (fun s13 W => ∃ n : Nat, s13 = .int .i64 n ∧ n ≤ out.length ∧ Aside0 ((out.take n).any (fun s => decide (256 < s.length)) = false) ∧ Aside0 (W = wj)) (fun s13 _ => out.length - (intOf s13).toNat)
          case atStart => exact ⟨0, rfl, Nat.zero_le _, ⟨rfl⟩, ⟨rfl⟩⟩
          case round =>
            obtain ⟨n, rfl, hn, HNO, HWI⟩ := hrel
            have hwi2 := HWI.out
            subst hwi2
            clear HWI
            by_cases h3 : n < out.length
            · have g4 : decide (n < out.length) = true := decide_eq_true h3
              obtain ⟨ad, A0, c0, e0, hcell, hl0c, hC0⟩ := at_L2 HCO.out (n : Int) (by omega) (by omega)
              cases e0
              rw [Int.toNat_natCast] at hcell
              rw [rdL h3] at hcell
              have ht : (out.take (n + 1)).any (fun s => decide (256 < s.length)) = ((out.take n).any (fun s => decide (256 < s.length)) || decide (256 < (out[n]).length)) := by
                rw [List.take_succ_eq_append_getElem h3, List.any_append]
                simp
              have hm0 : decide (256 < (out[n]).length) = true → out.any (fun s => decide (256 < s.length)) = true := fun h => List.any_eq_true.2 ⟨_, List.getElem_mem h3, h⟩
              rw [HNO.out, Bool.false_or] at ht
              obtain ⟨q, hq⟩ : ∃ q, (out[n]).length = q := ⟨_, rfl⟩
              rw [hq] at hcell ht hm0
              clear hq hl0c hC0
              by_cases hx : 256 < q
              · have g5 : decide (256 < (q : Int)) = true := decide_eq_true (by omega)
                have hf := HFN.out
                rw [if_pos (hm0 (decide_eq_true hx))] at hf
                have HFIN := Aside0.mk hf
                clear ht hm0 hf HNO
                go_wp2
                go_ret2
                rw [HFIN.out]
                exact ⟨_, rfl, Kd.S_nil _ _ _ _ _, HBW.out⟩
              · have g5 : decide (256 < (q : Int)) = false := decide_eq_false (by omega)
                rw [decide_eq_false hx] at ht
                have HT := Aside0.mk ht
                clear ht hm0 HNO
                go_wp2
                go_roundw
                case measure => show out.length - ((n : Int) + 1).toNat < out.length - (n : Int).toNat; omega
                case rel => exact ⟨n + 1, rfl, by omega, HT, ⟨by first | trivial | rfl⟩⟩
            · have g4 : decide (n < out.length) = false := decide_eq_false h3
              have hno := HNO.out
              rw [List.take_of_length_le (by omega)] at hno
              have hf := HFN.out
              rw [if_neg (by rw [hno]; simp)] at hf
              have HFIN := Aside0.mk hf
              clear hno hf HNO
              go_wp2
              go_ret2
              rw [HFIN.out]
              exact ⟨_, rfl, Kd.S_mono HO.out (fun _ _ => trivial), HBW.out⟩
theorem RParts_ok (A : Option Addr) (c : Nat) (l : List (List Sp)) (w : World) (hr : Kd.C (Kd.slice 39 k39) w A l.length l) (hc : l.length ≤ c) : Calls Try.prog 31 #[.slice A l.length c] w fun e w' => ∃ v : Value, e = .returned (.tuple #[v, .int .i64 (sParts l).2]) ∧ Kd.S (Kd.slice 39 k39) 22 w' w.heap.size (fun _ => True) v (sParts l).1 ∧ Below w.heap.size w w' := by
  by_cases hm : 32 < l.length
  · exact RParts_many A c l w hr hc hm
  · exact RParts_one A c l w hr hc hm
theorem cell_drew1 {W : World} {p : Addr} {v : Value} (h : W.cell? p = some v) : W.drew.cell? p = some v := h
abbrev SV := Option Addr × Nat × Nat
def encSV (x : SV) : Value := .slice x.1 x.2.1 x.2.2
def kSV : Kd SV := Kd.scalar encSV (fun _ => rfl)
def CutOk (w : World) (cs : List SV) (ss : List (List Sp)) : Prop := cs.length = ss.length ∧ ∀ (i : Nat) (x : SV) (s : List Sp), cs[i]? = some x → ss[i]? = some s → x.2.1 = s.length ∧ s.length ≤ x.2.2 ∧ Kd.C k39 w x.1 s.length s
theorem CutOk.snoc {w : World} {cs : List SV} {ss : List (List Sp)} (h : CutOk w cs ss) {A : Option Addr} {n c : Nat} {s : List Sp} (hn : n = s.length) (hc : s.length ≤ c) (hC : Kd.C k39 w A s.length s) : CutOk w (cs ++ [(A, n, c)]) (ss ++ [s]) := by
  refine ⟨by rw [List.length_append, List.length_append, h.1]; rfl, fun i x t hx ht => ?_⟩
  by_cases hi : i < cs.length
  · rw [List.getElem?_append_left hi] at hx
    rw [List.getElem?_append_left (by rw [← h.1]; exact hi)] at ht
    exact h.2 i x t hx ht
  · rw [List.getElem?_append_right (by omega)] at hx
    rw [List.getElem?_append_right (by rw [← h.1]; omega), ← h.1] at ht
    match hj : i - cs.length, hx, ht with
    | 0, hx, ht =>
      injection hx with hx
      injection ht with ht
      subst hx; subst ht
      exact ⟨hn, hc, hC⟩
    | k + 1, hx, ht => cases hx
theorem cut_reads {w W : World} {base : Nat} {ok : Nat → Prop} {A : Option Addr} {n c : Nat} {cs : List SV} {ss : List (List Sp)} (h : Kd.R kSV 22 W base ok (.slice A n c) cs) (ho : CutOk w cs ss) (hb : Below w.heap.size w W) (hm : n ≤ 1000000) :
    n = ss.length ∧ n ≤ c ∧ Kd.C (Kd.slice 39 k39) W A ss.length ss := by
  obtain ⟨h1, h2, h3⟩ := Kd.R_reads' h
  have hl : n = ss.length := h1.trans ho.1
  refine ⟨hl, h2, ⟨rfl, by omega, fun hp => ?_⟩⟩
  obtain ⟨ad, e, hcell⟩ := h3.2.2 (by rw [ho.1]; exact hp)
  refine ⟨ad, e, fun j s hj => ?_⟩
  have hjl : j < ss.length := (List.getElem?_eq_some_iff.1 hj).1
  obtain ⟨x, hx⟩ : ∃ x, cs[j]? = some x := ⟨_, List.getElem?_eq_getElem (by rw [ho.1]; exact hjl)⟩
  obtain ⟨q, _, hq, hcc⟩ := hcell j x hx
  obtain ⟨k1, k2, k3⟩ := ho.2 j x s hx hj
  refine ⟨[.slice x.1 s.length x.2.2], rfl, ⟨_, _, rfl, k2, Kd.C_below k3 hb⟩, fun i u hi => hcc i u ?_⟩
  obtain rfl : q = [encSV x] := hq
  rw [show encSV x = .slice x.1 s.length x.2.2 by unfold encSV; rw [k1]]
  exact hi
theorem own_lt2 {α : Type} {d : Kd α} {e : Nat} {W : World} {base : Nat} {ok : Nat → Prop} {v : Value} {xs : List α} (h : Kd.R d e W base ok v xs) {k : Nat} (hk : some k = v.ownBlock) : k < W.heap.size := by
  obtain ⟨inner, ho⟩ := Kd.R_own h
  exact own_lt ho k hk.symm
theorem in_step {W w5 : World} {base : Nat} {vc vc' vi : Value} {ss : List (List Sp)} (h : Kd.R (Kd.slice 39 k39) 22 W base (fun k => some k ≠ vc.ownBlock) vi ss) (hg : W.grownBy w5 vc.ownBlock) (hat : vc'.ownBlock = vc.ownBlock ∨ ∃ b, vc'.ownBlock = some b ∧ W.heap.size ≤ b) :
    Kd.R (Kd.slice 39 k39) 22 w5 base (fun k => some k ≠ vc'.ownBlock) vi ss := by
  refine Kd.R_mono (Kd.R_grown (Kd.R_bound h) hg (fun k hk => hk.1)) (fun k hk he => ?_)
  rcases hat with h1 | ⟨b, h1, h2⟩
  · exact hk.1 (he.trans h1)
  · rw [h1] at he
    injection he with he
    have := hk.2.2.1
    omega
theorem cut_step {W w7 : World} {base : Nat} {vc vi : Value} {cs : List SV} {ss : List (List Sp)} (hc : Kd.R kSV 22 W base (fun _ => True) vc cs) (hi : Kd.R (Kd.slice 39 k39) 22 W base (fun k => some k ≠ vc.ownBlock) vi ss) (hg : W.grownBy w7 vi.ownBlock) :
    Kd.R kSV 22 w7 base (fun _ => True) vc cs :=
  Kd.R_mono (Kd.R_grown (Kd.R_tight rfl hc) hg (fun k hk he => hi.1 k he.symm hk)) (fun _ _ => trivial)
theorem sv_cell {W : World} {base g n c : Nat} {ok : Nat → Prop} {cs : List SV} {i : Nat} {x : SV} (h : Kd.R kSV 22 W base ok (.slice (some ⟨g, 0, none⟩) n c) cs) (hx : cs[i]? = some x) : W.cell? ⟨g, i, none⟩ = some (.slice x.1 x.2.1 x.2.2) := by
  obtain ⟨_, _, h3⟩ := Kd.R_reads' h
  have hi := (List.getElem?_eq_some_iff.1 hx).1
  obtain ⟨ad, e, hcell⟩ := h3.2.2 (by omega)
  injection e with e
  subst e
  obtain ⟨q, _, hq, hcc⟩ := hcell i x hx
  obtain rfl : q = [encSV x] := hq
  have := hcc 0 _ rfl
  rwa [show kSV.sz = 1 from rfl, Nat.mul_one, Nat.add_zero, show (⟨g, 0, none⟩ : Addr).add i = ⟨g, i, none⟩ by simp [Addr.add]; omega] at this
theorem lit_sv (W : World) (g : Nat) (x : SV) (t : TypeId) (hg : W.heap.size = g) : Kd.C kSV (W.alloc (.cells #[.slice x.1 x.2.1 x.2.2] t)) (some ⟨g, 0, none⟩) 1 [x] := by
  subst hg
  refine ⟨rfl, by decide, fun _ => ⟨_, rfl, fun j p hp => ?_⟩⟩
  match j, hp with
  | 0, hp =>
    injection hp with hp
    subst hp
    refine ⟨[encSV x], rfl, rfl, fun i u hi => ?_⟩
    match i, hi with
    | 0, hi =>
      injection hi with hi
      subst hi
      exact (blk_cell (blk_new W _) 0).trans rfl
theorem sameAll_l (a : List (List Sp)) (hl : a.length ≤ 1000000) (hs : ∀ s ∈ a, s.length ≤ 1000) : ∀ (n i k : Nat), a.length - i = n → n + 2000 < k → colophonref17_SameAll.l0 k a a i = some true
  | n, i, 0, _, h => absurd h (Nat.not_lt_zero _)
  | n, i, k + 1, hn, hk => by
    unfold colophonref17_SameAll.l0
    by_cases hi : i < a.length
    · have := hs a[i] (List.getElem_mem hi)
      rw [if_pos (by omega), if_pos (by omega), if_pos (by omega), rdL hi, same_f a[i] a[i] (by omega) (by omega), Option.bind_some, w1 (by omega), if_pos (by simp)]
      exact sameAll_l a hl hs (n - 1) (i + 1) k (by omega) (by omega)
    · rw [if_neg (by omega)]
theorem sameAll_f (a : List (List Sp)) (hl : a.length ≤ 1000000) (hs : ∀ s ∈ a, s.length ≤ 1000) {k : Nat} (hk : a.length + 2000 < k) : colophonref17_SameAll.f k a a = some true := by
  unfold colophonref17_SameAll.f
  rw [if_pos rfl]
  exact sameAll_l a hl hs a.length 0 k (by omega) (by omega)
theorem pFold_len (f : Int → Int) : ∀ (c : List Int) (st : PSt), (pFold f c st).2.length ≤ st.2.length + c.length
  | [], st => by simp [pFold]
  | [a], st => by simp [pFold]
  | a :: b :: r, st => by
    rw [show pFold f (a :: b :: r) st = pFold f (b :: r) (pAdd (f a) a b st) from rfl]
    have h := pFold_len f (b :: r) (pAdd (f a) a b st)
    have h2 : (pAdd (f a) a b st).2.length ≤ st.2.length + 1 := by
      unfold pAdd
      split
      · simp
      · simp
    simp only [List.length_cons] at h ⊢
    omega
theorem sParts_bound (l : List (List Sp)) : (sParts l).1.length ≤ 20000 ∧ ∀ s ∈ (sParts l).1, s.length ≤ 256 := by
  unfold sParts
  split
  · exact ⟨by simp, fun s hs => nomatch hs⟩
  · rename_i hm
    split
    · exact ⟨by simp, fun s hs => nomatch hs⟩
    · rename_i he
      have hz := firstErr_no (Decidable.not_not.1 he)
      split
      · exact ⟨by simp, fun s hs => nomatch hs⟩
      · rename_i ha
        refine ⟨?_, fun s hs => ?_⟩
        · have h1 := pFold_len (kindOf l) (cutsOf l.flatten) ([], [])
          have h2 := cuts_len l.flatten
          have h3 := flat_len (fun s hs => ((sCheck_ok s).1 (hz s hs)).1) l.length
          rw [List.take_length] at h3
          simp at h1
          show (pFold (kindOf l) (cutsOf l.flatten) ([], [])).2.length ≤ 20000
          omega
        · rw [Bool.not_eq_true, List.any_eq_false] at ha
          have := ha s hs
          simpa using this
set_option maxRecDepth 100000 in
set_option maxHeartbeats 4000000 in
theorem SetParts_ok (A : Option Addr) (c : Nat) (l : List (List Sp)) (w : World) (hr : Kd.C (Kd.slice 39 k39) w A l.length l) (hc : l.length ≤ c) :
    Calls Try.prog 8 #[.slice A l.length c] w fun e w' => e = .returned (.bool true) ∧ Below w.heap.size w w' := by
  have HRW := Aside0.mk hr
  have hlm : l.length ≤ 9223372036854775807 := hr.2.1
  clear hr
  go_enter Try.func8, Try.ntmps8
  go_wp2
  go_loopw [3, 4, 5] (fun s3 s4 s5 W => ∃ (k : Nat) (Ai Ac : Option Addr) (ci cc : Nat) (ss : List (List Sp)) (cs : List SV), s5 = .int .i64 k ∧ s3 = .slice Ai ss.length ci ∧ s4 = .slice Ac cs.length cc ∧ k ≤ l.length ∧ k ≤ 40 ∧ ss.length ≤ 40 ∧ cs.length ≤ 40 ∧ Aside0 (cs.length = k) ∧ Aside0 (ss = (l.take k).map (fun s => s.take 60)) ∧ Aside0 (CutOk w cs ss) ∧ Aside0 (Kd.R kSV 22 W w.heap.size (fun _ => True) (.slice Ac cs.length cc) cs) ∧ Aside0 (Kd.R (Kd.slice 39 k39) 22 W w.heap.size (fun k => some k ≠ (Value.slice Ac cs.length cc).ownBlock) (.slice Ai ss.length ci) ss) ∧ Aside0 (Below w.heap.size w W)) (fun _ _ s5 _ => 40 - (intOf s5).toNat)
  case atStart => exact ⟨0, none, none, 0, 0, [], [], rfl, rfl, rfl, Nat.zero_le _, Nat.zero_le _, Nat.zero_le _, Nat.zero_le _, ⟨rfl⟩, ⟨rfl⟩, ⟨rfl, fun i x s h => by simp at h⟩, ⟨Kd.R_nil _ _ _ _ _⟩, ⟨Kd.R_nil _ _ _ _ _⟩, ⟨Below.refl _ _⟩⟩
  case round =>
    obtain ⟨k, Ai, Ac, ci, cc, ss, cs, rfl, rfl, rfl, hk, hk4, hsl, hcl, HCK, HSS, HCO, HCS, HIN, HB⟩ := hrel
    by_cases h1 : k < l.length ∧ k < 40
    · obtain ⟨h1, h2⟩ := h1
      have g1 : decide (k < l.length) = true := decide_eq_true h1
      have g2 : decide ((k : Int) < 40) = true := decide_eq_true (by omega)
      obtain ⟨ad, A0, c0, e0, hcell, hl0c, hC0⟩ := at_L2 HRW.out (k : Int) (by omega) (by omega)
      cases e0
      rw [Int.toNat_natCast] at hcell
      rw [rdL h1] at hcell hl0c hC0
      have hss2 : (l.take (k + 1)).map (fun s => s.take 60) = ss ++ [(l[k]).take 60] := by rw [List.take_succ_eq_append_getElem h1, List.map_append, ← HSS.out]; rfl
      obtain ⟨s0, hs0⟩ : ∃ s, l[k] = s := ⟨_, rfl⟩
      rw [hs0] at hcell hl0c hC0 hss2
      have hn0 : s0.length ≤ 9223372036854775807 := hC0.2.1
      obtain ⟨q, hq⟩ : ∃ q, s0.take 60 = q := ⟨_, rfl⟩
      have hql : q.length = min 60 s0.length := by rw [← hq, List.length_take]
      have hqC : Kd.C k39 w A0 q.length q := by
        rw [← hq]
        by_cases h3 : 60 ≤ s0.length
        · exact Kd.C_take hC0 (m := 60) h3
        · rw [List.take_of_length_le (by omega)]; exact hC0
      rw [hq] at hss2
      have hcut := cutS_to A0 c0 s0.length q.length (by omega) hl0c
      have hmi : min (s0.length : Int) 60 = (q.length : Int) := by omega
      have hmi2 : (if (60 : Int) < (s0.length : Int) then (60 : Int) else (s0.length : Int)) = (q.length : Int) := by split <;> omega
      have hmi3 : (if (s0.length : Int) < (60 : Int) then (s0.length : Int) else (60 : Int)) = (q.length : Int) := by split <;> omega
      have HSS2 := Aside0.mk hss2
      have HQC := Aside0.mk hqC
      have HY := Aside0.mk hcell
      have hcc : q.length ≤ c0 := by omega
      have hq60 : q.length ≤ 60 := by omega
      have y0 := cell_below hcell HB.out
      clear hss2 hqC hql hq hC0 hs0 hl0c HSS hcell
      go_wp2
      go_region_held3 (fun wx => wx.cell? (ad.add k) = some (.slice A0 s0.length c0)) (first | (go_keep; done) | (repeat (first | assumption | apply cell_alloc1 | apply cell_drewN1 | apply cell_drew1))) (first | ((refine Kd.R_append_rows_step kSV (w0 := w) w.heap.size (by rfl) (.tmp 21) (.tmp 33) 43 22 (.slice none 0 0) 24 (by rfl) Try.underlying43 infoSS rfl (by decide) (by decide) (.slice Ac cs.length cc) cs [(A0, q.length, c0)] _ 1 1 (fun _ => True) (fun _ => False) (by rfl) (by rfl) ?aO ?aR (fun _ _ h => h) (fun _ h => h.elim) ?aF ?aB ?aS ?aL ?_; (case aR => exact lit_sv _ _ _ _ (by simp)); (case aB => exact (by repeat (first | exact HB.out | apply below_alloc | apply below_drew1 | apply pw_below_drewN))); (case aF => exact (fun _ _ => trivial)); (case aO => exact (by (with_reducible repeat (first | apply Kd.R_alloc | apply Kd.R_drewN | apply Kd.R_drew)); exact HCS.out)); (case aS => exact below_size (by repeat (first | exact HB.out | apply below_alloc | apply below_drew1 | apply pw_below_drewN))); (case aL => omega); intro v5 w5 hK5 hb5 hg5 hat5; have HK5 := Aside0.mk hK5; have HB5 := Aside0.mk hb5; have HIN5 := Aside0.mk (in_step (by (with_reducible repeat (first | apply Kd.R_alloc | apply Kd.R_drewN | apply Kd.R_drew)); exact HIN.out) hg5 hat5); have y0 : w5.cell? (ad.add k) = some (.slice A0 s0.length c0) := cell_below HY.out hb5; clear hK5 hb5 hg5 hat5)))
      obtain ⟨A5, c5, e5⟩ := Kd.R_slice HK5.out
      subst e5
      have hco5 := HCO.out.snoc (A := A0) (n := q.length) (c := c0) rfl hcc HQC.out
      have hcl5 : (cs ++ [(A0, q.length, c0)]).length = k + 1 := by rw [List.length_append, HCK.out]; rfl
      have hx5 : (cs ++ [(A0, q.length, c0)])[k]? = some (A0, q.length, c0) := by rw [← HCK.out]; simp
      obtain ⟨cs5, hcs5⟩ : ∃ o, cs ++ [(A0, q.length, c0)] = o := ⟨_, rfl⟩
      rw [hcs5] at HK5 HIN5 hco5 hcl5 hx5 ⊢
      obtain ⟨g5, d5, e5, _, _, _⟩ := Kd.R_form HK5.out (by omega)
      injection e5 with e5 _ e6
      subst e5; subst e6
      have z0 : w5.cell? ⟨g5, k, none⟩ = some (.slice A0 q.length c0) := sv_cell HK5.out hx5
      have HCO5 := Aside0.mk hco5
      have HCK5 := Aside0.mk hcl5
      have hk5 : k < cs5.length := by omega
      have hcl5b : cs5.length ≤ 40 := by omega
      have HCP := Aside0.mk (show colophonref17_Copy.f q = some q by unfold colophonref17_Copy.f; rw [if_pos (by simp; omega)]; rfl)
      clear hcs5 hco5 hcl5 hx5 HCK HCO HCS HIN HB y0
      obtain ⟨A5, hA5⟩ : ∃ A5 : Option Addr, A5 = some ⟨g5, 0, none⟩ := ⟨_, rfl⟩
      go_wp2_with (first | (go_at_call 10; refine (colophonref17_Copy.calls A0 c0 q _ _ (Kd.C_below HQC.out HB5.out) hcc HCP.out).mono ?_; rintro e w6 ⟨v, rfl, hR, hb⟩; obtain ⟨A6, c6, e6⟩ := Kd.R_slice hR; subst e6; have HR6 := Aside0.mk (Kd.R_mono (Kd.R_bound (Kd.R_lower hR HB5.out.size)) (fun k hk => hk.2.2.1)); have HRL6 := Aside0.mk (Kd.R_mono (Kd.R_bound hR) (fun k hk => hk.2.1)); have HB6 := Aside0.mk (below_step HB5.out hb); have HBS6 := Aside0.mk hb; have HIN6 := Aside0.mk (Kd.R_below HIN5.out hb); have HK6 := Aside0.mk (Kd.R_below HK5.out hb); clear hR hb) | ((with_reducible refine gate_builtin (b := .append) (xs := #[.tmp 35, .tmp 41]) rfl ?_); at_builtin; go_loud (refine Kd.R_append (Kd.slice 39 k39) (w0 := w) w.heap.size rfl (.tmp 35) (.tmp 41) 43 22 (.slice none 0 0) 24 rfl Try.underlying43 infoSS rfl (by decide) (by decide) (.slice Ai ss.length ci) ss q [.slice A6 q.length c6] (fun k => some k ≠ (Value.slice (some ⟨g5, 0, none⟩) cs5.length c5).ownBlock) (fun k => w5.heap.size ≤ k ∧ k < w6.heap.size) rfl (congrArg (fun n => Value.slice (some ⟨n, 0, none⟩) 1 1) (by simp)) ?aP ?aK ?aF ?aO ?aB ?aS ?aL ?_; (case aP => exact ⟨_, rfl, Kd.R_lower (Kd.R_mono (Kd.R_bound HRL6.out) (fun k hk => ⟨hk.1, hk.2.2.1⟩)) HB5.out.size⟩); (case aK => exact (fun k hk => ⟨fun he => absurd (own_lt2 HK5.out he) (by omega), fun he => absurd (own_lt2 HIN5.out he) (by omega)⟩)); (case aF => exact (fun k hk he => absurd (own_lt2 HK6.out he) (by omega))); (case aO => exact HIN6.out); (case aB => exact HB6.out); (case aS => exact HB6.out.size); (case aL => omega); intro v7 w7 hS7 hb7 hg7 hat7; have HS7 := Aside0.mk hS7; have HK7 := Aside0.mk (cut_step HK6.out HIN6.out hg7); have HB7 := Aside0.mk hb7; clear hS7 hb7 hg7 hat7)))
      go_roundw
      case measure => show 40 - ((k : Int) + 1).toNat < 40 - (k : Int).toNat; omega
      case rel =>
        obtain ⟨A8, c8, e8⟩ := Kd.R_slice HS7.out
        subst e8
        exact ⟨k + 1, A8, _, c8, _, _, cs5, rfl, rfl, rfl, by omega, by omega, by have h9 := HCO5.out.1; have h8 := HCK5.out; rw [← h9, h8]; omega, hcl5b, HCK5, ⟨HSS2.out.symm⟩, HCO5, HK7, HS7, HB7⟩
    · have hss : ss = (l.take 40).map (fun s => s.take 60) := by
        rw [HSS.out]
        by_cases h4 : k = 40
        · rw [h4]
        · rw [List.take_of_length_le (by omega), List.take_of_length_le (by omega)]
      have hs60 : ∀ s ∈ ss, s.length ≤ 60 := fun s hs => by
        rw [hss] at hs
        obtain ⟨t, _, rfl⟩ := List.mem_map.1 hs
        rw [List.length_take]
        omega
      have hcs := cut_reads HCS.out HCO.out HB.out (by omega)
      have hlen := hcs.1
      obtain ⟨wo, rfl⟩ : ∃ wo : World, wo = wr := ⟨_, rfl⟩
      have hpx := Parts_ok Ai ci ss wo (Kd.R_reads' HIN.out).2.2 (Kd.R_reads' HIN.out).2.1
      have hpy := fun W (hW : Below wo.heap.size wo W) => RParts_ok Ac cc ss W (Kd.C_below hcs.2.2 hW) (hlen ▸ hcs.2.1)
      have HCI := Aside0.mk (Kd.R_reads' HIN.out).2
      have HCC := Aside0.mk (show ss.length ≤ cc ∧ Kd.C (Kd.slice 39 k39) wo Ac ss.length ss from ⟨hlen ▸ hcs.2.1, hcs.2.2⟩)
      have HSS2 := Aside0.mk (sameAll_f ss (k := 30000) (by omega) (fun s hs => by have := hs60 s hs; omega) (by omega))
      have hbd := sParts_bound ss
      obtain ⟨⟨xl, xe⟩, hx⟩ : ∃ r, sParts ss = r := ⟨_, rfl⟩
      rw [hx] at hpx hpy hbd
      simp only at hpx hpy hbd
      have HSM := Aside0.mk (sameAll_f xl (k := 30000) (by omega) (fun s hs => by have := hbd.2 s hs; omega) (by omega))
      have HPX := Aside0.mk hpx
      have HPY := Aside0.mk hpy
      have HBD := Aside0.mk hbd.2
      have hxl := hbd.1
      rw [hlen]
      have g1 : (decide (k < l.length) = true ∧ decide ((k : Int) < 40) = false) ∨ decide (k < l.length) = false := by
        by_cases h : k < l.length
        · exact .inl ⟨decide_eq_true h, decide_eq_false (by omega)⟩
        · exact .inr (decide_eq_false h)
      have t1 := True.intro
      clear hpx hpy hx hbd hcs hlen hs60 hss h1 HCS HIN HCO HCK HSS hcl
      rcases g1 with ⟨g1, g2⟩ | g1
      all_goals
        go_wp2_with (first | (go_at_call 30; refine (HPX.out).mono ?_; rintro e w2 ⟨v, rfl, hS, hb⟩; obtain ⟨Ax, cx, e2⟩ := Kd.R_slice (Kd.S_R hS); subst e2; have HX2 := Aside0.mk hS; have HB2 := Aside0.mk hb; clear hS hb) | (go_at_call 31; refine (HPY.out _ HB2.out).mono ?_; rintro e w3 ⟨v, rfl, hS, hb⟩; obtain ⟨Ay, cy, e2⟩ := Kd.R_slice (Kd.S_R hS); subst e2; have HY3 := Aside0.mk (Kd.R_reads' (Kd.S_R hS)).2; have HX3 := Aside0.mk (Kd.S_below HX2.out hb); have HB3 := Aside0.mk (below_step HB2.out hb); clear hS hb) | (have _t := t1; go_at_call 32; refine (colophonref17_SameAll.calls 30000 Ax cx xl Ay cy xl true _ (Kd.R_reads' (Kd.S_R HX3.out)).2.2 (Kd.R_reads' (Kd.S_R HX3.out)).2.1 HY3.out.2 HY3.out.1 HSM.out).mono ?_; rintro e w4 ⟨rfl, hd⟩; have HX4 := Aside0.mk (Kd.S_below HX3.out hd.below); have HB4 := Aside0.mk (below_step HB3.out hd.below); clear hd t1 _t))
        obtain ⟨N, hN⟩ : ∃ N, xl.length = N := ⟨_, rfl⟩
        rw [hN] at hxl HX4 ⊢
        have HN := Aside0.mk hN
        clear hN HX2 HX3 HY3 HB2 HB3 HPX HPY HSM
        go_loopw [10] (fun s10 W => ∃ (n : Nat) (xs : List (List Sp)), s10 = .int .i64 n ∧ n ≤ N ∧ Aside0 (xs.length = N ∧ ∀ s ∈ xs, s.length ≤ 256) ∧ Aside0 (Kd.S (Kd.slice 39 k39) 22 W wo.heap.size (fun _ => True) (.slice Ax N cx) xs) ∧ Aside0 (Below wo.heap.size wo W)) (fun s10 _ => N - (intOf s10).toNat)
        case atStart => exact ⟨0, xl, rfl, Nat.zero_le _, ⟨HN.out, HBD.out⟩, HX4, HB4⟩
        case round =>
          obtain ⟨n, xs, rfl, hn, HXL, HXS, HBJ⟩ := hrel
          by_cases h3 : n < N
          · have g4 : decide (n < N) = true := decide_eq_true h3
            have hxn := HXL.out.1
            obtain ⟨g7, d7, e7, hgb7, hgl7, _⟩ := Kd.R_form (Kd.S_R HXS.out) (by omega)
            injection e7 with e7 e7n e8
            subst e7; subst e8
            clear e7n
            obtain ⟨oki, cs7, hcl7, hM7, hcc7, hfr7, hoki7, hH7⟩ := Kd.S_elem HXS.out ([] : List Sp) (n : Int) (by omega) (by omega)
            obtain ⟨vi, rfl, hRi⟩ := hM7
            rw [Int.toNat_natCast] at hRi hcc7
            obtain ⟨s7, hs7⟩ : ∃ s, xs.getD n [] = s := ⟨_, rfl⟩
            have hsl : s7.length ≤ 256 := by
              rw [← hs7, List.getD_eq_getElem?_getD, List.getElem?_eq_getElem (by omega)]
              exact HXL.out.2 _ (List.getElem_mem _)
            rw [hs7] at hRi
            obtain ⟨A7, c7, e9⟩ := Kd.R_slice hRi
            subst e9
            have q0 := hcc7 0 _ rfl
            rw [show (Kd.slice 39 k39).sz = 1 from rfl, Nat.mul_one, Nat.add_zero] at q0
            obtain ⟨r7, hr7⟩ := spoil_f s7 (k := 301) (by omega) (by omega)
            have HSPO := Aside0.mk (colophonlaw17_spoil.calls 301 oki (.slice A7 s7.length c7) s7 r7 wo wr HBJ.out hRi hr7)
            have HH7 := Aside0.mk (Kd.H_widen hH7)
            have HRI := Aside0.mk hRi
            have HOK := Aside0.mk hoki7
            clear hH7 hRi hcc7 hfr7 hs7 hcl7 hr7 hxn hoki7
            go_wp2_with (go_at_call 18; refine (HSPO.out).mono ?_; rintro e w5 ⟨rfl, hR5, hb5, hk5⟩; have HR5 := Aside0.mk hR5; have HB5 := Aside0.mk hb5; have HK5 := Aside0.mk hk5; clear hR5 hb5 hk5)
            go_roundw
            case measure => show N - ((n : Int) + 1).toNat < N - (n : Int).toNat; omega
            case rel =>
              have hrl := (Kd.R_reads' HR5.out).1
              refine ⟨n + 1, xs.set n r7, rfl, by omega, ⟨by rw [List.length_set]; exact HXL.out.1, fun s hs => ?_⟩, ⟨?_⟩, HB5⟩
              · rcases List.mem_or_eq_of_mem_set hs with h | h
                · exact HXL.out.2 s h
                · rw [h]; omega
              · have h5 := Kd.H_kept HH7.out HK5.out (fun k _ hn hS => hn (.inl hS))
                have h6 := Kd.H_back h5 (okp := fun k => oki k ∨ wr.heap.size ≤ k) (x' := r7) ⟨_, rfl, HR5.out⟩ (fun k hk => hk.imp id (fun h => ⟨trivial, h⟩))
                rw [Int.toNat_natCast] at h6
                exact h6
          · have g4 : decide (n < N) = false := decide_eq_false h3
            go_wp2_with (first | (go_at_call 32; refine (colophonref17_SameAll.calls 30000 Ai ci ss Ac cc ss true _ (Kd.C_below HCI.out.2 HBJ.out) HCI.out.1 (Kd.C_below HCC.out.2 HBJ.out) HCC.out.1 HSS2.out).mono ?_; rintro e w6 ⟨rfl, hd⟩; have HB6 := Aside0.mk (below_step HBJ.out hd.below); clear hd) | (go_at_call 19; refine (works17_ok _).mono ?_; rintro e w7 ⟨rfl, hb⟩; have HB7 := Aside0.mk (below_step HB6.out hb); clear hb))
            go_ret
            exact ⟨rfl, HB.out.trans (HB7.out.mono HB.out.size)⟩
end Go.Proofs.Ytingbjdpjimikaa.B
