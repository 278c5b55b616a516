/-
  Texts of this session, one behind the other: T5, T6, T7, T8, T9, T10, T11, T12, T13, T14, T15, T16, T30, T31.
-/
import Derived.Test.YtingbjdpjimikaaZT342
set_option linter.unusedSimpArgs false
set_option linter.unusedVariables false
namespace Go.Proofs.Ytingbjdpjimikaa
open Go.Shelf Go.RowKit Go.Lib Go.Sort
shelf_lay_g SlLaysF0.n6 Slsf 6 at Try 35 as Try.sortSp
end Go.Proofs.Ytingbjdpjimikaa
namespace Go.Proofs.Ytingbjdpjimikaa.B
open Go.RowKit Go.Proofs Go.Proofs.YtingbjdpjimikaaW.PrintWords Go.Proofs.YtingbjdpjimikaaW.PrintLast Go.Proofs.YtingbjdpjimikaaW.PrintMore Go.Proofs.Ytingbjdpjimikaa.FBase
open Go.Sort (HoldsK flatK putRowK get_flatK)
abbrev SpM := {x : Sp // may x}
instance : Inhabited SpM := ⟨⟨⟨0, 0⟩, by unfold may; simp⟩⟩
def encM (x : SpM) : List Value := [.int .i64 x.1.f0, .int .i64 x.1.f1]
def cmpM (x y : SpM) : Int := x.1.f0 - y.1.f0
theorem ltM (x y : SpM) : ltOf cmpM x y = decide (x.1.f0 < y.1.f0) := by
  unfold ltOf cmpM
  by_cases h : x.1.f0 < y.1.f0
  · rw [decide_eq_true h, decide_eq_true (by omega)]
  · rw [decide_eq_false h, decide_eq_false (by omega)]
theorem swoM : Go.Sort.SWO (ltOf cmpM) where
  irrefl x := by rw [ltM]; simp
  trans x y z h1 h2 := by rw [ltM] at *; simp at *; omega
  ntrans x y z h1 h2 := by rw [ltM] at *; simp at *; omega
set_option maxRecDepth 100000 in
set_option maxHeartbeats 2000000 in
theorem cloM (x y : SpM) (W : World) : Calls Try.prog 36 #[.agg #[.int .i64 x.1.f0, .int .i64 x.1.f1], .agg #[.int .i64 y.1.f0, .int .i64 y.1.f1]] W fun e w' => e = .returned (.int .i64 (cmpM x y)) ∧ ∃ q os', w' = Go.Sort.grow (W.drewN q) os' := by
  obtain ⟨⟨x0, x1⟩, hx⟩ := x
  obtain ⟨⟨y0, y1⟩, hy⟩ := y
  unfold may at hx hy
  have hw : wrap64 (x0 - y0) = x0 - y0 := by unfold wrap64; simp at hx hy; omega
  show Calls Try.prog 36 #[.agg #[.int .i64 x0, .int .i64 x1], .agg #[.int .i64 y0, .int .i64 y1]] W fun e w' => e = .returned (.int .i64 (x0 - y0)) ∧ ∃ q os', w' = Go.Sort.grow (W.drewN q) os'
  clear hx hy
  go_enter Try.func36, Try.ntmps36
  go_wp2
  go_ret
  exact ⟨congrArg (fun t => Ending.returned (.int .i64 t)) hw, 0, _, by rw [Go.Sort.alloc_eq_grow, Go.Sort.alloc_eq_grow, Go.Sort.grow_grow]; rfl⟩
theorem cmpLaysM (blk off size : Nat) (w : World) : CmpLays Try.prog 36 #[] encM 2 cmpM blk off size w := fun _ _ _ _ x y => cloM x y _
theorem getM (d : Array SpM) {j : Nat} (hj : j < d.size) : rd_T39 (d.toList.map (·.1)) (j : Int) = d[j]!.1 := by
  simp [rd_T39, List.getD, hj]
theorem holdsM {e base g cap : Nat} {ok : Nat → Prop} {w : World} {l : List Sp} (d : Array SpM) (h : Kd.R k39 e w base ok (.slice (some ⟨g, 0, none⟩) l.length cap) l) (hd : d.toList.map (·.1) = l) : HoldsK encM 2 w g 0 d := by
  intro j hj
  have hl : l.length = d.size := by rw [← hd]; simp
  have hj2 : j < d.size * 2 := by simpa using hj
  have hj3 : j / 2 < d.size := by omega
  obtain ⟨c, hcl, hM, hcc, hfr⟩ := Kd.R_elem h z39 ((j / 2 : Nat) : Int) (by omega) (by omega)
  obtain rfl := k39_openM hM
  have hx : l.getD ((j / 2 : Nat) : Int).toNat z39 = d[j / 2]!.1 := by
    rw [← getM d hj3, hd]
    rfl
  rw [hx] at hcc
  rw [Int.toNat_natCast] at hcc hfr
  have he : 0 + j = j / 2 * 2 + j % 2 := by omega
  refine ⟨?_, by rw [he]; exact hfr _⟩
  rw [get_flatK _ _ _ _ hj2, he]
  refine hcc (j % 2) _ ?_
  rcases Nat.mod_two_eq_zero_or_one j with h0 | h0 <;> rw [h0] <;> rfl
theorem sortedM {e base g cap n : Nat} {ok : Nat → Prop} {w : World} {l : List Sp} (d' : Array SpM) (os : Array Obj) (h : Kd.R k39 e w base ok (.slice (some ⟨g, 0, none⟩) l.length cap) l) (hs : d'.size = l.length) :
    Kd.R k39 e (sortWorldK encM 2 w g 0 n d' os) base ok (.slice (some ⟨g, 0, none⟩) l.length cap) (d'.toList.map (·.1)) ∧ w.grownBy (sortWorldK encM 2 w g 0 n d' os) (some g) := by
  obtain ⟨hok, inner, ho, hr⟩ := h
  rcases ho.2 with ⟨e0, _⟩ | ⟨g', cap', cur, e0, hb, hg, hn, hm, hcs, ht⟩
  · cases e0
  injection e0 with e1 _ e3
  injection e1 with e1
  injection e1 with e1
  subst e1; subst e3
  have hgl : g < w.heap.size := blk_lt hg
  have hF : (flatK encM 2 d').size = l.length * 2 := by simp [hs]
  have hheap : (sortWorldK encM 2 w g 0 n d' os).heap[g]? = some (.cells (Go.Sort.putCells id 0 (flatK encM 2 d') cur) e (0, 0)) := by
    unfold sortWorldK putRowK
    rw [Go.Sort.heap_grow_old _ _ (by simpa [Go.Sort.putRow, Go.Sort.mapBlock, Go.Sort.ahead] using hgl)]
    simp [Go.Sort.putRow, Go.Sort.mapBlock, Go.Sort.ahead, Array.getElem?_modify, hg, Go.Sort.onCells]
  have hml : (d'.toList.map (·.1)).length = l.length := by simp [hs]
  have hFl : (flatK encM 2 d').toList.length = l.length * 2 := by rw [Array.length_toList, hF]
  have hcur : l.length * 2 ≤ cur.size := by
    have h1 : cur.size = cap * 2 := hcs
    have h2 : l.length ≤ cap := hn
    omega
  have htk : ((Go.Sort.putCells id 0 (flatK encM 2 d') cur).toList.take (l.length * 2)) = (flatK encM 2 d').toList := by
    apply List.ext_getElem?
    intro j
    by_cases hj : j < l.length * 2
    · have hjf : j < (flatK encM 2 d').size := by omega
      rw [List.getElem?_take_of_lt hj, Array.getElem?_toList, Array.getElem?_toList, Array.getElem?_eq_getElem hjf]
      have hjc : j < cur.size := by omega
      simp only [Go.Sort.putCells, Array.getElem?_mapIdx, Array.getElem?_eq_getElem hjc, Option.map_some]
      rw [if_pos (by omega)]
      simp
      exact getElem!_pos (flatK encM 2 d') j hjf
    · rw [List.getElem?_take_eq_none (by omega), List.getElem?_eq_none (by omega)]
  refine ⟨⟨hok, (flatK encM 2 d').toList, ?_, ?_⟩, ?_⟩
  · rw [hml]
    exact ⟨hFl, .inr ⟨g, cap, _, rfl, hb, hheap, hn, hm, by rw [Go.Sort.putCells, Array.size_mapIdx]; exact hcs, htk⟩⟩
  · refine ⟨by rw [hml]; exact hFl, fun j q hq => ?_⟩
    have hj : j < l.length := by rw [← hml]; exact (List.getElem?_eq_some_iff.1 hq).1
    have hq2 : q = d'[j]!.1 := by
      have h1 := (List.getElem?_eq_some_iff.1 hq).2
      simp at h1
      rw [← h1, getElem!_pos d' j (by omega)]
    have hj0 : j * 2 < d'.size * 2 := by omega
    have hj1 : j * 2 + 1 < d'.size * 2 := by omega
    have e0 := get_flatK encM 2 d' (j * 2) hj0
    have e1 := get_flatK encM 2 d' (j * 2 + 1) hj1
    rw [show j * 2 / 2 = j by omega, show j * 2 % 2 = 0 by omega] at e0
    rw [show (j * 2 + 1) / 2 = j by omega, show (j * 2 + 1) % 2 = 1 by omega] at e1
    have hseg : ((flatK encM 2 d').toList.drop (j * 2)).take 2 = [.int .i64 q.f0, .int .i64 q.f1] := by
      rw [List.drop_eq_getElem_cons (by omega), List.drop_eq_getElem_cons (by omega), hq2]
      rw [getElem!_pos _ _ (by omega)] at e0 e1
      simp only [Array.getElem_toList, List.take_succ_cons, List.take_zero]
      rw [e0, e1]
      rfl
    exact (show ((flatK encM 2 d').toList.drop (j * 2)).take k39.sz = _ from hseg) ▸ k39_mkM _ _ _ _
  · refine ⟨rfl, rfl, rfl, ?_, fun k hk hne => ?_⟩
    · simp [sortWorldK, putRowK, Go.Sort.putRow, Go.Sort.mapBlock, Go.Sort.ahead, Go.Sort.grow]
    · unfold sortWorldK putRowK
      rw [Go.Sort.heap_grow_old _ _ (by simpa [Go.Sort.putRow, Go.Sort.mapBlock, Go.Sort.ahead] using hk)]
      have : g ≠ k := fun e => hne (by rw [e])
      simp [Go.Sort.putRow, Go.Sort.mapBlock, Go.Sort.ahead, Array.getElem?_modify, this]
theorem whole_ext {α : Type} (d : Array α) {n : Nat} (h : d.size = n) : (d.extract 0 n).toList = d.toList := by
  subst h
  rw [Array.extract_size]
theorem SortSp_some (v : Value) (l : List Sp) (base : Nat) (ok : Nat → Prop) (w : World) (h : Kd.R k39 39 w base ok v l) (hm : ∀ x ∈ l, may x) (hl : 0 < l.length) (hl2 : l.length ≤ 1000000) :
    Calls Try.prog 35 #[v, .func (.func 36) #[] #[]] w fun e w' => e = .returned (.tuple #[]) ∧ ∃ srt : List Sp, srt.Perm l ∧ srt.Pairwise (fun a b => a.f0 ≤ b.f0) ∧ Kd.R k39 39 w' base ok v srt ∧ w.grownBy w' v.ownBlock := by
  obtain ⟨g, cap, rfl, hb, hg, _⟩ := Kd.R_form h hl
  obtain ⟨d, hd⟩ : ∃ d : Array SpM, d.toList.map (·.1) = l := ⟨(l.attachWith may hm).toArray, by simp⟩
  have hds : d.size = l.length := by rw [← hd]; simp
  have hH := holdsM d h hd
  have eg : ∀ args w, (callFunc 36 args).run Try.prog w = .ok (.enter 36 args) w := enters_of Try.func36 (by kernel_rfl) rfl
  have hcon := AnyQ.slices_SortFunc Try.sortSp 2 Try.isAgg39 Try.sizeOf39 encM (fun _ => rfl) (fun x v hv => by simp [encM] at hv; rcases hv with rfl | rfl <;> rfl) cmpM swoM 36 #[] g 0 cap d w eg (cmpLaysM g 0 d.size w) hH hg (by omega)
  rw [hds] at hcon
  refine hcon.mono ?_
  rintro e w' ⟨rfl, d', n, os, hp, hs, rfl⟩
  have h1 := hp.1
  rw [hds] at h1
  have hR := sortedM (n := n) d' os h h1
  have hp2 := hp.2.2
  rw [whole_ext d' h1, whole_ext d hds] at hp2
  refine ⟨rfl, d'.toList.map (·.1), ?_, ?_, hR.1, hR.2⟩
  · rw [← hd]
    exact hp2.map _
  · rw [List.pairwise_map, List.pairwise_iff_getElem]
    intro i j hi hj hij
    have hs2 := hs i j (Nat.zero_le _) hij (by rw [Array.length_toList] at hj; omega)
    rw [ltM, decide_eq_false_iff_not] at hs2
    rw [getElem!_pos d' j (by simpa using hj), getElem!_pos d' i (by simpa using hi)] at hs2
    simp only [Array.getElem_toList]
    omega
theorem SortSp_ok (v : Value) (l : List Sp) (base : Nat) (ok : Nat → Prop) (w : World) (h : Kd.R k39 39 w base ok v l) (hm : ∀ x ∈ l, may x) (hl2 : l.length ≤ 1000000) :
    Calls Try.prog 35 #[v, .func (.func 36) #[] #[]] w fun e w' => e = .returned (.tuple #[]) ∧ ∃ srt : List Sp, srt.Perm l ∧ srt.Pairwise (fun a b => a.f0 ≤ b.f0) ∧ Kd.R k39 39 w' base ok v srt ∧ w.grownBy w' v.ownBlock := by
  rcases Nat.eq_zero_or_pos l.length with h0 | h0
  · obtain rfl : l = [] := List.eq_nil_of_length_eq_zero h0
    obtain ⟨A, c, e0⟩ := Kd.R_slice h
    subst e0
    refine (AnyF.slices_SortFunc_none Try.sortSp A c _ w).mono ?_
    rintro e w' ⟨rfl, rfl⟩
    exact ⟨rfl, [], .nil, .nil, h, World.grownBy.refl _ _⟩
  · exact SortSp_some v l base ok w h hm h0 hl2
end Go.Proofs.Ytingbjdpjimikaa.B
namespace Go.Proofs.Ytingbjdpjimikaa.B
open Go.RowKit Go.Proofs Go.Proofs.YtingbjdpjimikaaW.PrintWords Go.Proofs.YtingbjdpjimikaaW.PrintLast Go.Proofs.YtingbjdpjimikaaW.PrintMore Go.Proofs.Ytingbjdpjimikaa.FBase
theorem sMrg_last : ∀ (s : List Sp) (m : Nat) (hm : s.length = m + 1) (x y : Sp) (hy : rd_T39 s (m : Int) = y), sMrg s x = if x.f0 ≤ y.f1 then s.set m ⟨y.f0, if y.f1 < x.f1 then x.f1 else y.f1⟩ else s ++ [x]
  | [], m, hm, x, y, hy => by simp at hm
  | [z], m, hm, x, y, hy => by
    obtain rfl : m = 0 := by simp at hm; omega
    subst hy
    rfl
  | z :: z2 :: r, m, hm, x, y, hy => by
    obtain ⟨m, rfl⟩ : ∃ m', m = m' + 1 := ⟨m - 1, by simp at hm; omega⟩
    have ih := sMrg_last (z2 :: r) m (by simpa using hm) x y (by rw [← hy]; simp [rd_T39, List.getD])
    rw [show sMrg (z :: z2 :: r) x = z :: sMrg (z2 :: r) x from rfl, ih]
    split
    · rfl
    · rfl
def posB (x : Sp) : Bool := decide (x.f0 < x.f1)
set_option maxRecDepth 100000 in
set_option maxHeartbeats 4000000 in
theorem Of_many (A : Option Addr) (c : Nat) (l : List Sp) (w : World) (hr : Kd.C k39 w A l.length l) (hm : 256 < l.length) : Calls Try.prog 11 #[.slice A l.length c] w fun e w' => ∃ v : Value, e = .returned (.tuple #[v, .int .i64 5]) ∧ Kd.R k39 39 w' w.heap.size (fun _ => True) v [] ∧ Below w.heap.size w w' := by
  have g1 : decide (256 < (l.length : Int)) = true := decide_eq_true (by omega)
  clear hr
  go_enter Try.func11, Try.ntmps11
  go_wp2
  go_ret2
  exact ⟨_, rfl, Kd.R_nil _ _ _ _ _, Below.refl _ _⟩
set_option maxRecDepth 100000 in
set_option maxHeartbeats 4000000 in
theorem Of_one (A : Option Addr) (c : Nat) (l : List Sp) (w : World) (hr : Kd.C k39 w A l.length l) (hm : ¬ 256 < l.length) : Calls Try.prog 11 #[.slice A l.length c] w fun e w' => ∃ v : Value, e = .returned (.tuple #[v, .int .i64 (sOf l).2]) ∧ Kd.R k39 39 w' w.heap.size (fun _ => True) v (sOf l).1 ∧ Below w.heap.size w w' := by
  have g1 : decide (256 < (l.length : Int)) = false := decide_eq_false (by omega)
  have HR := Aside0.mk hr
  clear hr
  go_enter Try.func11, Try.ntmps11
  go_wp2
  go_loopw [4, 16] (fun s4 s16 W => ∃ (k : Nat) (A2 : Option Addr) (c2 : Nat), s16 = .int .i64 k ∧ s4 = .slice A2 ((l.take k).filter posB).length c2 ∧ k ≤ l.length ∧ Aside0 (∀ x ∈ l.take k, may x) ∧ Aside0 (Kd.R k39 39 W w.heap.size (fun _ => True) (.slice A2 ((l.take k).filter posB).length c2) ((l.take k).filter posB)) ∧ Aside0 (Below w.heap.size w W)) (fun _ s16 _ => l.length - (intOf s16).toNat)
  case atStart => exact ⟨0, none, 0, rfl, rfl, Nat.zero_le _, ⟨fun x hx => nomatch hx⟩, ⟨Kd.R_nil _ _ _ _ _⟩, ⟨Below.refl _ _⟩⟩
  case round =>
    obtain ⟨k, A2, c2, rfl, rfl, hk, HM, HO, HB⟩ := hrel
    by_cases h1 : k < l.length
    · have g2 : decide (k < l.length) = true := decide_eq_true h1
      obtain ⟨ad, e1, y0, y1⟩ := at_T39 (Kd.C_below HR.out HB.out) (k : Int) (by omega) (by omega)
      cases e1
      rw [Int.toNat_natCast] at y0 y1
      have hw : wrap64 ((k : Int) + 1) = (k : Int) + 1 := by unfold wrap64; omega
      have hx : rd_T39 l (k : Int) = l[k] := rdS h1
      have htk : l.take (k + 1) = l.take k ++ [l[k]] := List.take_succ_eq_append_getElem h1
      have hmem : l[k] ∈ l := List.getElem_mem _
      have hln : ((l.take k).filter posB).length ≤ 256 := Nat.le_trans (List.length_filter_le _ _) (by rw [List.length_take]; omega)
      rw [← hx] at htk hmem
      clear hx
      generalize rd_T39 l (k : Int) = x at *
      by_cases hmay : may x
      · have hmay2 := hmay
        unfold may at hmay2
        obtain ⟨m0, m1, m2⟩ := hmay2
        have HM2 := Aside0.mk (show ∀ y ∈ l.take (k + 1), may y by
          intro y hy
          rw [htk] at hy
          rcases List.mem_append.1 hy with hy | hy
          · exact HM.out y hy
          · rw [List.mem_singleton.1 hy]; exact hmay)
        have q0 : decide (x.f0 < 0) = false := decide_eq_false (by omega)
        have q1 : decide (x.f1 < x.f0) = false := decide_eq_false (by omega)
        have q2 : decide (1114112 < x.f1) = false := decide_eq_false (by omega)
        clear hmay HM hmem
        by_cases hpos : x.f0 < x.f1
        · have q3 : decide (x.f0 < x.f1) = true := decide_eq_true hpos
          have hf : (l.take (k + 1)).filter posB = (l.take k).filter posB ++ [x] := by
            rw [htk, List.filter_append, List.filter_cons, if_pos (show posB x = true from q3), List.filter_nil]
          have HF := Aside0.mk hf
          clear hf htk hpos m0 m1 m2
          go_wp2_with ((with_reducible refine gate_builtin (b := .append) (xs := #[.tmp 40, .tmp 42]) rfl ?_); at_builtin; go_loud (refine Kd.R_append k39 (w0 := w) w.heap.size rfl (.tmp 40) (.tmp 42) 22 39 (.agg #[(.int .i64 0), (.int .i64 0)]) 16 rfl Try.underlying22 info39 rfl (by decide) (by omega) (.slice A2 ((l.take k).filter posB).length c2) ((l.take k).filter posB) x [.int .i64 x.f0, .int .i64 x.f1] (fun _ => True) (fun _ => False) rfl (congrArg (fun n => Value.slice (some ⟨n, 0, none⟩) 1 1) (by simp)) ?aP (fun _ hk => hk.elim) ?aF ?aO ?aB ?aS ?aL ?_; (case aP => exact k39_mkM _ _ _ _); (case aB => exact (by repeat (first | exact HB.out | exact Below.refl _ _ | apply below_alloc | apply pw_below_drewN | apply below_drew1))); (case aF => exact (fun _ _ => trivial)); (case aO => exact (by (with_reducible repeat (first | apply Kd.R_alloc | apply Kd.R_drewN | apply Kd.R_drew)); exact HO.out)); (case aS => exact (below_size (by repeat (first | exact HB.out | exact Below.refl _ _ | apply below_alloc | apply pw_below_drewN | apply below_drew1)))); (case aL => omega); intro v3 w3 ho hb hg hat; have n0_ := Aside0.mk hb; have n1_ := Aside0.mk ho; clear ho hb hg hat))
          go_roundw
          case measure => (first | rw [hw] | skip); show l.length - ((k : Int) + 1).toNat < l.length - (k : Int).toNat; omega
          case rel =>
            rw [← HF.out] at n1_
            obtain ⟨A3, c3, e3⟩ := Kd.R_slice n1_.out
            subst e3
            exact ⟨k + 1, A3, c3, by (first | rw [hw] | skip); rfl, rfl, by omega, HM2, n1_, n0_⟩
        · have q3 : decide (x.f0 < x.f1) = false := decide_eq_false hpos
          have hf : (l.take (k + 1)).filter posB = (l.take k).filter posB := by
            rw [htk, List.filter_append, List.filter_cons, if_neg (show ¬ posB x = true by unfold posB; rw [q3]; simp), List.filter_nil, List.append_nil]
          have HF := Aside0.mk hf
          clear hf htk hpos m0 m1 m2
          go_wp2
          go_roundw
          case measure => (first | rw [hw] | skip); show l.length - ((k : Int) + 1).toNat < l.length - (k : Int).toNat; omega
          case rel =>
            exact ⟨k + 1, A2, c2, by (first | rw [hw] | skip); rfl, by rw [HF.out], by omega, HM2, ⟨by rw [HF.out]; exact (by (with_reducible repeat (first | apply Kd.R_alloc | apply Kd.R_drewN | apply Kd.R_drew)); exact HO.out)⟩, ⟨(by repeat (first | exact HB.out | exact Below.refl _ _ | apply below_alloc | apply pw_below_drewN | apply below_drew1))⟩⟩
      · have hs : sOf l = ([], 2) := by
          unfold sOf
          rw [if_neg hm, if_neg]
          intro h
          exact hmay ((mayB_iff x).1 (List.all_eq_true.1 h x hmem))
        have HSO := Aside0.mk hs
        have h3 : x.f0 < 0 ∨ (0 ≤ x.f0 ∧ x.f1 < x.f0) ∨ (0 ≤ x.f0 ∧ x.f0 ≤ x.f1 ∧ 1114112 < x.f1) := by
          unfold may at hmay
          omega
        clear hs hmay HM hmem htk
        rcases h3 with h3 | ⟨h3, h4⟩ | ⟨h3, h4, h5⟩
        · have q0 : decide (x.f0 < 0) = true := decide_eq_true h3
          go_wp2
          go_ret2
          rw [HSO.out]
          exact ⟨_, rfl, Kd.R_nil _ _ _ _ _, (by repeat (first | exact HB.out | exact Below.refl _ _ | apply below_alloc | apply pw_below_drewN | apply below_drew1))⟩
        · have q0 : decide (x.f0 < 0) = false := decide_eq_false (by omega)
          have q1 : decide (x.f1 < x.f0) = true := decide_eq_true h4
          go_wp2
          go_ret2
          rw [HSO.out]
          exact ⟨_, rfl, Kd.R_nil _ _ _ _ _, (by repeat (first | exact HB.out | exact Below.refl _ _ | apply below_alloc | apply pw_below_drewN | apply below_drew1))⟩
        · have q0 : decide (x.f0 < 0) = false := decide_eq_false (by omega)
          have q1 : decide (x.f1 < x.f0) = false := decide_eq_false (by omega)
          have q2 : decide (1114112 < x.f1) = true := decide_eq_true h5
          go_wp2
          go_ret2
          rw [HSO.out]
          exact ⟨_, rfl, Kd.R_nil _ _ _ _ _, (by repeat (first | exact HB.out | exact Below.refl _ _ | apply below_alloc | apply pw_below_drewN | apply below_drew1))⟩
    · have g2 : decide (k < l.length) = false := decide_eq_false h1
      have hkl : k = l.length := by omega
      subst hkl
      rw [List.take_length] at HM HO ⊢
      have hso : sOf l = (mkS (sHas l) (cutsOf l) [], 0) := by
        unfold sOf
        rw [if_neg hm, if_pos (List.all_eq_true.2 fun x hx => (mayB_iff x).2 (HM.out x hx))]
      have hln : (l.filter posB).length ≤ 256 := Nat.le_trans (List.length_filter_le _ _) (by omega)
      have HSR := Aside0.mk (SortSp_ok _ _ _ _ wr HO.out (fun x hx => HM.out x (List.mem_filter.1 hx).1) (by omega))
      have HMS := Aside0.mk fun srt => sOf_mrg l HM.out srt
      have HSO := Aside0.mk hso
      clear hso
      obtain ⟨fl, hfl⟩ : ∃ fl, l.filter posB = fl := ⟨_, rfl⟩
      have hfl2 : (l.filter fun x => decide (x.f0 < x.f1)) = fl := hfl
      rw [hfl2] at HMS
      rw [hfl] at hln HSR HO ⊢
      have HB3 : ∀ w2, wr.grownBy w2 (Value.slice A2 fl.length c2).ownBlock → Below w.heap.size w w2 := fun w2 hg => by
        obtain ⟨inner, ho⟩ := Kd.R_own HO.out
        exact HB.out.grown hg HB.out.size (own_base ho)
      have HB4 := Aside0.mk HB3
      clear hfl hfl2 HM HB3
      obtain ⟨nf, hnf⟩ : ∃ n, fl.length = n := ⟨_, rfl⟩
      have HNF := Aside0.mk hnf
      rw [hnf] at hln HSR HB4 ⊢
      clear hnf
      go_wp2_with (go_at_call 35; refine HSR.out.mono ?_; rintro e w2 ⟨rfl, srt, hp, hs, hR, hg⟩; have hlen := hp.length_eq; rw [HNF.out] at hlen; have HC := Aside0.mk (Kd.R_reads' hR).2.2; have HBW := Aside0.mk (HB4.out _ hg); have HMK := Aside0.mk (HMS.out srt hp hs); clear HSR HMS HB4 hp hs hR hg)
      go_loopw [7, 49] (fun s7 s49 W => ∃ (k : Nat) (A2 : Option Addr) (c2 : Nat) (out : List Sp), s49 = .int .i64 k ∧ s7 = .slice A2 out.length c2 ∧ k ≤ srt.length ∧ out.length ≤ k ∧ Aside0 (out = (srt.take k).foldl sMrg []) ∧ Aside0 (Kd.R k39 39 W w2.heap.size (fun _ => True) (.slice A2 out.length c2) out) ∧ Aside0 (Below w2.heap.size w2 W)) (fun _ s49 _ => nf - (intOf s49).toNat)
      case atStart => exact ⟨0, none, 0, [], rfl, rfl, Nat.zero_le _, Nat.zero_le _, ⟨rfl⟩, ⟨Kd.R_nil _ _ _ _ _⟩, ⟨Below.refl _ _⟩⟩
      case round =>
        clear HB HO
        obtain ⟨k, B2, d2, out, rfl, rfl, hk, hok, HOUT, HO, HB2⟩ := hrel
        by_cases h1 : k < srt.length
        · have g2 : decide (k < nf) = true := decide_eq_true (by omega)
          obtain ⟨ad, e1, y0, y1⟩ := at_T39 (Kd.C_below HC.out HB2.out) (k : Int) (by omega) (by omega)
          cases e1
          rw [Int.toNat_natCast] at y0 y1
          have hw : wrap64 ((k : Int) + 1) = (k : Int) + 1 := by unfold wrap64; omega
          have hx : rd_T39 srt (k : Int) = srt[k] := rdS h1
          have htk : (srt.take (k + 1)).foldl sMrg [] = sMrg out srt[k] := by
            rw [List.take_succ_eq_append_getElem h1, List.foldl_append, ← HOUT.out]
            rfl
          rw [← hx] at htk
          clear hx HOUT
          generalize rd_T39 srt (k : Int) = x at *
          rcases Nat.eq_zero_or_pos out.length with h0 | h0
          · obtain rfl : out = [] := List.eq_nil_of_length_eq_zero h0
            have HT := Aside0.mk (htk.trans (show sMrg [] x = [] ++ [x] from rfl))
            clear htk h0
            go_wp2
            go_quiet (fail)
            go_wp2_with ((with_reducible refine gate_builtin (b := .append) (xs := #[.tmp 82, .tmp 84]) rfl ?_); at_builtin; go_loud (refine Kd.R_append k39 (w0 := w2) w2.heap.size rfl (.tmp 82) (.tmp 84) 22 39 (.agg #[(.int .i64 0), (.int .i64 0)]) 16 rfl Try.underlying22 info39 rfl (by decide) (by omega) (.slice B2 ([] : List Sp).length d2) ([] : List Sp) x [.int .i64 x.f0, .int .i64 x.f1] (fun _ => True) (fun _ => False) rfl (congrArg (fun n => Value.slice (some ⟨n, 0, none⟩) 1 1) (by simp)) ?aP (fun _ hk => hk.elim) ?aF ?aO ?aB ?aS ?aL ?_; (case aP => exact k39_mkM _ _ _ _); (case aB => exact (by repeat (first | exact HB2.out | exact Below.refl _ _ | apply below_alloc | apply pw_below_drewN | apply below_drew1))); (case aF => exact (fun _ _ => trivial)); (case aO => exact (by (with_reducible repeat (first | apply Kd.R_alloc | apply Kd.R_drewN | apply Kd.R_drew)); exact HO.out)); (case aS => exact (below_size (by repeat (first | exact HB2.out | exact Below.refl _ _ | apply below_alloc | apply pw_below_drewN | apply below_drew1)))); (case aL => omega); intro v3 w3 ho hb hg hat; have n0_ := Aside0.mk hb; have n1_ := Aside0.mk ho; clear ho hb hg hat))
            go_roundw
            case measure => (first | rw [hw] | skip); show nf - ((k : Int) + 1).toNat < nf - (k : Int).toNat; omega
            case rel =>
              obtain ⟨A3, c3, e3⟩ := Kd.R_slice n1_.out
              subst e3
              exact ⟨k + 1, A3, c3, _, by (first | rw [hw] | skip); rfl, rfl, by omega, by simp, ⟨HT.out.symm⟩, n1_, n0_⟩
          · obtain ⟨m, hm1⟩ : ∃ m, out.length = m + 1 := ⟨out.length - 1, by omega⟩
            obtain ⟨g, d3, e3, hgb, hgl, _⟩ := Kd.R_form HO.out (by omega)
            injection e3 with e4 _ e5
            subst e4; subst e5
            obtain ⟨cs, hcl, hM, hcc, hfr⟩ := Kd.R_elem HO.out z39 (m : Int) (by omega) (by omega)
            obtain rfl := k39_openM hM
            obtain ⟨y, hy⟩ : ∃ y, rd_T39 out (m : Int) = y := ⟨_, rfl⟩
            have hlast := sMrg_last out m hm1 x y hy
            rw [show out.getD (m : Int).toNat z39 = y from hy] at hcc hM
            have x0 : wr.cell? ⟨g, m * 2, none⟩ = some (.int .i64 y.f0) := hcc 0 _ rfl
            have x1 : wr.cell? ⟨g, m * 2 + 1, none⟩ = some (.int .i64 y.f1) := hcc 1 _ rfl
            have x2 : wr.frozen? ⟨g, m * 2 + 1, none⟩ = false := hfr 1
            have w1 : wrap64 ((out.length : Int) - 1) = (m : Int) := by unfold wrap64; omega
            have g3 : decide (0 < (out.length : Int)) = true := decide_eq_true (by omega)
            have g4 : decide ((m : Int) < (out.length : Int)) = true := decide_eq_true (by omega)
            have e1 : ¬ (g = wr.heap.size) := by omega
            have e2 : ¬ (wr.heap.size = g) := by omega
            clear hcl hcc hfr hM
            rw [hm1] at HO ⊢
            by_cases hle : x.f0 ≤ y.f1
            · have g5 : decide (x.f0 ≤ y.f1) = true := decide_eq_true hle
              rw [if_pos hle] at hlast
              have hmx : (if y.f1 < x.f1 then x.f1 else y.f1) = max y.f1 x.f1 := by
                split <;> omega
              rw [hmx] at hlast
              have HT := Aside0.mk (htk.trans hlast)
              clear hlast htk hmx
              go_wp2
              go_quiet (fail)
              go_wp2
              obtain ⟨W0, hW0⟩ : ∃ W0, ((wr.alloc (.cells #[.int .i64 x.f0, .int .i64 x.f1] 39)).drewN nq) = W0 := ⟨_, rfl⟩
              have hRW : Kd.R k39 39 W0 w2.heap.size (fun _ => True) (.slice (some ⟨g, 0, none⟩) (m + 1) d2) out := by rw [← hW0]; exact (by (with_reducible repeat (first | apply Kd.R_alloc | apply Kd.R_drewN | apply Kd.R_drew)); exact HO.out)
              have hBW : Below w2.heap.size w2 W0 := by rw [← hW0]; exact (by repeat (first | exact HB2.out | exact Below.refl _ _ | apply below_alloc | apply pw_below_drewN | apply below_drew1))
              have z2 : W0.cell? ⟨wr.heap.size, 1, none⟩ = some (.int .i64 x.f1) := by rw [← hW0]; exact cell_drewN1 (blk_cell (blk_new wr _) 1) _
              obtain ⟨cs, hcl, hM, hcc, hfr⟩ := Kd.R_elem hRW z39 (m : Int) (by omega) (by omega)
              obtain rfl := k39_openM hM
              rw [show out.getD (m : Int).toNat z39 = y from hy] at hcc hM hcl
              have z0 : W0.cell? ⟨g, m * 2 + 1, none⟩ = some (.int .i64 y.f1) := hcc 1 _ rfl
              have z1 : W0.frozen? ⟨g, m * 2 + 1, none⟩ = false := hfr 1
              have HSG := Aside0.mk (Kd.R_seg hRW (m : Int) (by omega) (by omega) (seg := [.int .i64 (max y.f1 x.f1)]) (j := 1) hcl hcc (show 2 ≤ 2 by decide) (x' := ⟨y.f0, max y.f1 x.f1⟩) (k39_mkM _ _ _ _) (fun _ hk => hk))
              have HBW3 := Aside0.mk (below_set (j := m * 2 + 1) (v := .int .i64 (max y.f1 x.f1)) hBW hgb)
              rw [hW0]
              clear hW0 x0 x1 x2 hcc hfr hM hcl hRW hBW
              go_region
              go_wp2
              go_roundw
              case measure => (first | rw [hw] | skip); show nf - ((k : Int) + 1).toNat < nf - (k : Int).toNat; omega
              case rel =>
                exact ⟨k + 1, _, _, out.set m ⟨y.f0, max y.f1 x.f1⟩, by (first | rw [hw] | skip); rfl, by rw [List.length_set, hm1], by omega, by rw [List.length_set]; omega, ⟨HT.out.symm⟩, ⟨by rw [List.length_set, hm1]; exact Kd.R_drew HSG.out.1⟩, ⟨below_drew1 HBW3.out⟩⟩
            · have g5 : decide (x.f0 ≤ y.f1) = false := decide_eq_false hle
              rw [if_neg hle] at hlast
              have HT := Aside0.mk (htk.trans hlast)
              clear htk hlast
              go_wp2
              go_quiet (fail)
              go_wp2_with ((with_reducible refine gate_builtin (b := .append) (xs := #[.tmp 82, .tmp 84]) rfl ?_); at_builtin; go_loud (refine Kd.R_append k39 (w0 := w2) w2.heap.size rfl (.tmp 82) (.tmp 84) 22 39 (.agg #[(.int .i64 0), (.int .i64 0)]) 16 rfl Try.underlying22 info39 rfl (by decide) (by omega) (.slice (some ⟨g, 0, none⟩) (m + 1) d2) out x [.int .i64 x.f0, .int .i64 x.f1] (fun _ => True) (fun _ => False) rfl (congrArg (fun n => Value.slice (some ⟨n, 0, none⟩) 1 1) (by simp)) ?aP (fun _ hk => hk.elim) ?aF ?aO ?aB ?aS ?aL ?_; (case aP => exact k39_mkM _ _ _ _); (case aB => exact (by repeat (first | exact HB2.out | exact Below.refl _ _ | apply below_alloc | apply pw_below_drewN | apply below_drew1))); (case aF => exact (fun _ _ => trivial)); (case aO => exact (by (with_reducible repeat (first | apply Kd.R_alloc | apply Kd.R_drewN | apply Kd.R_drew)); exact HO.out)); (case aS => exact (below_size (by repeat (first | exact HB2.out | exact Below.refl _ _ | apply below_alloc | apply pw_below_drewN | apply below_drew1)))); (case aL => omega); intro v3 w3 ho hb hg hat; have n0_ := Aside0.mk hb; have n1_ := Aside0.mk ho; clear ho hb hg hat))
              go_roundw
              case measure => (first | rw [hw] | skip); show nf - ((k : Int) + 1).toNat < nf - (k : Int).toNat; omega
              case rel =>
                obtain ⟨A3, c3, e3⟩ := Kd.R_slice n1_.out
                subst e3
                exact ⟨k + 1, A3, c3, _, by (first | rw [hw] | skip); rfl, rfl, by omega, by rw [List.length_append]; simp; omega, ⟨HT.out.symm⟩, n1_, n0_⟩
        · have g2 : decide (k < nf) = false := decide_eq_false (by omega)
          go_wp2
          go_ret2
          rw [HSO.out, ← HMK.out]
          have h9 := HOUT.out
          rw [List.take_of_length_le (by omega)] at h9
          rw [← h9]
          exact ⟨_, rfl, Kd.R_lower HO.out HBW.out.size, HBW.out.trans (HB2.out.mono HBW.out.size)⟩
theorem Of_ok (A : Option Addr) (c : Nat) (l : List Sp) (w : World) (hr : Kd.C k39 w A l.length l) : Calls Try.prog 11 #[.slice A l.length c] w fun e w' => ∃ v : Value, e = .returned (.tuple #[v, .int .i64 (sOf l).2]) ∧ Kd.R k39 39 w' w.heap.size (fun _ => True) v (sOf l).1 ∧ Below w.heap.size w w' := by
  by_cases hm : 256 < l.length
  · rw [show sOf l = ([], 5) from if_pos hm]
    exact Of_many A c l w hr hm
  · exact Of_one A c l w hr hm
end Go.Proofs.Ytingbjdpjimikaa.B
namespace Go.Proofs.Ytingbjdpjimikaa
open Go.Shelf Go.RowKit Go.Lib Go.Sort
shelf_lay_g SlLaysM.n5 Slgm 5 at Try 56 as Try.sortInts
shelf_lay_g SlLaysN.n43 Slgn 43 at Try 57 as Try.compInts
end Go.Proofs.Ytingbjdpjimikaa
namespace Go.Proofs.Ytingbjdpjimikaa.B
open Go.RowKit Go.Proofs Go.Proofs.YtingbjdpjimikaaW.PrintWords Go.Proofs.YtingbjdpjimikaaW.PrintLast Go.Proofs.YtingbjdpjimikaaW.PrintMore Go.Proofs.Ytingbjdpjimikaa.FBase
theorem comp_upto (d : Array Int) (hd : ∀ i j, i < j → j < d.size → d[i]! ≤ d[j]!) : ∀ m, m ≤ d.size → Ris (Lib.compactUpTo d m) ∧ (∀ x, x ∈ Lib.compactUpTo d m ↔ ∃ j, j < m ∧ d[j]! = x)
  | 0, _ => ⟨List.Pairwise.nil, fun x => ⟨fun h => (nomatch h), fun ⟨j, hj, _⟩ => absurd hj (Nat.not_lt_zero _)⟩⟩
  | m + 1, hm => by
    obtain ⟨h1, h2⟩ := comp_upto d hd m (by omega)
    rw [Lib.compactUpTo_succ]
    by_cases hk : Lib.keeps d m = true
    · rw [if_pos hk]
      have hk2 : m = 0 ∨ d[m]! ≠ d[m - 1]! := of_decide_eq_true hk
      constructor
      · unfold Ris
        refine List.pairwise_append.2 ⟨h1, List.pairwise_singleton _ _, fun a ha b hb => ?_⟩
        rw [List.mem_singleton.1 hb]
        obtain ⟨j, hj, rfl⟩ := (h2 a).1 ha
        have h3 := hd j m (by omega) (by omega)
        have h4 : d[m - 1]! ≤ d[m]! := hd (m - 1) m (by omega) (by omega)
        have h5 : d[j]! ≤ d[m - 1]! := by
          by_cases hjm : j = m - 1
          · rw [hjm]; exact Int.le_refl _
          · exact hd j (m - 1) (by omega) (by omega)
        rcases hk2 with hk2 | hk2
        · omega
        · omega
      · intro x
        rw [List.mem_append, h2 x, List.mem_singleton]
        constructor
        · rintro (⟨j, hj, e⟩ | rfl)
          · exact ⟨j, by omega, e⟩
          · exact ⟨m, by omega, rfl⟩
        · rintro ⟨j, hj, e⟩
          by_cases hjm : j = m
          · subst hjm; exact .inr e.symm
          · exact .inl ⟨j, by omega, e⟩
    · rw [if_neg hk, List.append_nil]
      have hk2 : ¬ (m = 0 ∨ d[m]! ≠ d[m - 1]!) := fun h => hk (decide_eq_true h)
      refine ⟨h1, fun x => ?_⟩
      rw [h2 x]
      constructor
      · rintro ⟨j, hj, e⟩
        exact ⟨j, by omega, e⟩
      · rintro ⟨j, hj, e⟩
        by_cases hjm : j = m
        · subst hjm
          refine ⟨j - 1, by omega, ?_⟩
          rw [← e]
          have : d[j]! = d[j - 1]! := Decidable.byContradiction fun h => hk2 (.inr h)
          exact this.symm
        · exact ⟨j, by omega, e⟩
theorem comp_ok (zs : List Int) : Ris (Lib.compact (zs.mergeSort fun x y => decide (x ≤ y))) ∧ ∀ x, x ∈ Lib.compact (zs.mergeSort fun x y => decide (x ≤ y)) ↔ x ∈ zs := by
  have hs : (zs.mergeSort fun x y => decide (x ≤ y)).Pairwise (fun a b => decide (a ≤ b) = true) := List.pairwise_mergeSort (by simp; omega) (by simp; omega) zs
  have hp := List.mergeSort_perm zs (fun x y => decide (x ≤ y))
  generalize (zs.mergeSort fun x y => decide (x ≤ y)) = ss at hs hp ⊢
  unfold Lib.compact
  have h := comp_upto ss.toArray (fun i j hij hj => by
    have hj' : j < ss.length := by simpa using hj
    have h1 := List.pairwise_iff_getElem.1 hs i j (by omega) hj' hij
    rw [getElem!_pos _ i (by simp; omega), getElem!_pos _ j (by simpa using hj)]
    simpa using h1) ss.length (by simp)
  refine ⟨h.1, fun x => (h.2 x).trans ?_⟩
  rw [← hp.mem_iff]
  constructor
  · rintro ⟨j, hj, rfl⟩
    rw [getElem!_pos _ j (by simpa using hj)]
    simp
  · intro hx
    obtain ⟨j, hj, rfl⟩ := List.getElem_of_mem hx
    exact ⟨j, hj, by rw [getElem!_pos _ j (by simpa using hj)]; simp⟩
theorem grown_put {w : World} {g n : Nat} (d : Array Int) (os : Array Obj) : w.grownBy (Go.Sort.grow (Go.Sort.putRow (Value.int .i64) (Go.Sort.ahead w n) g 0 d) os) (some g) := by
  refine ⟨rfl, rfl, rfl, ?_, fun k hk hne => ?_⟩
  · simp [Go.Sort.putRow, Go.Sort.mapBlock, Go.Sort.ahead, Go.Sort.grow]
  · rw [Go.Sort.heap_grow_old _ _ (by simpa [Go.Sort.putRow, Go.Sort.mapBlock, Go.Sort.ahead] using hk)]
    have : g ≠ k := fun e => hne (by rw [e])
    simp [Go.Sort.putRow, Go.Sort.mapBlock, Go.Sort.ahead, Array.getElem?_modify, this]
theorem SortI_ok (A : Option Addr) (n c : Nat) (zs : List Int) (base : Nat) (ok : Nat → Prop) (w : World) (h : Kd.R (Kd.int .i64) 3 w base ok (.slice A n c) zs) (h0 : 0 < zs.length) (hl : zs.length ≤ 1000000) :
    Calls Try.prog 56 #[.slice A n c] w fun e w' => e = .returned (.tuple #[]) ∧ Kd.R (Kd.int .i64) 3 w' base ok (.slice A n c) (zs.mergeSort fun x y => decide (x ≤ y)) ∧ w.grownBy w' (Value.slice A n c).ownBlock := by
  obtain ⟨g, cap, e0, hb, hg, _⟩ := Kd.R_form h h0
  injection e0 with e1 e2 e3
  subst e1; subst e2; subst e3
  have ho : w.ownsRow base 3 1 (.slice (some ⟨g, 0, none⟩) zs.length c) zs.length (zs.map (Value.int .i64)) := Kd.own_of_R (enc := Value.int .i64) (h1 := fun _ => rfl) h
  obtain ⟨g', cap', e0, _, hg', _, _, _, hH⟩ := Lib.holds_of_ownsRow ho (fun e => by cases e)
  cases e0
  have hcon := AnyM.slices_Sort_int Try.sortInts g 0 c zs w hH hg (by omega)
  refine hcon.mono ?_
  rintro e w' ⟨rfl, n, os, rfl⟩
  have hml : (zs.mergeSort fun x y => decide (x ≤ y)).length = zs.length := List.length_mergeSort _
  have ho2 := Lib.ownsRow_putRow (q := n) (k := zs.length) ho hml (Nat.le_refl _)
  rw [List.take_of_length_le (by omega)] at ho2
  have ho3 := Lib.ownsRow_grow ho2 0 os
  refine ⟨rfl, Kd.R_of_own (enc := Value.int .i64) (h1 := fun _ => rfl) ?_ h.1, grown_put _ _⟩
  rw [hml]
  exact ho3
theorem CompI_ok (A : Option Addr) (n c : Nat) (zs : List Int) (base : Nat) (ok : Nat → Prop) (w : World) (h : Kd.R (Kd.int .i64) 3 w base ok (.slice A n c) zs) (h0 : 0 < zs.length) (hl : zs.length ≤ 1000000) :
    Calls Try.prog 57 #[.slice A n c] w fun e w' => e = .returned (.slice A (Lib.compact zs).length c) ∧ Kd.R (Kd.int .i64) 3 w' base ok (.slice A (Lib.compact zs).length c) (Lib.compact zs) ∧ w.grownBy w' (Value.slice A n c).ownBlock := by
  obtain ⟨g, cap, e0, hb, hg, _⟩ := Kd.R_form h h0
  injection e0 with e1 e2 e3
  subst e1; subst e2; subst e3
  have ho : w.ownsRow base 3 1 (.slice (some ⟨g, 0, none⟩) zs.length c) zs.length (zs.map (Value.int .i64)) := Kd.own_of_R (enc := Value.int .i64) (h1 := fun _ => rfl) h
  obtain ⟨g', cap', e0, _, hg', hnc, _, _, hH⟩ := Lib.holds_of_ownsRow ho (fun e => by cases e)
  cases e0
  have hcon := AnyG.slices_Compact_int Try.compInts g 0 c zs w hH (by omega) hnc
  refine hcon.mono ?_
  rintro e w' ⟨rfl, q, rfl⟩
  have hcl := Lib.compact_length_le zs
  have ho2 := Lib.ownsRow_putRow (q := q) (k := (Lib.compact zs).length) (ys := Lib.compact zs ++ List.replicate (zs.length - (Lib.compact zs).length) 0) ho (by simp; omega) hcl
  rw [List.take_left] at ho2
  refine ⟨rfl, Kd.R_of_own (enc := Value.int .i64) (h1 := fun _ => rfl) ho2 h.1, ?_⟩
  have := grown_put (w := w) (g := g) (n := q) (Lib.compact zs ++ List.replicate (zs.length - (Lib.compact zs).length) 0).toArray #[]
  rw [Go.Sort.grow_empty] at this
  exact this
end Go.Proofs.Ytingbjdpjimikaa.B
namespace Go.Proofs.Ytingbjdpjimikaa.B
open Go.RowKit Go.Proofs Go.Proofs.YtingbjdpjimikaaW.PrintWords Go.Proofs.YtingbjdpjimikaaW.PrintLast Go.Proofs.YtingbjdpjimikaaW.PrintMore Go.Proofs.Ytingbjdpjimikaa.FBase
def pts (l : List Sp) : List Int := l.flatMap fun x => [x.f0, x.f1]
theorem pts_app (l m : List Sp) : pts (l ++ m) = pts l ++ pts m := List.flatMap_append
theorem pts_mem (l : List Sp) (y : Int) : y ∈ pts l ↔ ∃ x ∈ l, y = x.f0 ∨ y = x.f1 := by
  unfold pts
  rw [List.mem_flatMap]
  simp
def ptk (l1 l2 : List Sp) : Nat → List Sp
  | 0 => []
  | 1 => l1
  | _ => l1 ++ l2
theorem lit_own2 (W : World) (base : Nat) (x y : Int) (hb : base ≤ W.heap.size) : Kd.R (Kd.int .i64) 3 (W.alloc (.cells #[.int .i64 x, .int .i64 y] 3)) base (fun _ => True) (.slice (some ⟨W.heap.size, 0, none⟩) 2 2) [x, y] :=
  Kd.R_of_own (enc := Value.int .i64) (h1 := fun _ => rfl) ⟨rfl, .inr ⟨W.heap.size, 2, _, rfl, hb, blk_new W _, Nat.le_refl _, by decide, rfl, rfl⟩⟩ (fun _ _ => trivial)
theorem cuts_eq (l : List Sp) (hm : ∀ x ∈ l, may x) : Lib.compact (([0, 1114112] ++ pts l).mergeSort fun x y => decide (x ≤ y)) = cutsOf l := by
  have h1 := comp_ok ([0, 1114112] ++ pts l)
  have h2 := cutsOf_ok l hm
  refine Ris.uniq h1.1 h2.1 fun x => ?_
  rw [h1.2 x, h2.2 x, List.mem_append, pts_mem]
  simp
set_option maxRecDepth 100000 in
set_option maxHeartbeats 4000000 in
theorem cuts_ok (b : Nat) (A1 A2 : Option Addr) (c1 c2 : Nat) (l1 l2 : List Sp) (w : World) (hb : IsBlk w b (.cells #[.slice A1 l1.length c1, .slice A2 l2.length c2] 22 (0, 0))) (hr1 : Kd.C k39 w A1 l1.length l1) (hr2 : Kd.C k39 w A2 l2.length l2) (hl1 : l1.length ≤ 256) (hl2 : l2.length ≤ 256) (hm : ∀ x ∈ l1 ++ l2, may x) :
    Calls Try.prog 47 #[.slice (some ⟨b, 0, none⟩) 2 2] w fun e w' => ∃ (A : Option Addr) (c : Nat), e = .returned (.slice A (cutsOf (l1 ++ l2)).length c) ∧ Kd.R (Kd.int .i64) 3 w' w.heap.size (fun _ => True) (.slice A (cutsOf (l1 ++ l2)).length c) (cutsOf (l1 ++ l2)) ∧ Below w.heap.size w w' := by
  have HK := Aside0.mk hb
  have H1 := Aside0.mk hr1
  have H2 := Aside0.mk hr2
  have HM := Aside0.mk hm
  clear hb hr1 hr2 hm
  go_enter Try.func47, Try.ntmps47
  go_wp2
  go_loopw [3, 11] (fun s3 s11 W => ∃ (k : Nat) (A3 : Option Addr) (c3 : Nat) (acc : List Int), s11 = .int .i64 k ∧ s3 = .slice A3 acc.length c3 ∧ k ≤ 2 ∧ Aside0 (acc.length = 2 + 2 * (ptk l1 l2 k).length) ∧ Aside0 (acc = [0, 1114112] ++ pts (ptk l1 l2 k)) ∧ Aside0 (Kd.R (Kd.int .i64) 3 W w.heap.size (fun _ => True) (.slice A3 acc.length c3) acc) ∧ Aside0 (Below w.heap.size w W)) (fun _ s11 _ => 2 - (intOf s11).toNat)
  case atStart => exact ⟨0, _, _, [0, 1114112], rfl, rfl, by omega, ⟨rfl⟩, ⟨rfl⟩, ⟨lit_own2 _ _ _ _ (Nat.le_refl _)⟩, ⟨below_alloc (Below.refl _ _) _⟩⟩
  case round =>
    obtain ⟨k, A3, c3, acc, rfl, rfl, hk, HAL, HACC, HO, HB⟩ := hrel
    by_cases h1 : k < 2
    · obtain ⟨A0, c0, l0, hcell, hC0, hl0, hpk⟩ : ∃ A0 c0 l0, wr.cell? ⟨b, k, none⟩ = some (.slice A0 l0.length c0) ∧ Aside0 (Kd.C k39 w A0 l0.length l0) ∧ l0.length ≤ 256 ∧ ptk l1 l2 (k + 1) = ptk l1 l2 k ++ l0 := by
        have hbk := HK.out.below HB.out
        rcases (show k = 0 ∨ k = 1 by omega) with rfl | rfl
        · exact ⟨A1, c1, l1, hbk.cell 0, H1, hl1, rfl⟩
        · exact ⟨A2, c2, l2, hbk.cell 1, H2, hl2, rfl⟩
      have hkl : (ptk l1 l2 k).length ≤ 256 := by
        rcases (show k = 0 ∨ k = 1 by omega) with rfl | rfl
        · exact Nat.zero_le _
        · exact hl1
      have g2 : decide ((k : Int) < 2) = true := decide_eq_true (by omega)
      have hwk : wrap64 ((k : Int) + 1) = (k : Int) + 1 := by unfold wrap64; omega
      have HPK := Aside0.mk hpk
      clear hpk
      go_wp2
      go_loopw [3, 17] (fun s3 s17 W => ∃ (j : Nat) (A3 : Option Addr) (c3 : Nat) (acc : List Int), s17 = .int .i64 j ∧ s3 = .slice A3 acc.length c3 ∧ j ≤ l0.length ∧ Aside0 (acc.length = 2 + 2 * ((ptk l1 l2 k).length + j)) ∧ Aside0 (acc = [0, 1114112] ++ pts (ptk l1 l2 k ++ l0.take j)) ∧ Aside0 (Kd.R (Kd.int .i64) 3 W w.heap.size (fun _ => True) (.slice A3 acc.length c3) acc) ∧ Aside0 (Below w.heap.size w W)) (fun _ s17 _ => l0.length - (intOf s17).toNat)
      case atStart => exact ⟨0, A3, c3, acc, rfl, rfl, Nat.zero_le _, HAL, ⟨by rw [HACC.out, List.take_zero, List.append_nil]⟩, HO, HB⟩
      case round =>
        clear HACC HO HB HAL hcell
        obtain ⟨j, A3, c3, acc, rfl, rfl, hj, HAL, HACC, HO, HB⟩ := hrel
        by_cases h2 : j < l0.length
        · have g3 : decide (j < l0.length) = true := decide_eq_true h2
          obtain ⟨ad, e1, y0, y1⟩ := at_T39 (Kd.C_below hC0.out HB.out) (j : Int) (by omega) (by omega)
          cases e1
          rw [Int.toNat_natCast] at y0 y1
          have hw : wrap64 ((j : Int) + 1) = (j : Int) + 1 := by unfold wrap64; omega
          have hx : rd_T39 l0 (j : Int) = l0[j] := rdS h2
          have hacc2 : acc ++ [l0[j].f0, l0[j].f1] = [0, 1114112] ++ pts (ptk l1 l2 k ++ l0.take (j + 1)) := by
            rw [List.take_succ_eq_append_getElem h2, ← List.append_assoc (ptk l1 l2 k), pts_app (ptk l1 l2 k ++ l0.take j), ← List.append_assoc, ← HACC.out]
            rfl
          rw [← hx] at hacc2
          have HA2 := Aside0.mk hacc2
          clear hacc2 hx HACC
          generalize rd_T39 l0 (j : Int) = x at *
          go_wp2_with ((with_reducible refine gate_builtin (b := .append) (xs := #[.tmp 21, .tmp 26]) rfl ?_); at_builtin; go_loud (refine Kd.R_append_rows (Kd.int .i64) (w0 := w) w.heap.size rfl (.tmp 21) (.tmp 26) 53 3 (.int .i64 0) 8 rfl Try.underlying53 info3 rfl (by decide) (by omega) (.slice A3 acc.length c3) acc [x.f0, x.f1] _ _ _ (fun _ => True) (fun _ => False) rfl rfl ?aO ?aR (fun _ _ h => h) (fun _ h => h.elim) ?aF ?aB ?aS ?aL ?_; (case aR => (have h8 := (Kd.R_reads' (lit_own2 (wr.alloc (.cells #[.int .i64 x.f0, .int .i64 x.f1] 39)) w.heap.size x.f0 x.f1 (below_size (by repeat (first | exact HB.out | exact Below.refl _ _ | apply below_alloc | apply pw_below_drewN | apply below_drew1))))).2.2; rw [World.size_alloc] at h8; exact h8)); (case aB => exact (by repeat (first | exact HB.out | exact Below.refl _ _ | apply below_alloc | apply pw_below_drewN | apply below_drew1))); (case aF => exact (fun _ _ => trivial)); (case aO => exact (by (with_reducible repeat (first | apply Kd.R_alloc | apply Kd.R_drewN | apply Kd.R_drew)); exact HO.out)); (case aS => exact (below_size (by repeat (first | exact HB.out | exact Below.refl _ _ | apply below_alloc | apply pw_below_drewN | apply below_drew1)))); (case aL => have h7 := HAL.out; simp; omega); intro v3 w3 ho hb hg hat; have n0_ := Aside0.mk hb; have n1_ := Aside0.mk ho; clear ho hb hg hat))
          go_roundw
          case measure => (first | rw [hw] | skip); show l0.length - ((j : Int) + 1).toNat < l0.length - (j : Int).toNat; omega
          case rel =>
            obtain ⟨A4, c4, e3⟩ := Kd.R_slice n1_.out
            subst e3
            exact ⟨j + 1, A4, c4, _, by (first | rw [hw] | skip); rfl, rfl, by omega, ⟨by rw [List.length_append, HAL.out]; simp; omega⟩, HA2, n1_, n0_⟩
        · have g3 : decide (j < l0.length) = false := decide_eq_false h2
          have hjl : j = l0.length := by omega
          subst hjl
          rw [List.take_length, ← HPK.out] at HACC
          have hpl : (ptk l1 l2 (k + 1)).length = (ptk l1 l2 k).length + l0.length := by rw [HPK.out, List.length_append]
          have HPL := Aside0.mk hpl
          clear hpl
          go_wp2
          go_roundw
          case measure => (first | rw [hwk] | skip); show 2 - ((k : Int) + 1).toNat < 2 - (k : Int).toNat; omega
          case rel => exact ⟨k + 1, A3, c3, acc, by (first | rw [hwk] | skip); rfl, rfl, by omega, ⟨by rw [HAL.out, HPL.out]⟩, HACC, HO, HB⟩
    · have hk2 : k = 2 := by omega
      subst hk2
      have hlen : (ptk l1 l2 2).length = l1.length + l2.length := List.length_append
      have hal := HAL.out
      have HS1 := Aside0.mk fun W (h : Kd.R (Kd.int .i64) 3 W w.heap.size (fun _ => True) (.slice A3 acc.length c3) acc) => SortI_ok A3 acc.length c3 acc _ _ W h (by omega) (by omega)
      have hms : (acc.mergeSort fun x y => decide (x ≤ y)).length = acc.length := List.length_mergeSort _
      have HS2 := Aside0.mk fun W (h : Kd.R (Kd.int .i64) 3 W w.heap.size (fun _ => True) (.slice A3 acc.length c3) (acc.mergeSort fun x y => decide (x ≤ y))) => CompI_ok A3 acc.length c3 _ _ _ W h (by omega) (by omega)
      have hce : Lib.compact (acc.mergeSort fun x y => decide (x ≤ y)) = cutsOf (l1 ++ l2) := by
        rw [HACC.out]
        exact cuts_eq (l1 ++ l2) HM.out
      rw [hce] at HS2
      clear hce hms hlen hal
      go_wp2_with (first | (go_at_call 56; refine (HS1.out _ HO.out).mono ?_; rintro e w3 ⟨rfl, ho, hg⟩; have hb3 := Aside0.mk (HB.out.grown hg HB.out.size (own_base (Kd.R_own HO.out).choose_spec)); have HO3 := Aside0.mk ho; clear HO HB ho hg) | (go_at_call 57; refine (HS2.out _ HO3.out).mono ?_; rintro e w4 ⟨rfl, ho, hg⟩; have hb4 := Aside0.mk (hb3.out.grown hg hb3.out.size (own_base (Kd.R_own HO3.out).choose_spec)); have HO4 := Aside0.mk ho; clear HO3 hb3 ho hg))
      go_ret
      exact ⟨A3, c3, rfl, HO4.out, hb4.out⟩
def ckk (l1 l2 : List Sp) : Nat → Int
  | 0 => sCheck l1
  | _ => sCheck l2
def sMade (p : Bool → Bool → Bool) (l1 l2 : List Sp) : List Sp × Int :=
  if sCheck l1 ≠ 0 then ([], sCheck l1) else if sCheck l2 ≠ 0 then ([], sCheck l2) else
    if 256 < (mkS (fun c => p (sHas l1 c) (sHas l2 c)) (cutsOf (l1 ++ l2)) []).length then ([], 5) else (mkS (fun c => p (sHas l1 c) (sHas l2 c)) (cutsOf (l1 ++ l2)) [], 0)
theorem check_ff (l : List Sp) {k : Nat} (hk : l.length < k) : charset_Check.f k l = some (sCheck l) := by
  by_cases h : l.length ≤ 4611686018427387904
  · exact check_f l h hk
  · unfold charset_Check.f sCheck
    rw [if_pos (by omega), if_pos (by omega)]
theorem Sep.all : ∀ {s : List Sp} {lo : Int}, Sep lo s → ∀ x ∈ s, lo ≤ x.f0 ∧ x.f0 < x.f1
  | [], _, _, x, hx => by cases hx
  | y :: s, lo, h, x, hx => by
    rcases List.mem_cons.1 hx with rfl | hx
    · exact ⟨h.1, h.2.1⟩
    · have h1 := Sep.all h.2.2 x hx
      have h2 := h.1
      have h3 := h.2.1
      exact ⟨by omega, h1.2⟩
theorem may_of {l : List Sp} (h : sCheck l = 0) {x : Sp} (hx : x ∈ l) : may x := by
  obtain ⟨_, h1, h2⟩ := (sCheck_ok l).1 h
  have h3 := h1.all x hx
  have h4 := h2 x hx
  unfold may
  omega
theorem cutI (m : Nat) (A : Option Addr) (c : Nat) (h : m + 1 ≤ c) : ∀ W1 : World, (Instr.slice 53 (.slice A (m + 1) c) none (some (.int .i64 (m : Int))) none).run Try.prog W1 = .ok (.slice A m c) W1 := by
  obtain ⟨i0, hi0, _, hsz, _⟩ := info_parts info3
  have hcut := cut_to (P := Try.prog) 53 3 .i64 Try.underlying53 hi0 A (m + 1) c (m : Int) (by omega) (by omega) h
  simpa using hcut
theorem clo_Made_union (x y : Bool) (W : World) : Calls Try.prog 43 #[.bool x, .bool y] W fun e w' => e = .returned (.bool (x || y)) ∧ w' = W := by
  cases x <;> cases y <;> (go_enter Try.func43, Try.ntmps43; go_wp2; go_ret; exact ⟨rfl, rfl⟩)
set_option maxRecDepth 100000 in
set_option maxHeartbeats 4000000 in
theorem Made_union (A1 A2 : Option Addr) (c1 c2 : Nat) (l1 l2 : List Sp) (w : World) (hr1 : Kd.C k39 w A1 l1.length l1) (hr2 : Kd.C k39 w A2 l2.length l2) (hc1 : l1.length ≤ c1) (hc2 : l2.length ≤ c2) : Calls Try.prog 42 #[.slice A1 l1.length c1, .slice A2 l2.length c2, .func (.func 43) #[] #[]] w fun e w' => ∃ v : Value, e = .returned (.tuple #[v, .int .i64 (sMade or l1 l2).2]) ∧ Kd.R k39 39 w' w.heap.size (fun _ => True) v (sMade or l1 l2).1 ∧ Below w.heap.size w w' := by
  have HS0 := Aside0.mk (Sta.start w)
  have H1 := Aside0.mk hr1
  have H2 := Aside0.mk hr2
  have HCC1 := Aside0.mk hc1
  have HCC2 := Aside0.mk hc2
  clear hr1 hr2 hc1 hc2
  go_enter Try.func42, Try.ntmps42
  go_wp2
  go_loopw [19] (fun s19 W => ∃ k : Nat, s19 = .int .i64 k ∧ k ≤ 2 ∧ Aside0 (∀ i, i < k → ckk l1 l2 i = 0) ∧ Aside0 (Sta w W (fun W => IsBlk W w.heap.size (.cells #[.slice A1 l1.length c1, .slice A2 l2.length c2] 22 (0, 0))))) (fun s19 _ => 2 - (intOf s19).toNat)
  case atStart => exact ⟨0, rfl, by omega, ⟨fun i hi => absurd hi (Nat.not_lt_zero _)⟩, ⟨below_alloc (Below.refl _ _) _, blk_new w _, keeps_blk _ _⟩⟩
  case round =>
    obtain ⟨k, rfl, hk, HZ, HS⟩ := hrel
    by_cases h1 : k < 2
    · obtain ⟨A0, c0, l0, hcell, hC0, hc0, hck⟩ : ∃ A0 c0 l0, wr.cell? ⟨w.heap.size, k, none⟩ = some (.slice A0 l0.length c0) ∧ Aside0 (Kd.C k39 w A0 l0.length l0) ∧ Aside0 (l0.length ≤ c0) ∧ ckk l1 l2 k = sCheck l0 := by
        have hbk := HS.out.now
        rcases (show k = 0 ∨ k = 1 by omega) with rfl | rfl
        · exact ⟨A1, c1, l1, hbk.cell 0, H1, HCC1, rfl⟩
        · exact ⟨A2, c2, l2, hbk.cell 1, H2, HCC2, rfl⟩
      have g2 : decide ((k : Int) < 2) = true := decide_eq_true (by omega)
      have hwk : wrap64 ((k : Int) + 1) = (k : Int) + 1 := by unfold wrap64; omega
      have hl0 : l0.length ≤ 9223372036854775807 := hC0.out.2.1
      have hcalls : ∀ W, Below wr.heap.size wr W → Calls Try.prog 14 #[.slice A0 l0.length c0] W fun e w' => e = .returned (.int .i64 (sCheck l0)) ∧ Below W.heap.size W w' := fun W hW =>
        charset_Check.calls (l0.length + 1) A0 c0 l0 _ W (Kd.C_below hC0.out (below_step HS.out.bel hW)) hc0.out (check_ff l0 (Nat.lt_succ_self _))
      obtain ⟨r, hrr⟩ : ∃ r, sCheck l0 = r := ⟨_, rfl⟩
      rw [hrr] at hcalls hck
      have HCK := Aside0.mk hcalls
      clear hcalls hrr hC0 hc0 hl0
      by_cases hz : r = 0
      · subst hz
        have HZ2 := Aside0.mk (show ∀ i, i < k + 1 → ckk l1 l2 i = 0 from fun i hi => by
          by_cases hik : i = k
          · rw [hik]; exact hck
          · exact HZ.out i (by omega))
        clear hck HZ
        go_wp2_with (go_at_call 14; refine (HCK.out _ (by repeat (first | exact Below.refl _ _ | apply zq2 | apply zq3 | apply zq4 | apply zq5))).mono ?_; rintro e w' ⟨rfl, hb⟩; have m_ := Aside0.mk (HS.out.call (by repeat (first | exact Below.refl _ _ | apply zq2 | apply zq3 | apply zq4 | apply zq5)) hb); clear HS hb; have HS := m_; clear m_)
        go_roundw
        case measure => (first | rw [hwk] | skip); show 2 - ((k : Int) + 1).toNat < 2 - (k : Int).toNat; omega
        case rel => exact ⟨k + 1, by (first | rw [hwk] | skip); rfl, by omega, HZ2, HS⟩
      · have hz1 : (r != 0) = true := bne_iff_ne.mpr hz
        have hfin : sMade or l1 l2 = ([], r) := by
          unfold sMade
          rcases (show k = 0 ∨ k = 1 by omega) with rfl | rfl
          · rw [if_pos (show sCheck l1 ≠ 0 from fun h => hz (hck.symm.trans h)), show sCheck l1 = r from hck]
          · rw [if_neg (show ¬ sCheck l1 ≠ 0 from fun h => h (HZ.out 0 (by omega))), if_pos (show sCheck l2 ≠ 0 from fun h => hz (hck.symm.trans h)), show sCheck l2 = r from hck]
        have HFIN := Aside0.mk hfin
        clear hfin hck HZ hz
        go_wp2_with (go_at_call 14; refine (HCK.out _ (by repeat (first | exact Below.refl _ _ | apply zq2 | apply zq3 | apply zq4 | apply zq5))).mono ?_; rintro e w' ⟨rfl, hb⟩; have m_ := Aside0.mk (HS.out.call (by repeat (first | exact Below.refl _ _ | apply zq2 | apply zq3 | apply zq4 | apply zq5)) hb); clear HS hb; have HS := m_; clear m_)
        go_ret2
        rw [HFIN.out]
        exact ⟨_, rfl, Kd.R_nil _ _ _ _ _, HS.out.bel⟩
    · have hk2 : k = 2 := by omega
      subst hk2
      have z1 : sCheck l1 = 0 := HZ.out 0 (by omega)
      have z2 : sCheck l2 = 0 := HZ.out 1 (by omega)
      obtain ⟨hl1, _, hs1⟩ := (sCheck_ok l1).1 z1
      obtain ⟨hl2, _, hs2⟩ := (sCheck_ok l2).1 z2
      have hmay : ∀ x ∈ l1 ++ l2, may x := fun x hx => (List.mem_append.1 hx).elim (fun h => may_of z1 h) (fun h => may_of z2 h)
      obtain ⟨m, hm, hm2⟩ : ∃ m, (cutsOf (l1 ++ l2)).length = m + 1 ∧ m ≤ 1100 := by
        have h8 : (0 : Int) ∈ cutsOf (l1 ++ l2) := ((cutsOf_ok _ hmay).2 0).2 (.inl (.inl rfl))
        have h9 := List.length_pos_of_mem h8
        have h7 := cuts_len (l1 ++ l2)
        rw [List.length_append] at h7
        exact ⟨(cutsOf (l1 ++ l2)).length - 1, by omega, by omega⟩
      have hct := fun (b : Nat) (W : World) (hb : IsBlk W b (.cells #[.slice A1 l1.length c1, .slice A2 l2.length c2] 22 (0, 0))) (hW : Below wr.heap.size wr W) => cuts_ok b A1 A2 c1 c2 l1 l2 W hb (Kd.C_below H1.out (below_step HS.out.bel hW)) (Kd.C_below H2.out (below_step HS.out.bel hW)) hl1 hl2 hmay
      have hfin : sMade or l1 l2 = (if 256 < (mkS (fun c => or (sHas l1 c) (sHas l2 c)) (cutsOf (l1 ++ l2)) []).length then ([], 5) else (mkS (fun c => or (sHas l1 c) (sHas l2 c)) (cutsOf (l1 ++ l2)) [], 0)) := by
        unfold sMade
        rw [if_neg (show ¬ sCheck l1 ≠ 0 from fun h => h z1), if_neg (show ¬ sCheck l2 ≠ 0 from fun h => h z2)]
      obtain ⟨cu, hcu⟩ : ∃ cu, cutsOf (l1 ++ l2) = cu := ⟨_, rfl⟩
      obtain ⟨f, hf⟩ : ∃ f : Int → Bool, (fun c => or (sHas l1 c) (sHas l2 c)) = f := ⟨_, rfl⟩
      have hfx : ∀ x, f x = or (sHas l1 x) (sHas l2 x) := fun x => by rw [← hf]
      rw [hcu, hf] at hfin
      rw [hcu] at hm hct
      rw [hm] at hct
      have HFIN := Aside0.mk hfin
      have HCT := Aside0.mk hct
      have HFX := Aside0.mk hfx
      have HLM := Aside0.mk hm
      clear hfin hct hfx hm hcu hf hmay hs1 hs2 hl1 hl2 z1 z2 HZ
      have hwa : wrap64 (m : Int) = (m : Int) := by unfold wrap64; omega
      have hwb : wrap64 ((m : Int) + 1 - 1) = (m : Int) := by unfold wrap64; omega
      go_wp2_with (go_at_call 47; refine (HCT.out _ _ (blk_new wr _) (by repeat (first | exact Below.refl _ _ | apply zq2 | apply zq3 | apply zq4 | apply zq5))).mono ?_; rintro e w3 ⟨A3, c3, rfl, hR, hb⟩; have HCR := Aside0.mk (Kd.R_lower hR (HS.out.step (by repeat (first | exact Below.refl _ _ | apply zq2 | apply zq3 | apply zq4 | apply zq5))).bel.size); clear hR; have m_ := Aside0.mk (HS.out.call (by repeat (first | exact Below.refl _ _ | apply zq2 | apply zq3 | apply zq4 | apply zq5)) hb); clear HS hb; have HS := m_; clear m_; have hcut := cutI m A3 c3 (Kd.R_reads' HCR.out).2.1; obtain ⟨g, c9, e3, _, hgl, _⟩ := Kd.R_form HCR.out (by have := HLM.out; omega); rw [HLM.out] at e3; cases e3)
      go_loopw [11, 39] (fun s11 s39 W => ∃ (k : Nat) (B2 : Option Addr) (d2 : Nat) (out : List Sp), s39 = .int .i64 k ∧ s11 = .slice B2 out.length d2 ∧ k ≤ m ∧ Aside0 (out.length ≤ k) ∧ Aside0 (mkS f (cu.drop k) out = mkS f cu []) ∧ Aside0 (Kd.R k39 39 W w3.heap.size (fun _ => True) (.slice B2 out.length d2) out) ∧ Aside0 (Below w3.heap.size w3 W)) (fun _ s39 _ => m - (intOf s39).toNat)
      case atStart => exact ⟨0, none, 0, [], rfl, rfl, Nat.zero_le _, ⟨Nat.le_refl _⟩, ⟨rfl⟩, ⟨Kd.R_nil _ _ _ _ _⟩, ⟨Below.refl _ _⟩⟩
      case round =>
        obtain ⟨k, B2, d2, out, rfl, rfl, hk, HOL, HMK, HO, HB2⟩ := hrel
        by_cases h1 : k < m
        · have g2 : decide (k < m) = true := decide_eq_true h1
          have hw : wrap64 ((k : Int) + 1) = (k : Int) + 1 := by unfold wrap64; omega
          have hcr := Kd.R_below HCR.out HB2.out
          have x0 := (cell_own hcr k (by omega)).1
          have x1 := (cell_own hcr (k + 1) (by omega)).1
          have hlm := HLM.out
          have hk0 : k < cu.length := by omega
          have hk1 : k + 1 < cu.length := by omega
          have e0 : rd cu (k : Int) = cu[k] := rdI hk0
          have e1 : rd cu ((k + 1 : Nat) : Int) = cu[k + 1] := rdI hk1
          rw [e0] at x0
          rw [e1] at x1
          have hmk := HMK.out
          rw [List.drop_eq_getElem_cons hk0, List.drop_eq_getElem_cons hk1, show mkS f (cu[k] :: cu[k + 1] :: cu.drop (k + 1 + 1)) out = mkS f (cu[k + 1] :: cu.drop (k + 1 + 1)) (if f cu[k] then sAdd out cu[k] cu[k + 1] else out) from rfl, ← List.drop_eq_getElem_cons hk1, HFX.out] at hmk
          obtain ⟨a, ha⟩ : ∃ a, cu[k] = a := ⟨_, rfl⟩
          obtain ⟨a2, ha2⟩ : ∃ a, cu[k + 1] = a := ⟨_, rfl⟩
          rw [ha] at x0 hmk
          rw [ha2] at x1 hmk
          clear e0 e1 hlm hcr HMK ha ha2 hk0 hk1
          have hh1 := fun W (hW : Below w3.heap.size w3 W) => Has_ok A1 c1 l1 a W (Kd.C_below H1.out (below_step HS.out.bel hW))
          have hh2 := fun W (hW : Below w3.heap.size w3 W) => Has_ok A2 c2 l2 a W (Kd.C_below H2.out (below_step HS.out.bel hW))
          obtain ⟨b1, hb1⟩ : ∃ b, sHas l1 a = b := ⟨_, rfl⟩
          obtain ⟨b2, hb2⟩ : ∃ b, sHas l2 a = b := ⟨_, rfl⟩
          rw [hb1] at hh1 hmk
          rw [hb2] at hh2 hmk
          have hcl := clo_Made_union b1 b2
          have HH1 := Aside0.mk hh1
          have HH2 := Aside0.mk hh2
          have tk1 := True.intro
          have tk2 := True.intro
          clear hh1 hh2 hb1 hb2
          cases hp : or b1 b2 with
          | true =>
            rw [hp] at hcl hmk
            rw [if_pos rfl] at hmk
            have HCL := Aside0.mk hcl
            have HMK := Aside0.mk hmk
            have HPUT := Aside0.mk (put_eq out a a2 (by have := HOL.out; omega))
            clear hcl hmk hp
            go_wp2_with (first | (have _t := tk1; go_at_call 16; refine (HH1.out _ (by repeat (first | exact HB2.out | exact Below.refl _ _ | apply below_alloc | apply pw_below_drewN | apply below_drew1))).mono ?_; rintro e w' ⟨rfl, hb⟩; have x9 := cell_below x1 hb; clear x1; have x1 := x9; clear x9; have m_ := Aside0.mk (below_step (by repeat (first | exact HB2.out | exact Below.refl _ _ | apply below_alloc | apply pw_below_drewN | apply below_drew1)) hb); have n_ := Aside0.mk (Kd.R_below (by (with_reducible repeat (first | apply Kd.R_alloc | apply Kd.R_drewN | apply Kd.R_drew)); exact HO.out) hb); clear HB2 HO hb; have HB2 := m_; have HO := n_; clear m_ n_ tk1 _t) | (have _t := tk2; go_at_call 16; refine (HH2.out _ (by repeat (first | exact HB2.out | exact Below.refl _ _ | apply below_alloc | apply pw_below_drewN | apply below_drew1))).mono ?_; rintro e w' ⟨rfl, hb⟩; have x9 := cell_below x1 hb; clear x1; have x1 := x9; clear x9; have m_ := Aside0.mk (below_step (by repeat (first | exact HB2.out | exact Below.refl _ _ | apply below_alloc | apply pw_below_drewN | apply below_drew1)) hb); have n_ := Aside0.mk (Kd.R_below (by (with_reducible repeat (first | apply Kd.R_alloc | apply Kd.R_drewN | apply Kd.R_drew)); exact HO.out) hb); clear HB2 HO hb; have HB2 := m_; have HO := n_; clear m_ n_ tk2 _t) | (go_at_call 43; refine (HCL.out _).mono ?_; rintro e w' ⟨rfl, rfl⟩) | (go_at_call 48; refine (charset_put.calls (fun _ => True) _ out _ _ _ w3 _ (by repeat (first | exact HB2.out | exact Below.refl _ _ | apply below_alloc | apply pw_below_drewN | apply below_drew1)) (by (with_reducible repeat (first | apply Kd.R_alloc | apply Kd.R_drewN | apply Kd.R_drew)); exact HO.out) HPUT.out).mono ?_; rintro e w5 ⟨v5, rfl, hR5, hb5, _⟩; have n0_ := Aside0.mk hb5; have n1_ := Aside0.mk (Kd.R_mono hR5 (fun _ _ => trivial)); clear hR5 hb5))
            go_roundw
            case measure => (first | rw [hw] | skip); show m - ((k : Int) + 1).toNat < m - (k : Int).toNat; omega
            case rel =>
              obtain ⟨A4, c4, e3⟩ := Kd.R_slice n1_.out
              subst e3
              exact ⟨k + 1, A4, c4, _, by (first | rw [hw] | skip); rfl, rfl, by omega, ⟨by have := sAdd_len out a a2; have := HOL.out; omega⟩, HMK, n1_, n0_⟩
          | false =>
            rw [hp] at hcl hmk
            rw [if_neg (by simp)] at hmk
            have HCL := Aside0.mk hcl
            have HMK := Aside0.mk hmk
            clear hcl hmk hp
            go_wp2_with (first | (have _t := tk1; go_at_call 16; refine (HH1.out _ (by repeat (first | exact HB2.out | exact Below.refl _ _ | apply below_alloc | apply pw_below_drewN | apply below_drew1))).mono ?_; rintro e w' ⟨rfl, hb⟩; have x9 := cell_below x1 hb; clear x1; have x1 := x9; clear x9; have m_ := Aside0.mk (below_step (by repeat (first | exact HB2.out | exact Below.refl _ _ | apply below_alloc | apply pw_below_drewN | apply below_drew1)) hb); have n_ := Aside0.mk (Kd.R_below (by (with_reducible repeat (first | apply Kd.R_alloc | apply Kd.R_drewN | apply Kd.R_drew)); exact HO.out) hb); clear HB2 HO hb; have HB2 := m_; have HO := n_; clear m_ n_ tk1 _t) | (have _t := tk2; go_at_call 16; refine (HH2.out _ (by repeat (first | exact HB2.out | exact Below.refl _ _ | apply below_alloc | apply pw_below_drewN | apply below_drew1))).mono ?_; rintro e w' ⟨rfl, hb⟩; have x9 := cell_below x1 hb; clear x1; have x1 := x9; clear x9; have m_ := Aside0.mk (below_step (by repeat (first | exact HB2.out | exact Below.refl _ _ | apply below_alloc | apply pw_below_drewN | apply below_drew1)) hb); have n_ := Aside0.mk (Kd.R_below (by (with_reducible repeat (first | apply Kd.R_alloc | apply Kd.R_drewN | apply Kd.R_drew)); exact HO.out) hb); clear HB2 HO hb; have HB2 := m_; have HO := n_; clear m_ n_ tk2 _t) | (go_at_call 43; refine (HCL.out _).mono ?_; rintro e w' ⟨rfl, rfl⟩))
            go_roundw
            case measure => (first | rw [hw] | skip); show m - ((k : Int) + 1).toNat < m - (k : Int).toNat; omega
            case rel =>
              exact ⟨k + 1, B2, d2, out, by (first | rw [hw] | skip); rfl, rfl, by omega, ⟨by have := HOL.out; omega⟩, HMK, ⟨(by (with_reducible repeat (first | apply Kd.R_alloc | apply Kd.R_drewN | apply Kd.R_drew)); exact HO.out)⟩, ⟨(by repeat (first | exact HB2.out | exact Below.refl _ _ | apply below_alloc | apply pw_below_drewN | apply below_drew1))⟩⟩
        · have g2 : decide (k < m) = false := decide_eq_false h1
          have hfin2 : mkS f cu [] = out := by
            have hlm := HLM.out
            rw [← HMK.out, List.drop_eq_getElem_cons (by omega), List.drop_eq_nil_of_le (by omega)]
            rfl
          have hfin := HFIN.out
          rw [hfin2] at hfin
          clear HFIN HMK hfin2
          by_cases h9 : 256 < out.length
          · rw [if_pos h9] at hfin
            have g3 : decide (256 < (out.length : Int)) = true := decide_eq_true (by omega)
            have HFIN := Aside0.mk hfin
            clear hfin
            go_wp2
            go_ret2
            rw [HFIN.out]
            exact ⟨_, rfl, Kd.R_nil _ _ _ _ _, below_step HS.out.bel HB2.out⟩
          · rw [if_neg h9] at hfin
            have g3 : decide (256 < (out.length : Int)) = false := decide_eq_false (by omega)
            have HFIN := Aside0.mk hfin
            clear hfin
            go_wp2
            go_ret2
            rw [HFIN.out]
            exact ⟨_, rfl, Kd.R_lower HO.out HS.out.bel.size, below_step HS.out.bel HB2.out⟩
def pNot (x _ : Bool) : Bool := !x
theorem clo_Made_both (x y : Bool) (W : World) : Calls Try.prog 45 #[.bool x, .bool y] W fun e w' => e = .returned (.bool (and x y)) ∧ w' = W := by
  cases x <;> cases y <;> (go_enter Try.func45, Try.ntmps45; go_wp2; go_ret; exact ⟨rfl, rfl⟩)
theorem clo_Made_not (x y : Bool) (W : World) : Calls Try.prog 46 #[.bool x, .bool y] W fun e w' => e = .returned (.bool (pNot x y)) ∧ w' = W := by
  cases x <;> cases y <;> (go_enter Try.func46, Try.ntmps46; go_wp2; go_ret; exact ⟨rfl, rfl⟩)
set_option maxRecDepth 100000 in
set_option maxHeartbeats 4000000 in
theorem Made_both (A1 A2 : Option Addr) (c1 c2 : Nat) (l1 l2 : List Sp) (w : World) (hr1 : Kd.C k39 w A1 l1.length l1) (hr2 : Kd.C k39 w A2 l2.length l2) (hc1 : l1.length ≤ c1) (hc2 : l2.length ≤ c2) : Calls Try.prog 42 #[.slice A1 l1.length c1, .slice A2 l2.length c2, .func (.func 45) #[] #[]] w fun e w' => ∃ v : Value, e = .returned (.tuple #[v, .int .i64 (sMade and l1 l2).2]) ∧ Kd.R k39 39 w' w.heap.size (fun _ => True) v (sMade and l1 l2).1 ∧ Below w.heap.size w w' := by
  have HS0 := Aside0.mk (Sta.start w)
  have H1 := Aside0.mk hr1
  have H2 := Aside0.mk hr2
  have HCC1 := Aside0.mk hc1
  have HCC2 := Aside0.mk hc2
  clear hr1 hr2 hc1 hc2
  go_enter Try.func42, Try.ntmps42
  go_wp2
  go_loopw [19] (fun s19 W => ∃ k : Nat, s19 = .int .i64 k ∧ k ≤ 2 ∧ Aside0 (∀ i, i < k → ckk l1 l2 i = 0) ∧ Aside0 (Sta w W (fun W => IsBlk W w.heap.size (.cells #[.slice A1 l1.length c1, .slice A2 l2.length c2] 22 (0, 0))))) (fun s19 _ => 2 - (intOf s19).toNat)
  case atStart => exact ⟨0, rfl, by omega, ⟨fun i hi => absurd hi (Nat.not_lt_zero _)⟩, ⟨below_alloc (Below.refl _ _) _, blk_new w _, keeps_blk _ _⟩⟩
  case round =>
    obtain ⟨k, rfl, hk, HZ, HS⟩ := hrel
    by_cases h1 : k < 2
    · obtain ⟨A0, c0, l0, hcell, hC0, hc0, hck⟩ : ∃ A0 c0 l0, wr.cell? ⟨w.heap.size, k, none⟩ = some (.slice A0 l0.length c0) ∧ Aside0 (Kd.C k39 w A0 l0.length l0) ∧ Aside0 (l0.length ≤ c0) ∧ ckk l1 l2 k = sCheck l0 := by
        have hbk := HS.out.now
        rcases (show k = 0 ∨ k = 1 by omega) with rfl | rfl
        · exact ⟨A1, c1, l1, hbk.cell 0, H1, HCC1, rfl⟩
        · exact ⟨A2, c2, l2, hbk.cell 1, H2, HCC2, rfl⟩
      have g2 : decide ((k : Int) < 2) = true := decide_eq_true (by omega)
      have hwk : wrap64 ((k : Int) + 1) = (k : Int) + 1 := by unfold wrap64; omega
      have hl0 : l0.length ≤ 9223372036854775807 := hC0.out.2.1
      have hcalls : ∀ W, Below wr.heap.size wr W → Calls Try.prog 14 #[.slice A0 l0.length c0] W fun e w' => e = .returned (.int .i64 (sCheck l0)) ∧ Below W.heap.size W w' := fun W hW =>
        charset_Check.calls (l0.length + 1) A0 c0 l0 _ W (Kd.C_below hC0.out (below_step HS.out.bel hW)) hc0.out (check_ff l0 (Nat.lt_succ_self _))
      obtain ⟨r, hrr⟩ : ∃ r, sCheck l0 = r := ⟨_, rfl⟩
      rw [hrr] at hcalls hck
      have HCK := Aside0.mk hcalls
      clear hcalls hrr hC0 hc0 hl0
      by_cases hz : r = 0
      · subst hz
        have HZ2 := Aside0.mk (show ∀ i, i < k + 1 → ckk l1 l2 i = 0 from fun i hi => by
          by_cases hik : i = k
          · rw [hik]; exact hck
          · exact HZ.out i (by omega))
        clear hck HZ
        go_wp2_with (go_at_call 14; refine (HCK.out _ (by repeat (first | exact Below.refl _ _ | apply zq2 | apply zq3 | apply zq4 | apply zq5))).mono ?_; rintro e w' ⟨rfl, hb⟩; have m_ := Aside0.mk (HS.out.call (by repeat (first | exact Below.refl _ _ | apply zq2 | apply zq3 | apply zq4 | apply zq5)) hb); clear HS hb; have HS := m_; clear m_)
        go_roundw
        case measure => (first | rw [hwk] | skip); show 2 - ((k : Int) + 1).toNat < 2 - (k : Int).toNat; omega
        case rel => exact ⟨k + 1, by (first | rw [hwk] | skip); rfl, by omega, HZ2, HS⟩
      · have hz1 : (r != 0) = true := bne_iff_ne.mpr hz
        have hfin : sMade and l1 l2 = ([], r) := by
          unfold sMade
          rcases (show k = 0 ∨ k = 1 by omega) with rfl | rfl
          · rw [if_pos (show sCheck l1 ≠ 0 from fun h => hz (hck.symm.trans h)), show sCheck l1 = r from hck]
          · rw [if_neg (show ¬ sCheck l1 ≠ 0 from fun h => h (HZ.out 0 (by omega))), if_pos (show sCheck l2 ≠ 0 from fun h => hz (hck.symm.trans h)), show sCheck l2 = r from hck]
        have HFIN := Aside0.mk hfin
        clear hfin hck HZ hz
        go_wp2_with (go_at_call 14; refine (HCK.out _ (by repeat (first | exact Below.refl _ _ | apply zq2 | apply zq3 | apply zq4 | apply zq5))).mono ?_; rintro e w' ⟨rfl, hb⟩; have m_ := Aside0.mk (HS.out.call (by repeat (first | exact Below.refl _ _ | apply zq2 | apply zq3 | apply zq4 | apply zq5)) hb); clear HS hb; have HS := m_; clear m_)
        go_ret2
        rw [HFIN.out]
        exact ⟨_, rfl, Kd.R_nil _ _ _ _ _, HS.out.bel⟩
    · have hk2 : k = 2 := by omega
      subst hk2
      have z1 : sCheck l1 = 0 := HZ.out 0 (by omega)
      have z2 : sCheck l2 = 0 := HZ.out 1 (by omega)
      obtain ⟨hl1, _, hs1⟩ := (sCheck_ok l1).1 z1
      obtain ⟨hl2, _, hs2⟩ := (sCheck_ok l2).1 z2
      have hmay : ∀ x ∈ l1 ++ l2, may x := fun x hx => (List.mem_append.1 hx).elim (fun h => may_of z1 h) (fun h => may_of z2 h)
      obtain ⟨m, hm, hm2⟩ : ∃ m, (cutsOf (l1 ++ l2)).length = m + 1 ∧ m ≤ 1100 := by
        have h8 : (0 : Int) ∈ cutsOf (l1 ++ l2) := ((cutsOf_ok _ hmay).2 0).2 (.inl (.inl rfl))
        have h9 := List.length_pos_of_mem h8
        have h7 := cuts_len (l1 ++ l2)
        rw [List.length_append] at h7
        exact ⟨(cutsOf (l1 ++ l2)).length - 1, by omega, by omega⟩
      have hct := fun (b : Nat) (W : World) (hb : IsBlk W b (.cells #[.slice A1 l1.length c1, .slice A2 l2.length c2] 22 (0, 0))) (hW : Below wr.heap.size wr W) => cuts_ok b A1 A2 c1 c2 l1 l2 W hb (Kd.C_below H1.out (below_step HS.out.bel hW)) (Kd.C_below H2.out (below_step HS.out.bel hW)) hl1 hl2 hmay
      have hfin : sMade and l1 l2 = (if 256 < (mkS (fun c => and (sHas l1 c) (sHas l2 c)) (cutsOf (l1 ++ l2)) []).length then ([], 5) else (mkS (fun c => and (sHas l1 c) (sHas l2 c)) (cutsOf (l1 ++ l2)) [], 0)) := by
        unfold sMade
        rw [if_neg (show ¬ sCheck l1 ≠ 0 from fun h => h z1), if_neg (show ¬ sCheck l2 ≠ 0 from fun h => h z2)]
      obtain ⟨cu, hcu⟩ : ∃ cu, cutsOf (l1 ++ l2) = cu := ⟨_, rfl⟩
      obtain ⟨f, hf⟩ : ∃ f : Int → Bool, (fun c => and (sHas l1 c) (sHas l2 c)) = f := ⟨_, rfl⟩
      have hfx : ∀ x, f x = and (sHas l1 x) (sHas l2 x) := fun x => by rw [← hf]
      rw [hcu, hf] at hfin
      rw [hcu] at hm hct
      rw [hm] at hct
      have HFIN := Aside0.mk hfin
      have HCT := Aside0.mk hct
      have HFX := Aside0.mk hfx
      have HLM := Aside0.mk hm
      clear hfin hct hfx hm hcu hf hmay hs1 hs2 hl1 hl2 z1 z2 HZ
      have hwa : wrap64 (m : Int) = (m : Int) := by unfold wrap64; omega
      have hwb : wrap64 ((m : Int) + 1 - 1) = (m : Int) := by unfold wrap64; omega
      go_wp2_with (go_at_call 47; refine (HCT.out _ _ (blk_new wr _) (by repeat (first | exact Below.refl _ _ | apply zq2 | apply zq3 | apply zq4 | apply zq5))).mono ?_; rintro e w3 ⟨A3, c3, rfl, hR, hb⟩; have HCR := Aside0.mk (Kd.R_lower hR (HS.out.step (by repeat (first | exact Below.refl _ _ | apply zq2 | apply zq3 | apply zq4 | apply zq5))).bel.size); clear hR; have m_ := Aside0.mk (HS.out.call (by repeat (first | exact Below.refl _ _ | apply zq2 | apply zq3 | apply zq4 | apply zq5)) hb); clear HS hb; have HS := m_; clear m_; have hcut := cutI m A3 c3 (Kd.R_reads' HCR.out).2.1; obtain ⟨g, c9, e3, _, hgl, _⟩ := Kd.R_form HCR.out (by have := HLM.out; omega); rw [HLM.out] at e3; cases e3)
      go_loopw [11, 39] (fun s11 s39 W => ∃ (k : Nat) (B2 : Option Addr) (d2 : Nat) (out : List Sp), s39 = .int .i64 k ∧ s11 = .slice B2 out.length d2 ∧ k ≤ m ∧ Aside0 (out.length ≤ k) ∧ Aside0 (mkS f (cu.drop k) out = mkS f cu []) ∧ Aside0 (Kd.R k39 39 W w3.heap.size (fun _ => True) (.slice B2 out.length d2) out) ∧ Aside0 (Below w3.heap.size w3 W)) (fun _ s39 _ => m - (intOf s39).toNat)
      case atStart => exact ⟨0, none, 0, [], rfl, rfl, Nat.zero_le _, ⟨Nat.le_refl _⟩, ⟨rfl⟩, ⟨Kd.R_nil _ _ _ _ _⟩, ⟨Below.refl _ _⟩⟩
      case round =>
        obtain ⟨k, B2, d2, out, rfl, rfl, hk, HOL, HMK, HO, HB2⟩ := hrel
        by_cases h1 : k < m
        · have g2 : decide (k < m) = true := decide_eq_true h1
          have hw : wrap64 ((k : Int) + 1) = (k : Int) + 1 := by unfold wrap64; omega
          have hcr := Kd.R_below HCR.out HB2.out
          have x0 := (cell_own hcr k (by omega)).1
          have x1 := (cell_own hcr (k + 1) (by omega)).1
          have hlm := HLM.out
          have hk0 : k < cu.length := by omega
          have hk1 : k + 1 < cu.length := by omega
          have e0 : rd cu (k : Int) = cu[k] := rdI hk0
          have e1 : rd cu ((k + 1 : Nat) : Int) = cu[k + 1] := rdI hk1
          rw [e0] at x0
          rw [e1] at x1
          have hmk := HMK.out
          rw [List.drop_eq_getElem_cons hk0, List.drop_eq_getElem_cons hk1, show mkS f (cu[k] :: cu[k + 1] :: cu.drop (k + 1 + 1)) out = mkS f (cu[k + 1] :: cu.drop (k + 1 + 1)) (if f cu[k] then sAdd out cu[k] cu[k + 1] else out) from rfl, ← List.drop_eq_getElem_cons hk1, HFX.out] at hmk
          obtain ⟨a, ha⟩ : ∃ a, cu[k] = a := ⟨_, rfl⟩
          obtain ⟨a2, ha2⟩ : ∃ a, cu[k + 1] = a := ⟨_, rfl⟩
          rw [ha] at x0 hmk
          rw [ha2] at x1 hmk
          clear e0 e1 hlm hcr HMK ha ha2 hk0 hk1
          have hh1 := fun W (hW : Below w3.heap.size w3 W) => Has_ok A1 c1 l1 a W (Kd.C_below H1.out (below_step HS.out.bel hW))
          have hh2 := fun W (hW : Below w3.heap.size w3 W) => Has_ok A2 c2 l2 a W (Kd.C_below H2.out (below_step HS.out.bel hW))
          obtain ⟨b1, hb1⟩ : ∃ b, sHas l1 a = b := ⟨_, rfl⟩
          obtain ⟨b2, hb2⟩ : ∃ b, sHas l2 a = b := ⟨_, rfl⟩
          rw [hb1] at hh1 hmk
          rw [hb2] at hh2 hmk
          have hcl := clo_Made_both b1 b2
          have HH1 := Aside0.mk hh1
          have HH2 := Aside0.mk hh2
          have tk1 := True.intro
          have tk2 := True.intro
          clear hh1 hh2 hb1 hb2
          cases hp : and b1 b2 with
          | true =>
            rw [hp] at hcl hmk
            rw [if_pos rfl] at hmk
            have HCL := Aside0.mk hcl
            have HMK := Aside0.mk hmk
            have HPUT := Aside0.mk (put_eq out a a2 (by have := HOL.out; omega))
            clear hcl hmk hp
            go_wp2_with (first | (have _t := tk1; go_at_call 16; refine (HH1.out _ (by repeat (first | exact HB2.out | exact Below.refl _ _ | apply below_alloc | apply pw_below_drewN | apply below_drew1))).mono ?_; rintro e w' ⟨rfl, hb⟩; have x9 := cell_below x1 hb; clear x1; have x1 := x9; clear x9; have m_ := Aside0.mk (below_step (by repeat (first | exact HB2.out | exact Below.refl _ _ | apply below_alloc | apply pw_below_drewN | apply below_drew1)) hb); have n_ := Aside0.mk (Kd.R_below (by (with_reducible repeat (first | apply Kd.R_alloc | apply Kd.R_drewN | apply Kd.R_drew)); exact HO.out) hb); clear HB2 HO hb; have HB2 := m_; have HO := n_; clear m_ n_ tk1 _t) | (have _t := tk2; go_at_call 16; refine (HH2.out _ (by repeat (first | exact HB2.out | exact Below.refl _ _ | apply below_alloc | apply pw_below_drewN | apply below_drew1))).mono ?_; rintro e w' ⟨rfl, hb⟩; have x9 := cell_below x1 hb; clear x1; have x1 := x9; clear x9; have m_ := Aside0.mk (below_step (by repeat (first | exact HB2.out | exact Below.refl _ _ | apply below_alloc | apply pw_below_drewN | apply below_drew1)) hb); have n_ := Aside0.mk (Kd.R_below (by (with_reducible repeat (first | apply Kd.R_alloc | apply Kd.R_drewN | apply Kd.R_drew)); exact HO.out) hb); clear HB2 HO hb; have HB2 := m_; have HO := n_; clear m_ n_ tk2 _t) | (go_at_call 45; refine (HCL.out _).mono ?_; rintro e w' ⟨rfl, rfl⟩) | (go_at_call 48; refine (charset_put.calls (fun _ => True) _ out _ _ _ w3 _ (by repeat (first | exact HB2.out | exact Below.refl _ _ | apply below_alloc | apply pw_below_drewN | apply below_drew1)) (by (with_reducible repeat (first | apply Kd.R_alloc | apply Kd.R_drewN | apply Kd.R_drew)); exact HO.out) HPUT.out).mono ?_; rintro e w5 ⟨v5, rfl, hR5, hb5, _⟩; have n0_ := Aside0.mk hb5; have n1_ := Aside0.mk (Kd.R_mono hR5 (fun _ _ => trivial)); clear hR5 hb5))
            go_roundw
            case measure => (first | rw [hw] | skip); show m - ((k : Int) + 1).toNat < m - (k : Int).toNat; omega
            case rel =>
              obtain ⟨A4, c4, e3⟩ := Kd.R_slice n1_.out
              subst e3
              exact ⟨k + 1, A4, c4, _, by (first | rw [hw] | skip); rfl, rfl, by omega, ⟨by have := sAdd_len out a a2; have := HOL.out; omega⟩, HMK, n1_, n0_⟩
          | false =>
            rw [hp] at hcl hmk
            rw [if_neg (by simp)] at hmk
            have HCL := Aside0.mk hcl
            have HMK := Aside0.mk hmk
            clear hcl hmk hp
            go_wp2_with (first | (have _t := tk1; go_at_call 16; refine (HH1.out _ (by repeat (first | exact HB2.out | exact Below.refl _ _ | apply below_alloc | apply pw_below_drewN | apply below_drew1))).mono ?_; rintro e w' ⟨rfl, hb⟩; have x9 := cell_below x1 hb; clear x1; have x1 := x9; clear x9; have m_ := Aside0.mk (below_step (by repeat (first | exact HB2.out | exact Below.refl _ _ | apply below_alloc | apply pw_below_drewN | apply below_drew1)) hb); have n_ := Aside0.mk (Kd.R_below (by (with_reducible repeat (first | apply Kd.R_alloc | apply Kd.R_drewN | apply Kd.R_drew)); exact HO.out) hb); clear HB2 HO hb; have HB2 := m_; have HO := n_; clear m_ n_ tk1 _t) | (have _t := tk2; go_at_call 16; refine (HH2.out _ (by repeat (first | exact HB2.out | exact Below.refl _ _ | apply below_alloc | apply pw_below_drewN | apply below_drew1))).mono ?_; rintro e w' ⟨rfl, hb⟩; have x9 := cell_below x1 hb; clear x1; have x1 := x9; clear x9; have m_ := Aside0.mk (below_step (by repeat (first | exact HB2.out | exact Below.refl _ _ | apply below_alloc | apply pw_below_drewN | apply below_drew1)) hb); have n_ := Aside0.mk (Kd.R_below (by (with_reducible repeat (first | apply Kd.R_alloc | apply Kd.R_drewN | apply Kd.R_drew)); exact HO.out) hb); clear HB2 HO hb; have HB2 := m_; have HO := n_; clear m_ n_ tk2 _t) | (go_at_call 45; refine (HCL.out _).mono ?_; rintro e w' ⟨rfl, rfl⟩))
            go_roundw
            case measure => (first | rw [hw] | skip); show m - ((k : Int) + 1).toNat < m - (k : Int).toNat; omega
            case rel =>
              exact ⟨k + 1, B2, d2, out, by (first | rw [hw] | skip); rfl, rfl, by omega, ⟨by have := HOL.out; omega⟩, HMK, ⟨(by (with_reducible repeat (first | apply Kd.R_alloc | apply Kd.R_drewN | apply Kd.R_drew)); exact HO.out)⟩, ⟨(by repeat (first | exact HB2.out | exact Below.refl _ _ | apply below_alloc | apply pw_below_drewN | apply below_drew1))⟩⟩
        · have g2 : decide (k < m) = false := decide_eq_false h1
          have hfin2 : mkS f cu [] = out := by
            have hlm := HLM.out
            rw [← HMK.out, List.drop_eq_getElem_cons (by omega), List.drop_eq_nil_of_le (by omega)]
            rfl
          have hfin := HFIN.out
          rw [hfin2] at hfin
          clear HFIN HMK hfin2
          by_cases h9 : 256 < out.length
          · rw [if_pos h9] at hfin
            have g3 : decide (256 < (out.length : Int)) = true := decide_eq_true (by omega)
            have HFIN := Aside0.mk hfin
            clear hfin
            go_wp2
            go_ret2
            rw [HFIN.out]
            exact ⟨_, rfl, Kd.R_nil _ _ _ _ _, below_step HS.out.bel HB2.out⟩
          · rw [if_neg h9] at hfin
            have g3 : decide (256 < (out.length : Int)) = false := decide_eq_false (by omega)
            have HFIN := Aside0.mk hfin
            clear hfin
            go_wp2
            go_ret2
            rw [HFIN.out]
            exact ⟨_, rfl, Kd.R_lower HO.out HS.out.bel.size, below_step HS.out.bel HB2.out⟩
set_option maxRecDepth 100000 in
set_option maxHeartbeats 4000000 in
theorem Made_not (A1 A2 : Option Addr) (c1 c2 : Nat) (l1 l2 : List Sp) (w : World) (hr1 : Kd.C k39 w A1 l1.length l1) (hr2 : Kd.C k39 w A2 l2.length l2) (hc1 : l1.length ≤ c1) (hc2 : l2.length ≤ c2) : Calls Try.prog 42 #[.slice A1 l1.length c1, .slice A2 l2.length c2, .func (.func 46) #[] #[]] w fun e w' => ∃ v : Value, e = .returned (.tuple #[v, .int .i64 (sMade pNot l1 l2).2]) ∧ Kd.R k39 39 w' w.heap.size (fun _ => True) v (sMade pNot l1 l2).1 ∧ Below w.heap.size w w' := by
  have HS0 := Aside0.mk (Sta.start w)
  have H1 := Aside0.mk hr1
  have H2 := Aside0.mk hr2
  have HCC1 := Aside0.mk hc1
  have HCC2 := Aside0.mk hc2
  clear hr1 hr2 hc1 hc2
  go_enter Try.func42, Try.ntmps42
  go_wp2
  go_loopw [19] (fun s19 W => ∃ k : Nat, s19 = .int .i64 k ∧ k ≤ 2 ∧ Aside0 (∀ i, i < k → ckk l1 l2 i = 0) ∧ Aside0 (Sta w W (fun W => IsBlk W w.heap.size (.cells #[.slice A1 l1.length c1, .slice A2 l2.length c2] 22 (0, 0))))) (fun s19 _ => 2 - (intOf s19).toNat)
  case atStart => exact ⟨0, rfl, by omega, ⟨fun i hi => absurd hi (Nat.not_lt_zero _)⟩, ⟨below_alloc (Below.refl _ _) _, blk_new w _, keeps_blk _ _⟩⟩
  case round =>
    obtain ⟨k, rfl, hk, HZ, HS⟩ := hrel
    by_cases h1 : k < 2
    · obtain ⟨A0, c0, l0, hcell, hC0, hc0, hck⟩ : ∃ A0 c0 l0, wr.cell? ⟨w.heap.size, k, none⟩ = some (.slice A0 l0.length c0) ∧ Aside0 (Kd.C k39 w A0 l0.length l0) ∧ Aside0 (l0.length ≤ c0) ∧ ckk l1 l2 k = sCheck l0 := by
        have hbk := HS.out.now
        rcases (show k = 0 ∨ k = 1 by omega) with rfl | rfl
        · exact ⟨A1, c1, l1, hbk.cell 0, H1, HCC1, rfl⟩
        · exact ⟨A2, c2, l2, hbk.cell 1, H2, HCC2, rfl⟩
      have g2 : decide ((k : Int) < 2) = true := decide_eq_true (by omega)
      have hwk : wrap64 ((k : Int) + 1) = (k : Int) + 1 := by unfold wrap64; omega
      have hl0 : l0.length ≤ 9223372036854775807 := hC0.out.2.1
      have hcalls : ∀ W, Below wr.heap.size wr W → Calls Try.prog 14 #[.slice A0 l0.length c0] W fun e w' => e = .returned (.int .i64 (sCheck l0)) ∧ Below W.heap.size W w' := fun W hW =>
        charset_Check.calls (l0.length + 1) A0 c0 l0 _ W (Kd.C_below hC0.out (below_step HS.out.bel hW)) hc0.out (check_ff l0 (Nat.lt_succ_self _))
      obtain ⟨r, hrr⟩ : ∃ r, sCheck l0 = r := ⟨_, rfl⟩
      rw [hrr] at hcalls hck
      have HCK := Aside0.mk hcalls
      clear hcalls hrr hC0 hc0 hl0
      by_cases hz : r = 0
      · subst hz
        have HZ2 := Aside0.mk (show ∀ i, i < k + 1 → ckk l1 l2 i = 0 from fun i hi => by
          by_cases hik : i = k
          · rw [hik]; exact hck
          · exact HZ.out i (by omega))
        clear hck HZ
        go_wp2_with (go_at_call 14; refine (HCK.out _ (by repeat (first | exact Below.refl _ _ | apply zq2 | apply zq3 | apply zq4 | apply zq5))).mono ?_; rintro e w' ⟨rfl, hb⟩; have m_ := Aside0.mk (HS.out.call (by repeat (first | exact Below.refl _ _ | apply zq2 | apply zq3 | apply zq4 | apply zq5)) hb); clear HS hb; have HS := m_; clear m_)
        go_roundw
        case measure => (first | rw [hwk] | skip); show 2 - ((k : Int) + 1).toNat < 2 - (k : Int).toNat; omega
        case rel => exact ⟨k + 1, by (first | rw [hwk] | skip); rfl, by omega, HZ2, HS⟩
      · have hz1 : (r != 0) = true := bne_iff_ne.mpr hz
        have hfin : sMade pNot l1 l2 = ([], r) := by
          unfold sMade
          rcases (show k = 0 ∨ k = 1 by omega) with rfl | rfl
          · rw [if_pos (show sCheck l1 ≠ 0 from fun h => hz (hck.symm.trans h)), show sCheck l1 = r from hck]
          · rw [if_neg (show ¬ sCheck l1 ≠ 0 from fun h => h (HZ.out 0 (by omega))), if_pos (show sCheck l2 ≠ 0 from fun h => hz (hck.symm.trans h)), show sCheck l2 = r from hck]
        have HFIN := Aside0.mk hfin
        clear hfin hck HZ hz
        go_wp2_with (go_at_call 14; refine (HCK.out _ (by repeat (first | exact Below.refl _ _ | apply zq2 | apply zq3 | apply zq4 | apply zq5))).mono ?_; rintro e w' ⟨rfl, hb⟩; have m_ := Aside0.mk (HS.out.call (by repeat (first | exact Below.refl _ _ | apply zq2 | apply zq3 | apply zq4 | apply zq5)) hb); clear HS hb; have HS := m_; clear m_)
        go_ret2
        rw [HFIN.out]
        exact ⟨_, rfl, Kd.R_nil _ _ _ _ _, HS.out.bel⟩
    · have hk2 : k = 2 := by omega
      subst hk2
      have z1 : sCheck l1 = 0 := HZ.out 0 (by omega)
      have z2 : sCheck l2 = 0 := HZ.out 1 (by omega)
      obtain ⟨hl1, _, hs1⟩ := (sCheck_ok l1).1 z1
      obtain ⟨hl2, _, hs2⟩ := (sCheck_ok l2).1 z2
      have hmay : ∀ x ∈ l1 ++ l2, may x := fun x hx => (List.mem_append.1 hx).elim (fun h => may_of z1 h) (fun h => may_of z2 h)
      obtain ⟨m, hm, hm2⟩ : ∃ m, (cutsOf (l1 ++ l2)).length = m + 1 ∧ m ≤ 1100 := by
        have h8 : (0 : Int) ∈ cutsOf (l1 ++ l2) := ((cutsOf_ok _ hmay).2 0).2 (.inl (.inl rfl))
        have h9 := List.length_pos_of_mem h8
        have h7 := cuts_len (l1 ++ l2)
        rw [List.length_append] at h7
        exact ⟨(cutsOf (l1 ++ l2)).length - 1, by omega, by omega⟩
      have hct := fun (b : Nat) (W : World) (hb : IsBlk W b (.cells #[.slice A1 l1.length c1, .slice A2 l2.length c2] 22 (0, 0))) (hW : Below wr.heap.size wr W) => cuts_ok b A1 A2 c1 c2 l1 l2 W hb (Kd.C_below H1.out (below_step HS.out.bel hW)) (Kd.C_below H2.out (below_step HS.out.bel hW)) hl1 hl2 hmay
      have hfin : sMade pNot l1 l2 = (if 256 < (mkS (fun c => pNot (sHas l1 c) (sHas l2 c)) (cutsOf (l1 ++ l2)) []).length then ([], 5) else (mkS (fun c => pNot (sHas l1 c) (sHas l2 c)) (cutsOf (l1 ++ l2)) [], 0)) := by
        unfold sMade
        rw [if_neg (show ¬ sCheck l1 ≠ 0 from fun h => h z1), if_neg (show ¬ sCheck l2 ≠ 0 from fun h => h z2)]
      obtain ⟨cu, hcu⟩ : ∃ cu, cutsOf (l1 ++ l2) = cu := ⟨_, rfl⟩
      obtain ⟨f, hf⟩ : ∃ f : Int → Bool, (fun c => pNot (sHas l1 c) (sHas l2 c)) = f := ⟨_, rfl⟩
      have hfx : ∀ x, f x = pNot (sHas l1 x) (sHas l2 x) := fun x => by rw [← hf]
      rw [hcu, hf] at hfin
      rw [hcu] at hm hct
      rw [hm] at hct
      have HFIN := Aside0.mk hfin
      have HCT := Aside0.mk hct
      have HFX := Aside0.mk hfx
      have HLM := Aside0.mk hm
      clear hfin hct hfx hm hcu hf hmay hs1 hs2 hl1 hl2 z1 z2 HZ
      have hwa : wrap64 (m : Int) = (m : Int) := by unfold wrap64; omega
      have hwb : wrap64 ((m : Int) + 1 - 1) = (m : Int) := by unfold wrap64; omega
      go_wp2_with (go_at_call 47; refine (HCT.out _ _ (blk_new wr _) (by repeat (first | exact Below.refl _ _ | apply zq2 | apply zq3 | apply zq4 | apply zq5))).mono ?_; rintro e w3 ⟨A3, c3, rfl, hR, hb⟩; have HCR := Aside0.mk (Kd.R_lower hR (HS.out.step (by repeat (first | exact Below.refl _ _ | apply zq2 | apply zq3 | apply zq4 | apply zq5))).bel.size); clear hR; have m_ := Aside0.mk (HS.out.call (by repeat (first | exact Below.refl _ _ | apply zq2 | apply zq3 | apply zq4 | apply zq5)) hb); clear HS hb; have HS := m_; clear m_; have hcut := cutI m A3 c3 (Kd.R_reads' HCR.out).2.1; obtain ⟨g, c9, e3, _, hgl, _⟩ := Kd.R_form HCR.out (by have := HLM.out; omega); rw [HLM.out] at e3; cases e3)
      go_loopw [11, 39] (fun s11 s39 W => ∃ (k : Nat) (B2 : Option Addr) (d2 : Nat) (out : List Sp), s39 = .int .i64 k ∧ s11 = .slice B2 out.length d2 ∧ k ≤ m ∧ Aside0 (out.length ≤ k) ∧ Aside0 (mkS f (cu.drop k) out = mkS f cu []) ∧ Aside0 (Kd.R k39 39 W w3.heap.size (fun _ => True) (.slice B2 out.length d2) out) ∧ Aside0 (Below w3.heap.size w3 W)) (fun _ s39 _ => m - (intOf s39).toNat)
      case atStart => exact ⟨0, none, 0, [], rfl, rfl, Nat.zero_le _, ⟨Nat.le_refl _⟩, ⟨rfl⟩, ⟨Kd.R_nil _ _ _ _ _⟩, ⟨Below.refl _ _⟩⟩
      case round =>
        obtain ⟨k, B2, d2, out, rfl, rfl, hk, HOL, HMK, HO, HB2⟩ := hrel
        by_cases h1 : k < m
        · have g2 : decide (k < m) = true := decide_eq_true h1
          have hw : wrap64 ((k : Int) + 1) = (k : Int) + 1 := by unfold wrap64; omega
          have hcr := Kd.R_below HCR.out HB2.out
          have x0 := (cell_own hcr k (by omega)).1
          have x1 := (cell_own hcr (k + 1) (by omega)).1
          have hlm := HLM.out
          have hk0 : k < cu.length := by omega
          have hk1 : k + 1 < cu.length := by omega
          have e0 : rd cu (k : Int) = cu[k] := rdI hk0
          have e1 : rd cu ((k + 1 : Nat) : Int) = cu[k + 1] := rdI hk1
          rw [e0] at x0
          rw [e1] at x1
          have hmk := HMK.out
          rw [List.drop_eq_getElem_cons hk0, List.drop_eq_getElem_cons hk1, show mkS f (cu[k] :: cu[k + 1] :: cu.drop (k + 1 + 1)) out = mkS f (cu[k + 1] :: cu.drop (k + 1 + 1)) (if f cu[k] then sAdd out cu[k] cu[k + 1] else out) from rfl, ← List.drop_eq_getElem_cons hk1, HFX.out] at hmk
          obtain ⟨a, ha⟩ : ∃ a, cu[k] = a := ⟨_, rfl⟩
          obtain ⟨a2, ha2⟩ : ∃ a, cu[k + 1] = a := ⟨_, rfl⟩
          rw [ha] at x0 hmk
          rw [ha2] at x1 hmk
          clear e0 e1 hlm hcr HMK ha ha2 hk0 hk1
          have hh1 := fun W (hW : Below w3.heap.size w3 W) => Has_ok A1 c1 l1 a W (Kd.C_below H1.out (below_step HS.out.bel hW))
          have hh2 := fun W (hW : Below w3.heap.size w3 W) => Has_ok A2 c2 l2 a W (Kd.C_below H2.out (below_step HS.out.bel hW))
          obtain ⟨b1, hb1⟩ : ∃ b, sHas l1 a = b := ⟨_, rfl⟩
          obtain ⟨b2, hb2⟩ : ∃ b, sHas l2 a = b := ⟨_, rfl⟩
          rw [hb1] at hh1 hmk
          rw [hb2] at hh2 hmk
          have hcl := clo_Made_not b1 b2
          have HH1 := Aside0.mk hh1
          have HH2 := Aside0.mk hh2
          have tk1 := True.intro
          have tk2 := True.intro
          clear hh1 hh2 hb1 hb2
          cases hp : pNot b1 b2 with
          | true =>
            rw [hp] at hcl hmk
            rw [if_pos rfl] at hmk
            have HCL := Aside0.mk hcl
            have HMK := Aside0.mk hmk
            have HPUT := Aside0.mk (put_eq out a a2 (by have := HOL.out; omega))
            clear hcl hmk hp
            go_wp2_with (first | (have _t := tk1; go_at_call 16; refine (HH1.out _ (by repeat (first | exact HB2.out | exact Below.refl _ _ | apply below_alloc | apply pw_below_drewN | apply below_drew1))).mono ?_; rintro e w' ⟨rfl, hb⟩; have x9 := cell_below x1 hb; clear x1; have x1 := x9; clear x9; have m_ := Aside0.mk (below_step (by repeat (first | exact HB2.out | exact Below.refl _ _ | apply below_alloc | apply pw_below_drewN | apply below_drew1)) hb); have n_ := Aside0.mk (Kd.R_below (by (with_reducible repeat (first | apply Kd.R_alloc | apply Kd.R_drewN | apply Kd.R_drew)); exact HO.out) hb); clear HB2 HO hb; have HB2 := m_; have HO := n_; clear m_ n_ tk1 _t) | (have _t := tk2; go_at_call 16; refine (HH2.out _ (by repeat (first | exact HB2.out | exact Below.refl _ _ | apply below_alloc | apply pw_below_drewN | apply below_drew1))).mono ?_; rintro e w' ⟨rfl, hb⟩; have x9 := cell_below x1 hb; clear x1; have x1 := x9; clear x9; have m_ := Aside0.mk (below_step (by repeat (first | exact HB2.out | exact Below.refl _ _ | apply below_alloc | apply pw_below_drewN | apply below_drew1)) hb); have n_ := Aside0.mk (Kd.R_below (by (with_reducible repeat (first | apply Kd.R_alloc | apply Kd.R_drewN | apply Kd.R_drew)); exact HO.out) hb); clear HB2 HO hb; have HB2 := m_; have HO := n_; clear m_ n_ tk2 _t) | (go_at_call 46; refine (HCL.out _).mono ?_; rintro e w' ⟨rfl, rfl⟩) | (go_at_call 48; refine (charset_put.calls (fun _ => True) _ out _ _ _ w3 _ (by repeat (first | exact HB2.out | exact Below.refl _ _ | apply below_alloc | apply pw_below_drewN | apply below_drew1)) (by (with_reducible repeat (first | apply Kd.R_alloc | apply Kd.R_drewN | apply Kd.R_drew)); exact HO.out) HPUT.out).mono ?_; rintro e w5 ⟨v5, rfl, hR5, hb5, _⟩; have n0_ := Aside0.mk hb5; have n1_ := Aside0.mk (Kd.R_mono hR5 (fun _ _ => trivial)); clear hR5 hb5))
            go_roundw
            case measure => (first | rw [hw] | skip); show m - ((k : Int) + 1).toNat < m - (k : Int).toNat; omega
            case rel =>
              obtain ⟨A4, c4, e3⟩ := Kd.R_slice n1_.out
              subst e3
              exact ⟨k + 1, A4, c4, _, by (first | rw [hw] | skip); rfl, rfl, by omega, ⟨by have := sAdd_len out a a2; have := HOL.out; omega⟩, HMK, n1_, n0_⟩
          | false =>
            rw [hp] at hcl hmk
            rw [if_neg (by simp)] at hmk
            have HCL := Aside0.mk hcl
            have HMK := Aside0.mk hmk
            clear hcl hmk hp
            go_wp2_with (first | (have _t := tk1; go_at_call 16; refine (HH1.out _ (by repeat (first | exact HB2.out | exact Below.refl _ _ | apply below_alloc | apply pw_below_drewN | apply below_drew1))).mono ?_; rintro e w' ⟨rfl, hb⟩; have x9 := cell_below x1 hb; clear x1; have x1 := x9; clear x9; have m_ := Aside0.mk (below_step (by repeat (first | exact HB2.out | exact Below.refl _ _ | apply below_alloc | apply pw_below_drewN | apply below_drew1)) hb); have n_ := Aside0.mk (Kd.R_below (by (with_reducible repeat (first | apply Kd.R_alloc | apply Kd.R_drewN | apply Kd.R_drew)); exact HO.out) hb); clear HB2 HO hb; have HB2 := m_; have HO := n_; clear m_ n_ tk1 _t) | (have _t := tk2; go_at_call 16; refine (HH2.out _ (by repeat (first | exact HB2.out | exact Below.refl _ _ | apply below_alloc | apply pw_below_drewN | apply below_drew1))).mono ?_; rintro e w' ⟨rfl, hb⟩; have x9 := cell_below x1 hb; clear x1; have x1 := x9; clear x9; have m_ := Aside0.mk (below_step (by repeat (first | exact HB2.out | exact Below.refl _ _ | apply below_alloc | apply pw_below_drewN | apply below_drew1)) hb); have n_ := Aside0.mk (Kd.R_below (by (with_reducible repeat (first | apply Kd.R_alloc | apply Kd.R_drewN | apply Kd.R_drew)); exact HO.out) hb); clear HB2 HO hb; have HB2 := m_; have HO := n_; clear m_ n_ tk2 _t) | (go_at_call 46; refine (HCL.out _).mono ?_; rintro e w' ⟨rfl, rfl⟩))
            go_roundw
            case measure => (first | rw [hw] | skip); show m - ((k : Int) + 1).toNat < m - (k : Int).toNat; omega
            case rel =>
              exact ⟨k + 1, B2, d2, out, by (first | rw [hw] | skip); rfl, rfl, by omega, ⟨by have := HOL.out; omega⟩, HMK, ⟨(by (with_reducible repeat (first | apply Kd.R_alloc | apply Kd.R_drewN | apply Kd.R_drew)); exact HO.out)⟩, ⟨(by repeat (first | exact HB2.out | exact Below.refl _ _ | apply below_alloc | apply pw_below_drewN | apply below_drew1))⟩⟩
        · have g2 : decide (k < m) = false := decide_eq_false h1
          have hfin2 : mkS f cu [] = out := by
            have hlm := HLM.out
            rw [← HMK.out, List.drop_eq_getElem_cons (by omega), List.drop_eq_nil_of_le (by omega)]
            rfl
          have hfin := HFIN.out
          rw [hfin2] at hfin
          clear HFIN HMK hfin2
          by_cases h9 : 256 < out.length
          · rw [if_pos h9] at hfin
            have g3 : decide (256 < (out.length : Int)) = true := decide_eq_true (by omega)
            have HFIN := Aside0.mk hfin
            clear hfin
            go_wp2
            go_ret2
            rw [HFIN.out]
            exact ⟨_, rfl, Kd.R_nil _ _ _ _ _, below_step HS.out.bel HB2.out⟩
          · rw [if_neg h9] at hfin
            have g3 : decide (256 < (out.length : Int)) = false := decide_eq_false (by omega)
            have HFIN := Aside0.mk hfin
            clear hfin
            go_wp2
            go_ret2
            rw [HFIN.out]
            exact ⟨_, rfl, Kd.R_lower HO.out HS.out.bel.size, below_step HS.out.bel HB2.out⟩
set_option maxRecDepth 100000 in
set_option maxHeartbeats 4000000 in
theorem Union_ok (A1 A2 : Option Addr) (c1 c2 : Nat) (l1 l2 : List Sp) (w : World) (hr1 : Kd.C k39 w A1 l1.length l1) (hr2 : Kd.C k39 w A2 l2.length l2) (hc1 : l1.length ≤ c1) (hc2 : l2.length ≤ c2) :
    Calls Try.prog 20 #[.slice A1 l1.length c1, .slice A2 l2.length c2] w fun e w' => ∃ v : Value, e = .returned (.tuple #[v, .int .i64 (sMade or l1 l2).2]) ∧ Kd.R k39 39 w' w.heap.size (fun _ => True) v (sMade or l1 l2).1 ∧ Below w.heap.size w w' := by
  have HC := Aside0.mk (Made_union A1 A2 c1 c2 l1 l2 w hr1 hr2 hc1 hc2)
  clear hr1 hr2 hc1 hc2
  generalize sMade or l1 l2 = r at HC ⊢
  go_enter Try.func20, Try.ntmps20
  go_wp2_with (go_at_call 42; refine HC.out.mono ?_; rintro e w' ⟨v, rfl, hR, hb⟩; have HR := Aside0.mk hR; have HB := Aside0.mk hb; clear hR hb HC)
  go_ret2
  exact ⟨_, rfl, HR.out, HB.out⟩
set_option maxRecDepth 100000 in
set_option maxHeartbeats 4000000 in
theorem Both_ok (A1 A2 : Option Addr) (c1 c2 : Nat) (l1 l2 : List Sp) (w : World) (hr1 : Kd.C k39 w A1 l1.length l1) (hr2 : Kd.C k39 w A2 l2.length l2) (hc1 : l1.length ≤ c1) (hc2 : l2.length ≤ c2) :
    Calls Try.prog 22 #[.slice A1 l1.length c1, .slice A2 l2.length c2] w fun e w' => ∃ v : Value, e = .returned (.tuple #[v, .int .i64 (sMade and l1 l2).2]) ∧ Kd.R k39 39 w' w.heap.size (fun _ => True) v (sMade and l1 l2).1 ∧ Below w.heap.size w w' := by
  have HC := Aside0.mk (Made_both A1 A2 c1 c2 l1 l2 w hr1 hr2 hc1 hc2)
  clear hr1 hr2 hc1 hc2
  generalize sMade and l1 l2 = r at HC ⊢
  go_enter Try.func22, Try.ntmps22
  go_wp2_with (go_at_call 42; refine HC.out.mono ?_; rintro e w' ⟨v, rfl, hR, hb⟩; have HR := Aside0.mk hR; have HB := Aside0.mk hb; clear hR hb HC)
  go_ret2
  exact ⟨_, rfl, HR.out, HB.out⟩
set_option maxRecDepth 100000 in
set_option maxHeartbeats 4000000 in
theorem Not_ok (A1 : Option Addr) (c1 : Nat) (l1 : List Sp) (w : World) (hr1 : Kd.C k39 w A1 l1.length l1) (hc1 : l1.length ≤ c1) :
    Calls Try.prog 24 #[.slice A1 l1.length c1] w fun e w' => ∃ v : Value, e = .returned (.tuple #[v, .int .i64 (sMade pNot l1 []).2]) ∧ Kd.R k39 39 w' w.heap.size (fun _ => True) v (sMade pNot l1 []).1 ∧ Below w.heap.size w w' := by
  have HC := Aside0.mk (Made_not A1 none c1 0 l1 [] w hr1 (Kd.C_nil _ _) hc1 (Nat.le_refl _))
  clear hr1 hc1
  generalize sMade pNot l1 [] = r at HC ⊢
  go_enter Try.func24, Try.ntmps24
  go_wp2_with (go_at_call 42; refine HC.out.mono ?_; rintro e w' ⟨v, rfl, hR, hb⟩; have HR := Aside0.mk hR; have HB := Aside0.mk hb; clear hR hb HC)
  go_ret2
  exact ⟨_, rfl, HR.out, HB.out⟩
def flatSp (l : List Sp) : List Value := l.flatMap fun x => [.int .i64 x.f0, .int .i64 x.f1]
theorem flat_get : ∀ (l : List Sp) (j : Nat) (p : Sp), l[j]? = some p → (flatSp l)[j * 2]? = some (.int .i64 p.f0) ∧ (flatSp l)[j * 2 + 1]? = some (.int .i64 p.f1)
  | [], j, p, h => by simp at h
  | x :: l, 0, p, h => by
    obtain rfl : x = p := by simpa using h
    exact ⟨rfl, rfl⟩
  | x :: l, j + 1, p, h => by
    have ih := flat_get l j p (by simpa using h)
    rw [show (j + 1) * 2 = j * 2 + 1 + 1 by omega]
    exact ih
theorem lit_sp (W : World) (g : Nat) (l : List Sp) (cs : Array Value) (t : TypeId) (hg : W.heap.size = g) (hcs : cs.toList = flatSp l) (hn : l.length ≤ 9223372036854775807) : Kd.C k39 (W.alloc (.cells cs t)) (some ⟨g, 0, none⟩) l.length l := by
  subst hg
  refine ⟨rfl, hn, fun _ => ⟨_, rfl, fun j p hp => ⟨[.int .i64 p.f0, .int .i64 p.f1], rfl, k39_mk _ _, fun i u hi => ?_⟩⟩⟩
  have h := flat_get l j p hp
  show (W.alloc (.cells cs t)).cell? ((⟨W.heap.size, 0, none⟩ : Addr).add (j * 2 + i)) = some u
  rw [show (⟨W.heap.size, 0, none⟩ : Addr).add (j * 2 + i) = ⟨W.heap.size, j * 2 + i, none⟩ by simp [Addr.add]; omega, blk_cell (blk_new W _), ← Array.getElem?_toList, hcs]
  match i, hi with
  | 0, hi => rw [← hi]; exact h.1
  | 1, hi => rw [← hi]; exact h.2
  | i + 2, hi => simp at hi
theorem lit_i64 (W : World) (g : Nat) (l : List Int) (cs : Array Value) (t : TypeId) (hg : W.heap.size = g) (hcs : cs.toList = l.map (Value.int .i64)) (hn : l.length ≤ 9223372036854775807) : Kd.C (Kd.int .i64) (W.alloc (.cells cs t)) (some ⟨g, 0, none⟩) l.length l := by
  subst hg
  refine Kd.C_of_reads (d := 0) ⟨rfl, hn, fun _ => ⟨_, rfl, fun j hj => ?_⟩⟩
  rw [show (⟨W.heap.size, 0, none⟩ : Addr).add j = ⟨W.heap.size, j, none⟩ by simp [Addr.add]; omega, blk_cell (blk_new W _) j, ← Array.getElem?_toList, hcs]
  simp [List.getD, hj]
theorem wk_of : sOf [⟨3, 5⟩, ⟨1, 2⟩, ⟨5, 9⟩, ⟨4, 4⟩] = ([⟨1, 2⟩, ⟨3, 9⟩], 0) := by kernel_rfl
theorem wk_un : sMade or [⟨1, 3⟩] [⟨3, 5⟩] = ([⟨1, 5⟩], 0) := by kernel_rfl
theorem wk_bo : sMade and [⟨1, 4⟩] [⟨2, 9⟩] = ([⟨2, 4⟩], 0) := by kernel_rfl
theorem wk_no : sMade pNot [⟨1, 4⟩] [] = ([⟨0, 1⟩, ⟨4, 1114112⟩], 0) := by kernel_rfl
theorem read_of {l : List Sp} {v : Value} {base : Nat} {W : World} (h : Kd.R k39 39 W base (fun _ => True) v l) : ∃ A c, v = .slice A l.length c ∧ l.length ≤ c ∧ Kd.C k39 W A l.length l := by
  obtain ⟨A, c, rfl⟩ := Kd.R_slice h
  exact ⟨A, c, rfl, (Kd.R_reads' h).2⟩
theorem Of_w (W : World) (g : Nat) (hg : W.heap.size = g) : Calls Try.prog 11 #[.slice (some ⟨g, 0, none⟩) 4 4] (W.alloc (.cells #[.int .i64 3, .int .i64 5, .int .i64 1, .int .i64 2, .int .i64 5, .int .i64 9, .int .i64 4, .int .i64 4] 39)) fun e w' => ∃ A c, e = .returned (.tuple #[.slice A 2 c, .int .i64 0]) ∧ 2 ≤ c ∧ Kd.C k39 w' A 2 [⟨1, 2⟩, ⟨3, 9⟩] ∧ Below (W.alloc (.cells #[.int .i64 3, .int .i64 5, .int .i64 1, .int .i64 2, .int .i64 5, .int .i64 9, .int .i64 4, .int .i64 4] 39)).heap.size (W.alloc (.cells #[.int .i64 3, .int .i64 5, .int .i64 1, .int .i64 2, .int .i64 5, .int .i64 9, .int .i64 4, .int .i64 4] 39)) w' := by
  refine (Of_ok (some ⟨g, 0, none⟩) 4 [⟨3, 5⟩, ⟨1, 2⟩, ⟨5, 9⟩, ⟨4, 4⟩] _ (lit_sp W g _ _ _ hg rfl (by decide))).mono ?_
  rintro e w' ⟨v, rfl, hR, hb⟩
  rw [wk_of] at hR ⊢
  obtain ⟨A, c, rfl, hl, hC⟩ := read_of hR
  exact ⟨A, c, rfl, hl, hC, hb⟩
theorem set_w (a b : Int) (W : World) : Calls Try.prog 33 #[.int .i64 a, .int .i64 b] W fun e w' => ∃ A c, e = .returned (.slice A 1 c) ∧ 1 ≤ c ∧ Kd.C k39 w' A 1 [⟨a, b⟩] ∧ Below W.heap.size W w' := by
  refine (colophonlaw17_set.calls a b _ W rfl).mono ?_
  rintro e w' ⟨v, rfl, hR, hb⟩
  obtain ⟨A, c, rfl, hl, hC⟩ := read_of hR
  exact ⟨A, c, rfl, hl, hC, hb⟩
theorem Union_w (A1 A2 : Option Addr) (c1 c2 : Nat) (W : World) (h1 : Kd.C k39 W A1 1 [⟨1, 3⟩]) (h2 : Kd.C k39 W A2 1 [⟨3, 5⟩]) (hc1 : 1 ≤ c1) (hc2 : 1 ≤ c2) : Calls Try.prog 20 #[.slice A1 1 c1, .slice A2 1 c2] W fun e w' => ∃ A c, e = .returned (.tuple #[.slice A 1 c, .int .i64 0]) ∧ 1 ≤ c ∧ Kd.C k39 w' A 1 [⟨1, 5⟩] ∧ Below W.heap.size W w' := by
  refine (Union_ok A1 A2 c1 c2 [⟨1, 3⟩] [⟨3, 5⟩] W h1 h2 hc1 hc2).mono ?_
  rintro e w' ⟨v, rfl, hR, hb⟩
  rw [wk_un] at hR ⊢
  obtain ⟨A, c, rfl, hl, hC⟩ := read_of hR
  exact ⟨A, c, rfl, hl, hC, hb⟩
theorem Both_w (A1 A2 : Option Addr) (c1 c2 : Nat) (W : World) (h1 : Kd.C k39 W A1 1 [⟨1, 4⟩]) (h2 : Kd.C k39 W A2 1 [⟨2, 9⟩]) (hc1 : 1 ≤ c1) (hc2 : 1 ≤ c2) : Calls Try.prog 22 #[.slice A1 1 c1, .slice A2 1 c2] W fun e w' => ∃ A c, e = .returned (.tuple #[.slice A 1 c, .int .i64 0]) ∧ 1 ≤ c ∧ Kd.C k39 w' A 1 [⟨2, 4⟩] ∧ Below W.heap.size W w' := by
  refine (Both_ok A1 A2 c1 c2 [⟨1, 4⟩] [⟨2, 9⟩] W h1 h2 hc1 hc2).mono ?_
  rintro e w' ⟨v, rfl, hR, hb⟩
  rw [wk_bo] at hR ⊢
  obtain ⟨A, c, rfl, hl, hC⟩ := read_of hR
  exact ⟨A, c, rfl, hl, hC, hb⟩
theorem Not_w (A1 : Option Addr) (c1 : Nat) (W : World) (h1 : Kd.C k39 W A1 1 [⟨1, 4⟩]) (hc1 : 1 ≤ c1) : Calls Try.prog 24 #[.slice A1 1 c1] W fun e w' => ∃ A c, e = .returned (.tuple #[.slice A 2 c, .int .i64 0]) ∧ 2 ≤ c ∧ Kd.C k39 w' A 2 [⟨0, 1⟩, ⟨4, 1114112⟩] ∧ Below W.heap.size W w' := by
  refine (Not_ok A1 c1 [⟨1, 4⟩] W h1 hc1).mono ?_
  rintro e w' ⟨v, rfl, hR, hb⟩
  rw [wk_no] at hR ⊢
  obtain ⟨A, c, rfl, hl, hC⟩ := read_of hR
  exact ⟨A, c, rfl, hl, hC, hb⟩
theorem is_w (A : Option Addr) (c : Nat) (l : List Sp) (x : List Int) (W : World) (g : Nat) (hg : W.heap.size = g) {cs : Array Value} {t : TypeId} (hcs : cs.toList = x.map (Value.int .i64)) (hn : x.length ≤ 9223372036854775807) (hc : l.length ≤ c) (h : Kd.C k39 (W.alloc (.cells cs t)) A l.length l) (hf : colophonlaw17_is.f 10 l 0 x = some true) :
    Calls Try.prog 34 #[.slice A l.length c, .int .i64 0, .slice (some ⟨g, 0, none⟩) x.length x.length] (W.alloc (.cells cs t)) fun e w' => e = .returned (.bool true) ∧ Below (W.alloc (.cells cs t)).heap.size (W.alloc (.cells cs t)) w' :=
  (colophonlaw17_is.calls 10 A c l 0 _ _ x true _ h hc (lit_i64 W g x cs t hg hcs hn) (Nat.le_refl _) hf).mono fun _ _ ⟨he, hd⟩ => ⟨he, hd.below⟩
theorem Has_w (A : Option Addr) (c : Nat) (l : List Sp) (x : Int) (r : Bool) (W : World) (h : Kd.C k39 W A l.length l) (hr : sHas l x = r) : Calls Try.prog 16 #[.slice A l.length c, .int .i64 x] W fun e w' => e = .returned (.bool r) ∧ Below W.heap.size W w' := by
  rw [← hr]
  exact Has_ok A c l x W h
set_option maxRecDepth 100000 in
set_option maxHeartbeats 4000000 in
theorem works17_ok (w : World) : Calls Try.prog 19 #[] w fun e w' => e = .returned (.bool true) ∧ Below w.heap.size w w' := by
  have HS := Aside0.mk (Sta.start w)
  have t0 := True.intro
  have t1 := True.intro
  have t2 := True.intro
  have t3 := True.intro
  have t4 := True.intro
  have t5 := True.intro
  have t6 := True.intro
  have t7 := True.intro
  have t8 := True.intro
  have u0 := True.intro
  have u1 := True.intro
  have u2 := True.intro
  have u3 := True.intro
  have u4 := True.intro
  have u5 := True.intro
  go_enter Try.func19, Try.ntmps19
  go_wp2_with (first | (go_at_call 28; refine (colophonlaw17_span.calls _ _ _ _ _ rfl).mono ?_; rintro e w' ⟨rfl, hb⟩; have m_ := Aside0.mk (HS.out.call (by repeat (first | exact Below.refl _ _ | apply zq2 | apply zq3 | apply zq4 | apply zq5)) hb); clear HS hb; have HS := m_; clear m_) | (have _t := t0; go_at_call 11; refine (Of_w _ _ (by simp)).mono ?_; rintro e w' ⟨Ao, co, rfl, ho, hC, hb⟩; have m_ := Aside0.mk ((HS.out.call (by repeat (first | exact Below.refl _ _ | apply zq2 | apply zq3 | apply zq4 | apply zq5)) hb).add hC (keeps_C _ _ _ _)); clear HS hb hC; have HS := m_; clear m_; clear t0 _t) | (have _t := t1; go_at_call 33; refine (set_w 1 3 _).mono ?_; rintro e w' ⟨A1, c1, rfl, h1, hC, hb⟩; have m_ := Aside0.mk ((HS.out.call (by repeat (first | exact Below.refl _ _ | apply zq2 | apply zq3 | apply zq4 | apply zq5)) hb).add hC (keeps_C _ _ _ _)); clear HS hb hC; have HS := m_; clear m_; clear t1 _t) | (have _t := t2; go_at_call 33; refine (set_w 3 5 _).mono ?_; rintro e w' ⟨A2, c2, rfl, h2, hC, hb⟩; have m_ := Aside0.mk ((HS.out.call (by repeat (first | exact Below.refl _ _ | apply zq2 | apply zq3 | apply zq4 | apply zq5)) hb).add hC (keeps_C _ _ _ _)); clear HS hb hC; have HS := m_; clear m_; clear t2 _t) | (have _t := t3; go_at_call 20; refine (Union_w A1 A2 c1 c2 _ (HS.out.step (by repeat (first | exact Below.refl _ _ | apply zq2 | apply zq3 | apply zq4 | apply zq5))).now.2.1 (HS.out.step (by repeat (first | exact Below.refl _ _ | apply zq2 | apply zq3 | apply zq4 | apply zq5))).now.1 h1 h2).mono ?_; rintro e w' ⟨Au, cu, rfl, hu, hC, hb⟩; have m_ := Aside0.mk ((HS.out.call (by repeat (first | exact Below.refl _ _ | apply zq2 | apply zq3 | apply zq4 | apply zq5)) hb).add hC (keeps_C _ _ _ _)); clear HS hb hC; have HS := m_; clear m_; clear t3 _t) | (have _t := t4; go_at_call 33; refine (set_w 1 4 _).mono ?_; rintro e w' ⟨A3, c3, rfl, h3, hC, hb⟩; have m_ := Aside0.mk ((HS.out.call (by repeat (first | exact Below.refl _ _ | apply zq2 | apply zq3 | apply zq4 | apply zq5)) hb).add hC (keeps_C _ _ _ _)); clear HS hb hC; have HS := m_; clear m_; clear t4 _t) | (have _t := t5; go_at_call 33; refine (set_w 2 9 _).mono ?_; rintro e w' ⟨A4, c4, rfl, h4, hC, hb⟩; have m_ := Aside0.mk ((HS.out.call (by repeat (first | exact Below.refl _ _ | apply zq2 | apply zq3 | apply zq4 | apply zq5)) hb).add hC (keeps_C _ _ _ _)); clear HS hb hC; have HS := m_; clear m_; clear t5 _t) | (have _t := t6; go_at_call 22; refine (Both_w A3 A4 c3 c4 _ (HS.out.step (by repeat (first | exact Below.refl _ _ | apply zq2 | apply zq3 | apply zq4 | apply zq5))).now.2.1 (HS.out.step (by repeat (first | exact Below.refl _ _ | apply zq2 | apply zq3 | apply zq4 | apply zq5))).now.1 h3 h4).mono ?_; rintro e w' ⟨Ab, cb, rfl, hb2, hC, hb⟩; have m_ := Aside0.mk ((HS.out.call (by repeat (first | exact Below.refl _ _ | apply zq2 | apply zq3 | apply zq4 | apply zq5)) hb).add hC (keeps_C _ _ _ _)); clear HS hb hC; have HS := m_; clear m_; clear t6 _t) | (have _t := t7; go_at_call 33; refine (set_w 1 4 _).mono ?_; rintro e w' ⟨A5, c5, rfl, h5, hC, hb⟩; have m_ := Aside0.mk ((HS.out.call (by repeat (first | exact Below.refl _ _ | apply zq2 | apply zq3 | apply zq4 | apply zq5)) hb).add hC (keeps_C _ _ _ _)); clear HS hb hC; have HS := m_; clear m_; clear t7 _t) | (have _t := t8; go_at_call 24; refine (Not_w A5 c5 _ (HS.out.step (by repeat (first | exact Below.refl _ _ | apply zq2 | apply zq3 | apply zq4 | apply zq5))).now.1 h5).mono ?_; rintro e w' ⟨An, cn, rfl, hn, hC, hb⟩; have m_ := Aside0.mk ((HS.out.call (by repeat (first | exact Below.refl _ _ | apply zq2 | apply zq3 | apply zq4 | apply zq5)) hb).add hC (keeps_C _ _ _ _)); clear HS hb hC; have HS := m_; clear m_; clear t8 _t) | (have _t := u0; go_at_call 34; refine (is_w Ao co [⟨1, 2⟩, ⟨3, 9⟩] [1, 2, 3, 9] _ _ (by simp) rfl (by decide) ho (HS.out.step (by repeat (first | exact Below.refl _ _ | apply zq2 | apply zq3 | apply zq4 | apply zq5))).now.2.2.2.2.2.2.2.2.1 (by kernel_rfl)).mono ?_; rintro e w' ⟨rfl, hb⟩; have m_ := Aside0.mk (HS.out.call (by repeat (first | exact Below.refl _ _ | apply zq2 | apply zq3 | apply zq4 | apply zq5)) hb); clear HS hb; have HS := m_; clear m_; clear u0 _t) | (have _t := u1; go_at_call 34; refine (is_w Au cu [⟨1, 5⟩] [1, 5] _ _ (by simp) rfl (by decide) hu (HS.out.step (by repeat (first | exact Below.refl _ _ | apply zq2 | apply zq3 | apply zq4 | apply zq5))).now.2.2.2.2.2.1 (by kernel_rfl)).mono ?_; rintro e w' ⟨rfl, hb⟩; have m_ := Aside0.mk (HS.out.call (by repeat (first | exact Below.refl _ _ | apply zq2 | apply zq3 | apply zq4 | apply zq5)) hb); clear HS hb; have HS := m_; clear m_; clear u1 _t) | (have _t := u2; go_at_call 34; refine (is_w Ab cb [⟨2, 4⟩] [2, 4] _ _ (by simp) rfl (by decide) hb2 (HS.out.step (by repeat (first | exact Below.refl _ _ | apply zq2 | apply zq3 | apply zq4 | apply zq5))).now.2.2.1 (by kernel_rfl)).mono ?_; rintro e w' ⟨rfl, hb⟩; have m_ := Aside0.mk (HS.out.call (by repeat (first | exact Below.refl _ _ | apply zq2 | apply zq3 | apply zq4 | apply zq5)) hb); clear HS hb; have HS := m_; clear m_; clear u2 _t) | (have _t := u3; go_at_call 34; refine (is_w An cn [⟨0, 1⟩, ⟨4, 1114112⟩] [0, 1, 4, 1114112] _ _ (by simp) rfl (by decide) hn (HS.out.step (by repeat (first | exact Below.refl _ _ | apply zq2 | apply zq3 | apply zq4 | apply zq5))).now.1 (by kernel_rfl)).mono ?_; rintro e w' ⟨rfl, hb⟩; have m_ := Aside0.mk (HS.out.call (by repeat (first | exact Below.refl _ _ | apply zq2 | apply zq3 | apply zq4 | apply zq5)) hb); clear HS hb; have HS := m_; clear m_; clear u3 _t) | (have _t := u4; go_at_call 16; refine ((Has_w Ao co [⟨1, 2⟩, ⟨3, 9⟩] 8 true _ (HS.out.step (by repeat (first | exact Below.refl _ _ | apply zq2 | apply zq3 | apply zq4 | apply zq5))).now.2.2.2.2.2.2.2.2.1 rfl)).mono ?_; rintro e w' ⟨rfl, hb⟩; have m_ := Aside0.mk (HS.out.call (by repeat (first | exact Below.refl _ _ | apply zq2 | apply zq3 | apply zq4 | apply zq5)) hb); clear HS hb; have HS := m_; clear m_; clear u4 _t) | (have _t := u5; go_at_call 16; refine ((Has_w Ao co [⟨1, 2⟩, ⟨3, 9⟩] 2 false _ (HS.out.step (by repeat (first | exact Below.refl _ _ | apply zq2 | apply zq3 | apply zq4 | apply zq5))).now.2.2.2.2.2.2.2.2.1 rfl)).mono ?_; rintro e w' ⟨rfl, hb⟩; have m_ := Aside0.mk (HS.out.call (by repeat (first | exact Below.refl _ _ | apply zq2 | apply zq3 | apply zq4 | apply zq5)) hb); clear HS hb; have HS := m_; clear m_; clear u5 _t))
  go_ret
  exact ⟨rfl, HS.out.bel⟩
theorem spoil_l : ∀ (n i k : Nat) (l : List Sp), l.length - i = n → n < k → l.length ≤ 1000000 → ∃ r, colophonlaw17_spoil.l0 k l i = some r
  | n, i, 0, l, _, h, _ => absurd h (Nat.not_lt_zero _)
  | n, i, k + 1, l, hn, hk, hl => by
    unfold colophonlaw17_spoil.l0
    by_cases hi : i < l.length
    · rw [if_pos (by omega), if_pos (by omega), w1 (by omega)]
      exact spoil_l (n - 1) (i + 1) k _ (by rw [List.length_set]; omega) (by omega) (by rw [List.length_set]; exact hl)
    · rw [if_neg (by omega)]
      exact ⟨_, rfl⟩
theorem spoil_f (l : List Sp) {k : Nat} (hk : l.length < k) (hl : l.length ≤ 1000000) : ∃ r, colophonlaw17_spoil.f k l = some r := spoil_l l.length 0 k l (by omega) hk hl
theorem cutS_to (A : Option Addr) (c n m : Nat) (h : m ≤ n) (hc : n ≤ c) : ∀ W1 : World, (Instr.slice 22 (.slice A n c) none (some (.int .i64 (m : Int))) none).run Try.prog W1 = .ok (.slice A m c) W1 := by
  obtain ⟨i0, hi0, _, hsz, _⟩ := info_parts info39
  have hcut := cut_to (P := Try.prog) 22 39 .i64 Try.underlying22 hi0 A n c (m : Int) (by omega) (by omega) hc
  simpa using hcut
theorem rcheck_ff (l : List Sp) {k : Nat} (hk : l.length < k) : colophonref17_Check.f k l = some (sCheck l) := by
  by_cases h : l.length ≤ 4611686018427387904
  · exact rcheck_f l h hk
  · unfold colophonref17_Check.f sCheck
    rw [if_pos (by omega), if_pos (by omega)]
theorem flat_len {l : List (List Sp)} (hs : ∀ s ∈ l, s.length ≤ 256) (k : Nat) : (l.take k).flatten.length ≤ 256 * k := by
  induction k generalizing l with
  | zero => simp
  | succ k ih =>
    cases l with
    | nil => simp
    | cons s l =>
      have h1 := ih (l := l) (fun t ht => hs t (List.mem_cons_of_mem _ ht))
      have h2 := hs s (by simp)
      rw [List.take_succ_cons, List.flatten_cons, List.length_append]
      omega
theorem flat_step {l : List (List Sp)} {k : Nat} (h : k < l.length) : (l.take (k + 1)).flatten = (l.take k).flatten ++ l[k] := by
  rw [List.take_succ_eq_append_getElem h, List.flatten_append]
  simp
theorem rdL {l : List (List Sp)} {i : Nat} (h : i < l.length) : rd_L2 l (i : Int) = l[i] := by simp [rd_L2, List.getD, h]
set_option maxRecDepth 100000 in
set_option maxHeartbeats 4000000 in
theorem cutsL_ok (A : Option Addr) (c : Nat) (l : List (List Sp)) (w : World) (hr : Kd.C (Kd.slice 39 k39) w A l.length l) (hl : l.length ≤ 40) (hs : ∀ s ∈ l, s.length ≤ 256) (hm : ∀ x ∈ l.flatten, may x) :
    Calls Try.prog 47 #[.slice A l.length c] w fun e w' => ∃ (A : Option Addr) (c : Nat), e = .returned (.slice A (cutsOf l.flatten).length c) ∧ Kd.R (Kd.int .i64) 3 w' w.heap.size (fun _ => True) (.slice A (cutsOf l.flatten).length c) (cutsOf l.flatten) ∧ Below w.heap.size w w' := by
  have H1 := Aside0.mk hr
  have HM := Aside0.mk hm
  have HSL := Aside0.mk hs
  clear hr hm hs
  go_enter Try.func47, Try.ntmps47
  go_wp2
  go_loopw [3, 11] (fun s3 s11 W => ∃ (k : Nat) (A3 : Option Addr) (c3 : Nat) (acc : List Int), s11 = .int .i64 k ∧ s3 = .slice A3 acc.length c3 ∧ k ≤ l.length ∧ Aside0 (acc.length = 2 + 2 * (l.take k).flatten.length) ∧ Aside0 (acc = [0, 1114112] ++ pts ((l.take k).flatten)) ∧ Aside0 (Kd.R (Kd.int .i64) 3 W w.heap.size (fun _ => True) (.slice A3 acc.length c3) acc) ∧ Aside0 (Below w.heap.size w W)) (fun _ s11 _ => l.length - (intOf s11).toNat)
  case atStart => exact ⟨0, _, _, [0, 1114112], rfl, rfl, by omega, ⟨rfl⟩, ⟨rfl⟩, ⟨lit_own2 _ _ _ _ (Nat.le_refl _)⟩, ⟨below_alloc (Below.refl _ _) _⟩⟩
  case round =>
    obtain ⟨k, A3, c3, acc, rfl, rfl, hk, HAL, HACC, HO, HB⟩ := hrel
    by_cases h1 : k < l.length
    · obtain ⟨ad, A0, c0, e0, hcell0, hl0c, hC00⟩ := at_L2 (Kd.C_below H1.out HB.out) (k : Int) (by omega) (by omega)
      obtain ⟨ad', A0', c0', e0', hcell0', hl0c', hC0w⟩ := at_L2 H1.out (k : Int) (by omega) (by omega)
      cases e0
      cases e0'
      have hcell := hcell0
      rw [Int.toNat_natCast] at hcell hcell0'
      have hcw := cell_below hcell0' HB.out
      rw [hcell] at hcw
      injection hcw with hcw
      injection hcw with e1 e2 e3
      subst e1; subst e3
      have hl0 := HSL.out l[k] (List.getElem_mem h1)
      have hpk := flat_step h1
      rw [rdL h1] at hcell hC0w
      obtain ⟨l0, hl0e⟩ : ∃ l0, l[k] = l0 := ⟨_, rfl⟩
      rw [hl0e] at hl0 hpk hcell hC0w
      have hC0 := Aside0.mk hC0w
      have hkl : (l.take k).flatten.length ≤ 256 * 40 := Nat.le_trans (flat_len HSL.out k) (by omega)
      have g2 : decide (k < l.length) = true := decide_eq_true (by omega)
      clear hl0e hC0w hC00 hcell0 hcell0' hl0c hl0c' e2
      have hwk : wrap64 ((k : Int) + 1) = (k : Int) + 1 := by unfold wrap64; omega
      have HPK := Aside0.mk hpk
      clear hpk
      go_wp2
      go_loopw [3, 17] (fun s3 s17 W => ∃ (j : Nat) (A3 : Option Addr) (c3 : Nat) (acc : List Int), s17 = .int .i64 j ∧ s3 = .slice A3 acc.length c3 ∧ j ≤ l0.length ∧ Aside0 (acc.length = 2 + 2 * ((l.take k).flatten.length + j)) ∧ Aside0 (acc = [0, 1114112] ++ pts ((l.take k).flatten ++ l0.take j)) ∧ Aside0 (Kd.R (Kd.int .i64) 3 W w.heap.size (fun _ => True) (.slice A3 acc.length c3) acc) ∧ Aside0 (Below w.heap.size w W)) (fun _ s17 _ => l0.length - (intOf s17).toNat)
      case atStart => exact ⟨0, A3, c3, acc, rfl, rfl, Nat.zero_le _, HAL, ⟨by rw [HACC.out, List.take_zero, List.append_nil]⟩, HO, HB⟩
      case round =>
        clear HACC HO HB HAL hcell
        obtain ⟨j, A3, c3, acc, rfl, rfl, hj, HAL, HACC, HO, HB⟩ := hrel
        by_cases h2 : j < l0.length
        · have g3 : decide (j < l0.length) = true := decide_eq_true h2
          obtain ⟨ad, e1, y0, y1⟩ := at_T39 (Kd.C_below hC0.out HB.out) (j : Int) (by omega) (by omega)
          cases e1
          rw [Int.toNat_natCast] at y0 y1
          have hw : wrap64 ((j : Int) + 1) = (j : Int) + 1 := by unfold wrap64; omega
          have hx : rd_T39 l0 (j : Int) = l0[j] := rdS h2
          have hacc2 : acc ++ [l0[j].f0, l0[j].f1] = [0, 1114112] ++ pts ((l.take k).flatten ++ l0.take (j + 1)) := by
            rw [List.take_succ_eq_append_getElem h2, ← List.append_assoc (l.take k).flatten, pts_app ((l.take k).flatten ++ l0.take j), ← List.append_assoc, ← HACC.out]
            rfl
          rw [← hx] at hacc2
          have HA2 := Aside0.mk hacc2
          clear hacc2 hx HACC
          generalize rd_T39 l0 (j : Int) = x at *
          go_wp2_with ((with_reducible refine gate_builtin (b := .append) (xs := #[.tmp 21, .tmp 26]) rfl ?_); at_builtin; go_loud (refine Kd.R_append_rows (Kd.int .i64) (w0 := w) w.heap.size rfl (.tmp 21) (.tmp 26) 53 3 (.int .i64 0) 8 rfl Try.underlying53 info3 rfl (by decide) (by omega) (.slice A3 acc.length c3) acc [x.f0, x.f1] _ _ _ (fun _ => True) (fun _ => False) rfl rfl ?aO ?aR (fun _ _ h => h) (fun _ h => h.elim) ?aF ?aB ?aS ?aL ?_; (case aR => (have h8 := (Kd.R_reads' (lit_own2 (wr.alloc (.cells #[.int .i64 x.f0, .int .i64 x.f1] 39)) w.heap.size x.f0 x.f1 (below_size (by repeat (first | exact HB.out | exact Below.refl _ _ | apply below_alloc | apply pw_below_drewN | apply below_drew1))))).2.2; rw [World.size_alloc] at h8; exact h8)); (case aB => exact (by repeat (first | exact HB.out | exact Below.refl _ _ | apply below_alloc | apply pw_below_drewN | apply below_drew1))); (case aF => exact (fun _ _ => trivial)); (case aO => exact (by (with_reducible repeat (first | apply Kd.R_alloc | apply Kd.R_drewN | apply Kd.R_drew)); exact HO.out)); (case aS => exact (below_size (by repeat (first | exact HB.out | exact Below.refl _ _ | apply below_alloc | apply pw_below_drewN | apply below_drew1)))); (case aL => have h7 := HAL.out; simp; omega); intro v3 w3 ho hb hg hat; have n0_ := Aside0.mk hb; have n1_ := Aside0.mk ho; clear ho hb hg hat))
          go_roundw
          case measure => (first | rw [hw] | skip); show l0.length - ((j : Int) + 1).toNat < l0.length - (j : Int).toNat; omega
          case rel =>
            obtain ⟨A4, c4, e3⟩ := Kd.R_slice n1_.out
            subst e3
            exact ⟨j + 1, A4, c4, _, by (first | rw [hw] | skip); rfl, rfl, by omega, ⟨by rw [List.length_append, HAL.out]; simp; omega⟩, HA2, n1_, n0_⟩
        · have g3 : decide (j < l0.length) = false := decide_eq_false h2
          have hjl : j = l0.length := by omega
          subst hjl
          rw [List.take_length, ← HPK.out] at HACC
          have hpl : (l.take (k + 1)).flatten.length = (l.take k).flatten.length + l0.length := by rw [HPK.out, List.length_append]
          have HPL := Aside0.mk hpl
          clear hpl
          go_wp2
          go_roundw
          case measure => (first | rw [hwk] | skip); show l.length - ((k : Int) + 1).toNat < l.length - (k : Int).toNat; omega
          case rel => exact ⟨k + 1, A3, c3, acc, by (first | rw [hwk] | skip); rfl, rfl, by omega, ⟨by rw [HAL.out, HPL.out]⟩, HACC, HO, HB⟩
    · have hk2 : k = l.length := by omega
      subst hk2
      have g2 : decide (l.length < l.length) = false := decide_eq_false (by omega)
      rw [List.take_length] at HAL HACC
      have hlen : l.flatten.length ≤ 256 * 40 := by
        have := flat_len HSL.out l.length
        rw [List.take_length] at this
        omega
      have hal := HAL.out
      have HS1 := Aside0.mk fun W (h : Kd.R (Kd.int .i64) 3 W w.heap.size (fun _ => True) (.slice A3 acc.length c3) acc) => SortI_ok A3 acc.length c3 acc _ _ W h (by omega) (by omega)
      have hms : (acc.mergeSort fun x y => decide (x ≤ y)).length = acc.length := List.length_mergeSort _
      have HS2 := Aside0.mk fun W (h : Kd.R (Kd.int .i64) 3 W w.heap.size (fun _ => True) (.slice A3 acc.length c3) (acc.mergeSort fun x y => decide (x ≤ y))) => CompI_ok A3 acc.length c3 _ _ _ W h (by omega) (by omega)
      have hce : Lib.compact (acc.mergeSort fun x y => decide (x ≤ y)) = cutsOf l.flatten := by
        rw [HACC.out]
        exact cuts_eq l.flatten HM.out
      rw [hce] at HS2
      clear hce hms hlen hal
      go_wp2_with (first | (go_at_call 56; refine (HS1.out _ HO.out).mono ?_; rintro e w3 ⟨rfl, ho, hg⟩; have hb3 := Aside0.mk (HB.out.grown hg HB.out.size (own_base (Kd.R_own HO.out).choose_spec)); have HO3 := Aside0.mk ho; clear HO HB ho hg) | (go_at_call 57; refine (HS2.out _ HO3.out).mono ?_; rintro e w4 ⟨rfl, ho, hg⟩; have hb4 := Aside0.mk (hb3.out.grown hg hb3.out.size (own_base (Kd.R_own HO3.out).choose_spec)); have HO4 := Aside0.mk ho; clear HO3 hb3 ho hg))
      go_ret
      exact ⟨A3, c3, rfl, HO4.out, hb4.out⟩
structure MpI {H : Type} (D : DataW H) (f : Lit → Option Int) : Prop where
  isMap : Maps.IsMap D
  yes : ∀ k c, f k = some c → Maps.has D k = true ∧ ∀ z, D.atKey k z = .lit (.int .i64 c)
  no : ∀ k, f k = none → Maps.has D k = false
theorem MpI.empty {H : Type} : MpI (.map [] : DataW H) (fun _ => none) := ⟨Maps.isMap_empty, fun _ _ h => (nomatch h), fun _ _ => rfl⟩
open Classical in
theorem MpI.put {H : Type} {D : DataW H} {f : Lit → Option Int} (h : MpI D f) {k : Lit} (hk : WideAt.IsKeyLit k) (c : Int) : MpI (D.put k (.lit (.int .i64 c))) (fun q => if q = k then some c else f q) := by
  refine ⟨h.isMap.put _ _, fun q x hq => ?_, fun q hq => ?_⟩
  · by_cases e : q = k
    · subst e
      rw [if_pos rfl] at hq
      cases hq
      exact ⟨Maps.has_put_same h.isMap hk _, fun z => Maps.atKey_put_same h.isMap hk _ z⟩
    · rw [if_neg e] at hq
      obtain ⟨h1, h2⟩ := h.yes q x hq
      exact ⟨(Maps.has_put_other e _).trans h1, fun z => (Maps.atKey_put_other e _ z).trans (h2 z)⟩
  · by_cases e : q = k
    · subst e
      rw [if_pos rfl] at hq
      cases hq
    · rw [if_neg e] at hq
      exact (Maps.has_put_other e _).trans (h.no q hq)
theorem MpI.congr {H : Type} {D : DataW H} {f g : Lit → Option Int} (h : MpI D f) (e : ∀ q, f q = g q) : MpI D g := by
  have : f = g := funext e
  rwa [this] at h
def kindP (l : List (List Sp)) (c : Int) : Nat → Nat
  | 0 => 0
  | k + 1 => kindP l c k + (if sHas (l.getD k []) c then 2 ^ k else 0)
theorem kindP_lt (l : List (List Sp)) (c : Int) : ∀ k, kindP l c k < 2 ^ k
  | 0 => by simp [kindP]
  | k + 1 => by
    have := kindP_lt l c k
    rw [kindP, Nat.pow_succ]
    split <;> omega
def kindOf (l : List (List Sp)) (c : Int) : Int := (kindP l c l.length : Nat)
abbrev PSt := List Int × List (List Sp)
def pAdd (k a b : Int) (st : PSt) : PSt := if st.1.idxOf k = st.1.length then (st.1 ++ [k], st.2 ++ [sAdd [] a b]) else (st.1, st.2.set (st.1.idxOf k) (sAdd (st.2.getD (st.1.idxOf k) []) a b))
def pFold (f : Int → Int) : List Int → PSt → PSt
  | a :: b :: r, st => pFold f (b :: r) (pAdd (f a) a b st)
  | _, st => st
def firstErr : List (List Sp) → Int
  | [] => 0
  | s :: l => if sCheck s ≠ 0 then sCheck s else firstErr l
def sParts (l : List (List Sp)) : List (List Sp) × Int :=
  if 32 < l.length then ([], 5) else if firstErr l ≠ 0 then ([], firstErr l) else
    if (pFold (kindOf l) (cutsOf l.flatten) ([], [])).2.any (fun s => decide (256 < s.length)) then ([], 5) else ((pFold (kindOf l) (cutsOf l.flatten) ([], [])).2, 0)
theorem firstErr_no {l : List (List Sp)} (h : firstErr l = 0) : ∀ s ∈ l, sCheck s = 0 := by
  induction l with
  | nil => intro s hs; cases hs
  | cons t l ih =>
    intro s hs
    rw [firstErr] at h
    split at h
    · rename_i h1; exact absurd h h1
    · rename_i h1
      rcases List.mem_cons.1 hs with rfl | hs
      · exact Decidable.not_not.1 h1
      · exact ih h s hs
theorem firstErr_all {l : List (List Sp)} (h : ∀ s ∈ l, sCheck s = 0) : firstErr l = 0 := by
  induction l with
  | nil => rfl
  | cons t l ih =>
    rw [firstErr, if_neg (fun h1 => h1 (h t (by simp)))]
    exact ih fun s hs => h s (List.mem_cons_of_mem _ hs)
theorem firstErr_at {l : List (List Sp)} {k : Nat} (hk : k < l.length) (h : ∀ i (hi : i < k), sCheck (l[i]'(by omega)) = 0) (he : sCheck l[k] ≠ 0) : firstErr l = sCheck l[k] := by
  induction l generalizing k with
  | nil => simp at hk
  | cons t l ih =>
    rw [firstErr]
    cases k with
    | zero => exact if_pos he
    | succ k =>
      rw [if_neg (fun h1 => h1 (h 0 (by omega)))]
      exact ih (by simpa using hk) (fun i hi => h (i + 1) (by omega)) he
theorem flat_may {l : List (List Sp)} (h : ∀ s ∈ l, sCheck s = 0) : ∀ x ∈ l.flatten, may x := fun x hx => by
  obtain ⟨s, hs, hx⟩ := List.mem_flatten.1 hx
  exact may_of (h s hs) hx
theorem PartsC_ok (A : Option Addr) (d n : Nat) (W : World) : Calls Try.prog 50 #[.slice A n d] W fun e w' => e = .returned (.bool (decide (256 < n))) ∧ w' = W := by
  by_cases h : 256 < n
  · have g : decide (256 < (n : Int)) = true := decide_eq_true (by omega)
    go_enter Try.func50, Try.ntmps50
    go_wp2
    go_ret
    exact ⟨by rw [decide_eq_true h]; rfl, rfl⟩
  · have g : decide (256 < (n : Int)) = false := decide_eq_false (by omega)
    go_enter Try.func50, Try.ntmps50
    go_wp2
    go_ret
    exact ⟨by rw [decide_eq_false h]; rfl, rfl⟩
set_option maxRecDepth 100000 in
set_option maxHeartbeats 2000000 in
theorem IdxL_ok (A : Option Addr) (d : Nat) (l : List (List Sp)) (w : World) (hr : Kd.C (Kd.slice 39 k39) w A l.length l) :
    Calls Try.prog 58 #[.slice A l.length d, .func (.func 50) #[] #[]] w fun e w' => ∃ r : Int, e = .returned (.int .i64 r) ∧ decide (0 ≤ r) = l.any (fun s => decide (256 < s.length)) ∧ w' = w := by
  have HR := Aside0.mk hr
  have hlm : l.length ≤ 9223372036854775807 := hr.2.1
  clear hr
  go_enter Try.func58, Try.ntmps58
  go_wp2
  go_loopw [8] (fun s8 W => ∃ k : Nat, s8 = .int .i64 k ∧ k ≤ l.length ∧ Aside0 ((l.take k).any (fun s => decide (256 < s.length)) = false) ∧ W = w) (fun s8 _ => l.length - (intOf s8).toNat)
  case atStart => exact ⟨0, rfl, Nat.zero_le _, ⟨rfl⟩, rfl⟩
  case round =>
    obtain ⟨k, rfl, hk, HN, rfl⟩ := hrel
    by_cases h1 : k < l.length
    · have g2 : decide (k < l.length) = true := decide_eq_true h1
      obtain ⟨ad, A0, c0, e0, hcell, hl0c, hC0⟩ := at_L2 HR.out (k : Int) (by omega) (by omega)
      cases e0
      rw [Int.toNat_natCast] at hcell
      rw [rdL h1] at hcell
      have ht : (l.take (k + 1)).any (fun s => decide (256 < s.length)) = ((l.take k).any (fun s => decide (256 < s.length)) || decide (256 < (l[k]).length)) := by
        rw [List.take_succ_eq_append_getElem h1, List.any_append]
        simp
      have hm : decide (256 < (l[k]).length) = true → l.any (fun s => decide (256 < s.length)) = true := fun h => List.any_eq_true.2 ⟨_, List.getElem_mem h1, h⟩
      rw [HN.out, Bool.false_or] at ht
      obtain ⟨n, hn⟩ : ∃ n, (l[k]).length = n := ⟨_, rfl⟩
      rw [hn] at hcell ht hm
      have hcl := fun W => PartsC_ok A0 c0 n W
      have hw : wrap64 ((k : Int) + 1) = (k : Int) + 1 := by unfold wrap64; omega
      have HT := Aside0.mk ht
      have HM := Aside0.mk hm
      clear ht hm hn hl0c hC0
      cases hx : decide (256 < n) with
      | true =>
        rw [hx] at HM hcl
        have HCL := Aside0.mk hcl
        have HM2 := Aside0.mk (HM.out rfl)
        clear hx HM HT hcl
        go_wp2_with (go_at_call 50; refine (HCL.out _).mono ?_; rintro e w' ⟨rfl, rfl⟩)
        go_ret
        exact ⟨k, rfl, by rw [HM2.out]; exact decide_eq_true (by omega), rfl⟩
      | false =>
        rw [hx] at HT hcl
        have HCL := Aside0.mk hcl
        clear hx HM hcl
        go_wp2_with (go_at_call 50; refine (HCL.out _).mono ?_; rintro e w' ⟨rfl, rfl⟩)
        go_roundw
        case measure => (first | rw [hw] | skip); show l.length - ((k : Int) + 1).toNat < l.length - (k : Int).toNat; omega
        case rel => exact ⟨k + 1, by (first | rw [hw] | skip); rfl, by omega, HT, trivial⟩
    · have g2 : decide (k < l.length) = false := decide_eq_false h1
      go_wp2
      go_ret
      refine ⟨-1, rfl, ?_, rfl⟩
      have := HN.out
      rw [List.take_of_length_le (by omega)] at this
      rw [this]
      rfl
set_option maxRecDepth 100000 in
set_option maxHeartbeats 2000000 in
theorem ConL_ok (A : Option Addr) (d : Nat) (l : List (List Sp)) (w : World) (hr : Kd.C (Kd.slice 39 k39) w A l.length l) :
    Calls Try.prog 49 #[.slice A l.length d, .func (.func 50) #[] #[]] w fun e w' => e = .returned (.bool (l.any (fun s => decide (256 < s.length)))) ∧ w' = w := by
  have HI := Aside0.mk (IdxL_ok A d l w hr)
  clear hr
  go_enter Try.func49, Try.ntmps49
  go_wp2_with (go_at_call 58; refine HI.out.mono ?_; rintro e w' ⟨r, rfl, hr, rfl⟩; have HR := Aside0.mk hr; clear hr)
  go_ret
  exact ⟨by rw [← HR.out]; rfl, rfl⟩
end Go.Proofs.Ytingbjdpjimikaa.B
