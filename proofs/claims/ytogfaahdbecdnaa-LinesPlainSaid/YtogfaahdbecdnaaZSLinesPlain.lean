/-
  The row of LinesPlain, in its full form: for every input the call answers true, and the input reads as it did.
-/
import Derived.RangeFuncNested
import Derived.RangeFuncBound
import Derived.RangeFuncCalls
import Derived.RangeFuncLeaves
import Derived.RangeFuncBox
import Derived.Shelf.Abstract
import Derived.Shelf.RegionOpen
import Derived.OwnWalkIn
import Derived.TacticsInMore
import Derived.LoopNIn
import Derived.LoopIn
import Derived.Test.YtogfaahdbecdnaaFBasex4
import Derived.Deep.DeepFit
import Derived.Test.YtogfaahdbecdnaaFBasex5
import Derived.Test.YtogfaahdbecdnaaBulk
import Derived.ChangeShapes
import Derived.Deep.DeepCutAuto
import Derived.Deep.CutRange
import Derived.Deep.RegionHeld3
import Derived.Sort.QuietIn
import Derived.WalkKit
import Derived.ProofKit
import Derived.OpenShut
import Derived.ShutString
import Derived.ChangeOld
import Derived.Below
import Derived.SizedLaws
import Derived.JoinedCond
import Derived.Test.YtogfaahdbecdnaaZSLinesPlain0
/-
  Plain laws of lines: words with ends between.
-/
namespace Go.Proofs.Ytogfaahdbecdnaa.B
open Go.RowKit Go.Proofs.YtogfaahdbecdnaaW.PrintWords Go.Proofs.YtogfaahdbecdnaaW.PrintLast Go.Proofs.YtogfaahdbecdnaaW.PrintMore Go.Proofs.Ytogfaahdbecdnaa.FBase
set_option linter.unusedVariables false

theorem V_ascii : ∀ (l : List Int), (∀ x ∈ l, 0 ≤ x ∧ x < 128) → V l
  | [], _ => .nil
  | b :: t, h => by
    have hd := dec_1 t (h b (by simp)).2
    refine .step _ (by rw [hd]) ?_
    rw [hd]
    exact V_ascii t (fun x hx => h x (List.mem_cons_of_mem _ hx))

/-- What ends a line. -/
def Ends (e : List Int) : Prop := e = [10] ∨ e = [13, 10] ∨ e = [13]
/-- Words of so many letters, with ends between. -/
def txt (e : List Int) : List Nat → List Int
  | [] => []
  | [m] => List.replicate m 120
  | m :: m2 :: r => List.replicate m 120 ++ (e ++ txt e (m2 :: r))
theorem txt_bytes {e : List Int} (he : Ends e) : ∀ (ms : List Nat), ∀ x ∈ txt e ms, 0 ≤ x ∧ x < 128
  | [], x, hx => by simp [txt] at hx
  | [m], x, hx => by
    rw [txt] at hx
    have := List.eq_of_mem_replicate hx
    omega
  | m :: m2 :: r, x, hx => by
    rw [txt] at hx
    rcases List.mem_append.1 hx with hx | hx
    · have := List.eq_of_mem_replicate hx
      omega
    · rcases List.mem_append.1 hx with hx | hx
      · rcases he with rfl | rfl | rfl <;> simp at hx <;> omega
      · exact txt_bytes he (m2 :: r) x hx
theorem txt_length {e : List Int} (he : Ends e) : ∀ (ms : List Nat), (∀ m ∈ ms, m ≤ 4) → (txt e ms).length ≤ 6 * ms.length
  | [], _ => by simp [txt]
  | [m], h => by
    have := h m (by simp)
    rw [txt, List.length_replicate]
    simp
    omega
  | m :: m2 :: r, h => by
    have h1 := h m (by simp)
    have h2 := txt_length he (m2 :: r) (fun x hx => h x (List.mem_cons_of_mem _ hx))
    have h3 : e.length ≤ 2 := by rcases he with rfl | rfl | rfl <;> simp
    rw [txt, List.length_append, List.length_append, List.length_replicate]
    simp only [List.length_cons] at h2 ⊢
    omega
theorem lns_word (m : Nat) : ∀ (t : List Int) (fr i : Int), lns (List.replicate m 120 ++ t) fr i = lns t fr (i + m) := by
  induction m with
  | zero => intro t fr i; simp
  | succ m ih =>
    intro t fr i
    rw [List.replicate_succ, List.cons_append, lns, if_neg (by decide), if_neg (by decide), ih, show i + 1 + (m : Int) = i + ((m + 1 : Nat) : Int) by omega]
theorem lns_end {e : List Int} (he : Ends e) (t : List Int) (ht : t.head? ≠ some 10) (fr i : Int) : lns (e ++ t) fr i = ⟨fr, i, i + e.length⟩ :: lns t (i + e.length) (i + e.length) := by
  rcases he with rfl | rfl | rfl
  · rw [List.cons_append, lns, if_pos rfl]; rfl
  · rw [List.cons_append, lns, if_neg (by decide), if_pos rfl, if_pos (by rfl)]; rfl
  · rw [List.cons_append, List.nil_append, lns, if_neg (by decide), if_pos rfl, if_neg ht]; rfl
theorem lns_endn {e : List Int} (he : Ends e) (hne : e ≠ [13]) (t : List Int) (fr i : Int) : lns (e ++ t) fr i = ⟨fr, i, i + e.length⟩ :: lns t (i + e.length) (i + e.length) := by
  rcases he with rfl | rfl | rfl
  · rw [List.cons_append, lns, if_pos rfl]; rfl
  · rw [List.cons_append, lns, if_neg (by decide), if_pos rfl, if_pos (by rfl)]; rfl
  · exact absurd rfl hne
theorem txt_head (ms : List Nat) : (txt [13] ms).head? ≠ some 10 := by
  match ms with
  | [] => simp [txt]
  | [0] => simp [txt]
  | [m + 1] => simp [txt, List.replicate_succ]
  | 0 :: m2 :: r => simp [txt]
  | (m + 1) :: m2 :: r => simp [txt, List.replicate_succ]
theorem lns_ends_ {e : List Int} (he : Ends e) (ms : List Nat) (fr i : Int) : lns (e ++ txt e ms) fr i = ⟨fr, i, i + e.length⟩ :: lns (txt e ms) (i + e.length) (i + e.length) := by
  by_cases h : e = [13]
  · subst h
    exact lns_end he _ (txt_head ms) fr i
  · exact lns_endn he h _ fr i
theorem txt_lens {e : List Int} (he : Ends e) : ∀ (ms : List Nat) (i : Int), ms ≠ [] → (lns (txt e ms) i i).map (fun x => x.f1 - x.f0) = ms.map (fun m : Nat => (m : Int))
  | [], _, h => absurd rfl h
  | [m], i, _ => by
    rw [txt, show List.replicate m (120 : Int) = List.replicate m 120 ++ [] by simp, lns_word, lns]
    simp
    omega
  | m :: m2 :: r, i, _ => by
    rw [txt, lns_word, lns_ends_ he, List.map_cons, txt_lens he (m2 :: r) _ (by simp), List.map_cons]
    simp
    omega
theorem txt_count {e : List Int} (he : Ends e) (ms : List Nat) (h : ms ≠ []) : (lns (txt e ms) 0 0).length = ms.length := by
  have := congrArg List.length (txt_lens he ms 0 h)
  simpa using this
theorem txt_len {e : List Int} (he : Ends e) (ms : List Nat) (h : ms ≠ []) (t : Nat) (ht : t < ms.length) : (rdLn (lns (txt e ms) 0 0) t).f1 - (rdLn (lns (txt e ms) 0 0) t).f0 = (ms.getD t 0 : Nat) := by
  have hc := txt_count he ms h
  have h1 := congrArg (fun l => l[t]?) (txt_lens he ms 0 h)
  have h2 : t < (lns (txt e ms) 0 0).length := by omega
  simp only [List.getElem?_map, List.getElem?_eq_getElem h2, List.getElem?_eq_getElem ht, Option.map_some, Option.some.injEq] at h1
  rw [rdLn, Int.toNat_natCast]
  simp only [List.getD, List.getElem?_eq_getElem h2, List.getElem?_eq_getElem ht, Option.getD_some]
  exact h1
/-- A round of the loop that lays the text. -/
theorem txt_drop (e : List Int) (ms : List Nat) (i : Nat) (hi : i < ms.length) : txt e (ms.drop i) = List.replicate (ms.getD i 0) 120 ++ (if i + 1 < ms.length then e ++ txt e (ms.drop (i + 1)) else []) := by
  rw [List.drop_eq_getElem_cons hi]
  have hg : ms.getD i 0 = ms[i] := by simp [List.getD, hi]
  rw [hg]
  by_cases h : i + 1 < ms.length
  · rw [if_pos h, List.drop_eq_getElem_cons h, txt]
  · rw [if_neg h, show ms.drop (i + 1) = [] by rw [List.drop_eq_nil_iff]; omega, txt, List.append_nil]
end Go.Proofs.Ytogfaahdbecdnaa.B

/-
  A quiet region (loads and calls that leave the memory as it is) in the body of a range over a function: one walk in the order of the text serves every order.
-/
namespace Go.Proofs.Ytogfaahdbecdnaa.B
open Go Go.RowKit Go.Proofs.YtogfaahdbecdnaaW.PrintWords Go.Proofs.YtogfaahdbecdnaaW.PrintLast Go.Proofs.YtogfaahdbecdnaaW.PrintMore Go.Proofs.Ytogfaahdbecdnaa.FBase
theorem quiet_drawn {P : Program} {f : FuncId} {args : Array Value} {v : Value} {n : Nat} {w : World} (h : Calls P f args (w.drewN n) fun e w' => e = .returned v ∧ Drawn0 (w.drewN n) w') : Calls P f args (w.drewN n) fun e w' => e = .returned v ∧ ∃ m, w' = w.drewN m :=
  h.mono fun e w' ⟨he, m, hm⟩ => ⟨he, n + m, by rw [← World.drewN_drewN]; first | exact hm | exact hm.symm⟩
def notDefer (o : Oper) : Bool := match o.op with | .defer _ => false | _ => true
theorem notDefer_ne {o : Oper} (h : notDefer o = true) : ∀ c, o.op ≠ .defer c := fun c e => by simp [notDefer, e] at h
section
variable {F : Fence} {n : Nat} {P : Program} {ops : Array Oper} {C : World → Prop} {md : Region.Mode}
theorem opQuiet {o : Oper} {a : Act} {K : Act → Prop} {K' : Act → World → Prop} {Q' : Exit → Act → World → Prop} {w : World} (hd : ∀ c, o.op ≠ .defer c) (hw : C w) (h : ∀ a w', C w' → K a → K' a w')
    (ha : o.askedIn F P a C) (hh : o.quietIn F n P a C K) : o.wpIn F n P a w K' Q' := by
  obtain ⟨v, h1, h2⟩ := hh
  have h3 := h1 w hw
  unfold Oper.quietAtIn at h3
  unfold Oper.wpIn
  refine ⟨ha w hw, ?_⟩
  rw [Oper.semAt_eq _ _ _ hd]
  generalize (execOp a.eval o).run P w = r at *
  match r, h3 with
  | .ok x w', h3 =>
    match x, h3 with
    | .value u, ⟨e1, e2⟩ => rw [Oper.uponIn, e1, e2]; exact h _ _ hw h2
    | .skip, ⟨e1, e2⟩ => rw [Oper.uponIn, e1, ← e2]; exact h _ _ hw h2
    | .enter f args, ⟨e1, hdp, hc⟩ => rw [e1]; exact ⟨hdp, hc.mono fun e w'' ⟨he, hw''⟩ => by subst he; exact h _ _ hw'' h2⟩
theorem opsQuiet {i : Nat} {a : Act} {K : Act → Prop} {K' : Act → World → Prop} {Q' : Exit → Act → World → Prop} {w : World} (hd : ops.all notDefer = true) (hC : C w) (h : ∀ a w', C w' → K a → K' a w')
    (hh : qOpIn F n P ops C i K a) : wpOpIn F n P ops Q' i K' a w := by
  unfold qOpIn at hh
  unfold wpOpIn
  split
  · rename_i ho; simp only [ho] at hh; exact h _ _ hC hh
  · rename_i o ho
    simp only [ho] at hh
    obtain ⟨ha, hh⟩ := hh
    have hdo : notDefer o = true := by
      rw [Array.all_eq_true] at hd
      obtain ⟨hi, e⟩ := Array.getElem?_eq_some_iff.1 ho
      rw [← e]
      exact hd i hi
    split
    · rename_i hw; simp only [hw, if_true] at hh; exact opQuiet (notDefer_ne hdo) hC h ha hh
    · rename_i hw; simp only [hw] at hh; exact ⟨ha w hC, h _ _ hC hh⟩
theorem anyQuiet {Q : Act → Prop} {Q' : Exit → Act → World → Prop} (hd : ops.all notDefer = true) (hQ : ∀ a w, C w → Q a → Q' .normal a w) : ∀ (fuel : Nat) (listed : Array Bool) (a : Act) (w : World), C w →
    wpAnyQIn F n P md ops C Q fuel listed a → wpAnyIn F n P md ops Q' fuel listed a w
  | 0, _, _, _, hw, h => ⟨h.1, hQ _ _ hw h.2⟩
  | fuel + 1, _, _, _, hw, h => ⟨fun h0 => hQ _ _ hw (h.1 h0), fun i hi => opsQuiet hd hw (fun a' w' hw' => anyQuiet hd hQ fuel _ a' w' hw') (h.2 i hi)⟩
theorem wpIn_region_round {id : Nat} {Q : Exit → Act → World → Prop} {a : Act} {w : World} {l : List Oper} (hd : l.toArray.all notDefer = true) (hm : P.follows .mixedOrders = true) (hB : Region.lexB .any l.toArray = true)
    (h : wpQuietIn F n P l.toArray (fun w' => ∃ n, w' = w.drewN n) (fun a' => ∀ w', (∃ n, w' = w.drewN n) → Q .normal a' w') l a) : (Code.region id l.toArray true).wpIn F n P Q a w := by
  have hB2 := hB
  simp only [Region.lexB, Bool.and_eq_true] at hB2
  refine wpIn_region_any hm (anyQuiet (C := fun w' => ∃ n, w' = w.drewN n) (Q := fun a' => ∀ w', (∃ n, w' = w.drewN n) → Q .normal a' w') hd (fun _ w' hw' h => h w' hw') _ _ _ _ ⟨1, rfl⟩ ?_)
  have := wpAnyQIn_lex (F := F) (n := n) (P := P) (C := fun w' => ∃ n, w' = w.drewN n) (md := .any) (Q := fun a' => ∀ w', (∃ n, w' = w.drewN n) → Q .normal a' w') hB2.1 l.toArray.toList 0 (Array.replicate l.toArray.size false) a (by simp) (by simpa using hB2.2) (by simpa using h)
  simpa using this
end
end Go.Proofs.Ytogfaahdbecdnaa.B

/-
  lines: a range over All whose body keeps an invariant: one law.
-/
namespace Go.Proofs.Ytogfaahdbecdnaa.B
open Go.RowKit Go.Shelf Go.Proofs Go.Proofs.YtogfaahdbecdnaaW.PrintWords Go.Proofs.YtogfaahdbecdnaaW.PrintLast Go.Proofs.YtogfaahdbecdnaaW.PrintMore Go.Proofs.Ytogfaahdbecdnaa.FBase
set_option linter.unusedVariables false
attribute [local go_sem] Oper.semAt_some

set_option maxRecDepth 100000 in
set_option maxHeartbeats 2000000 in
/-- All's closure, told by the lines' numbers. -/
theorem All2 (n : Nat) (hn : 1 ≤ n) (l Bs n₀ a : Nat) (L : List Ln) (hpos : 0 < L.length) (hs : L.length ≤ 2097152) (J Jx : List Nat → World → Prop)
    (W : World) (hJ : AbidesFrom W.heap.size J) (hJx : AbidesFrom W.heap.size Jx)
    (hY : ∀ pre x W1, J pre W1 → pre.length < L.length → YieldAt Fence.wide (n - 1) Try.prog l (encLn (nthLn L x)) W1 fun e W' =>
      (e = .returned (.bool true) ∧ J (pre ++ [x]) W' ∧ Below n₀ W1 W') ∨ (e = .returned (.bool false) ∧ Jx (pre ++ [x]) W'))
    (w0 : World) (hw0 : w0.heap.size = n₀) (hbW : Below n₀ w0 W) (hI : IsIdx w0 a L) (hBs : W.cell? ⟨Bs, 0, none⟩ = some (.pointer (some ⟨a, 0, none⟩))) (h0 : J [] W) :
    CallsIn Fence.wide n Try.prog 59 #[.func (.yield l) #[] #[], .pointer (some ⟨Bs, 0, none⟩)] W fun e W' => (∃ v, e = .returned v) ∧
      ((∃ ys, ys = List.range L.length ∧ J ys W') ∨ (∃ pre, (∃ k, k ≤ L.length ∧ pre = List.range k) ∧ Jx pre W')) := by
  subst hw0
  have HI := Aside0.mk hI
  have hbW' : Below w0.heap.size w0 W := hbW
  obtain ⟨A, c, h3, hl, hC⟩ := hI.cell
  have h3W := (hbW.cell (World.block_lt_of_cell? w0 _ h3)).trans h3
  have HC := Aside0.mk hC
  have HB := Aside0.mk hbW
  have HJ := Aside0.mk hJ
  have HY := Aside0.mk hY
  clear hI hC hJ hJx hbW hbW' hY h3
  refine callsIn_of_wp Try.func59 rfl trivial ?_ rfl
  simp only [Try.ntmps59, List.size_toArray, List.length_cons, List.length_nil, Nat.reduceAdd, Nat.reduceSub, Array.replicate_succ, Array.replicate_zero, List.push_toArray, List.append_toArray, List.nil_append, List.cons_append]
  gi_wp2_with (refine ⟨trivial, ?_⟩; gi_at_call 58; refine (callsIn_wide.2 (none_idx _ a L (IsIdx.below HI.out HB.out) hpos)).mono ?_; rintro e w' ⟨rfl, rfl⟩)
  gi_loopw [12] (fun i wr => ∃ k : Nat, k ≤ L.length ∧ i = .int .i64 k ∧ Aside0 (J (List.range k) wr) ∧ Aside0 (Below w0.heap.size W wr) ∧ Aside0 (W.heap.size ≤ wr.heap.size))
    (fun i _ => L.length - (intOf i).toNat)
  case atStart => exact ⟨0, Nat.zero_le _, rfl, ⟨h0⟩, ⟨Below.refl _ _⟩, ⟨Nat.le_refl _⟩⟩
  case round =>
    obtain ⟨k, hk, rfl, HJs, HBr, HSz⟩ := hrel
    by_cases hlt : k < L.length
    · obtain ⟨ad, e, h4, h5, h6⟩ := atLn HC.out (k : Int) (by omega) (by omega)
      cases e
      rw [Int.toNat_natCast] at h4 h5 h6
      have hB2 := HB.out.trans HBr.out
      have g4 := (hB2.cell (World.block_lt_of_cell? w0 _ h4)).trans h4
      have g5 := (hB2.cell (World.block_lt_of_cell? w0 _ h5)).trans h5
      have g6 := (hB2.cell (World.block_lt_of_cell? w0 _ h6)).trans h6
      clear h4 h5 h6 hB2
      have hJa : J (List.range k) (wr.alloc (.cells #[.int .i64 (rdLn L k).f0, .int .i64 (rdLn L k).f1, .int .i64 (rdLn L k).f2] 90)) :=
        HJ.out _ _ _ none HJs.out (World.grownBy_alloc _ _ none) (fun r e => by cases e)
      obtain ⟨fn, tmps, assign, body, hy, hR⟩ := HY.out _ k _ hJa (by rw [List.length_range]; exact hlt)
      dsimp only [encLn, nthLn] at hy
      gi_wp2
      refine hR.mono ?_
      rintro e W3 (⟨rfl, hJ3, hk3⟩ | ⟨rfl, hJx3⟩)
      · gi_wp2
        go_roundw
        case rel => exact ⟨k + 1, by omega, by simp, ⟨by rw [List.range_succ]; exact hJ3⟩, ⟨(HBr.out.alloc (by have := HB.out.size; have := HSz.out; omega) _).trans hk3⟩, ⟨by have := hk3.size; have := HSz.out; simp at *; omega⟩⟩
        case measure => simp [intOf]; omega
      · gi_wp2
        refine bodyPost_ret (results_none rfl _ _ _) rfl ?_
        exact ⟨⟨_, rfl⟩, .inr ⟨_, ⟨k + 1, by omega, List.range_succ.symm⟩, hJx3⟩⟩
    · obtain rfl : k = L.length := by omega
      gi_wp2
      go_end0
      exact ⟨⟨_, rfl⟩, .inl ⟨_, rfl, HJs.out⟩⟩

theorem All_stops2 (n : Nat) (hn : 1 ≤ n) (Bs n₀ a : Nat) (L : List Ln) (hpos : 0 < L.length) (hs : L.length ≤ 2097152) (w0 w : World) (hw0 : w0.heap.size = n₀) (hbW : Below n₀ w0 w) (hI : IsIdx w0 a L) (hBs : Bs < w.heap.size) (hc : w.cell? ⟨Bs, 0, none⟩ = some (.pointer (some ⟨a, 0, none⟩))) :
    SeqStopsK Fence.wide n Try.prog 59 #[.pointer (some ⟨Bs, 0, none⟩)] (fun j => encLn (nthLn L j)) (Below n₀) (fun ys => ys = List.range L.length)
      (fun pre => ∃ k, k ≤ L.length ∧ pre = List.range k) L.length w := fun l J Jx W hW hJ hJx hY h0 => by
  have hc' := (hW.cell (p := ⟨Bs, 0, none⟩) hBs).trans hc
  exact All2 n hn l Bs n₀ a L hpos hs J Jx W hJ hJx hY w0 hw0 (hbW.trans (hW.mono (by have := hbW.size; omega))) hI hc' h0

/-- A box: a block of one cell, which may be written. -/
def Box1 (W : World) (g : Nat) (v : Value) : Prop := W.cell? ⟨g, 0, none⟩ = some v ∧ W.frozen? ⟨g, 0, none⟩ = false
theorem box1_own {β : Type} (B g : Nat) (v : β → Value) : OwnFrom B (fun (s : β) W => Box1 W g (v s)) :=
  Own.from (fun s A B row hs hg hr => ⟨cell_kept hs.1 hg hr, (frozen_kept hs.1 hg hr).trans hs.2⟩) B
theorem Box1.below {W W1 : World} {g : Nat} {v : Value} (h : Box1 W g v) (hb : Below W.heap.size W W1) : Box1 W1 g v := by
  have hlt := World.block_lt_of_cell? W _ h.1
  exact ⟨(hb.cell hlt).trans h.1, (hb.frozen hlt).trans h.2⟩
theorem Box1.new (W : World) (t : TypeId) (v : Value) : Box1 (W.alloc (.cells #[v] t)) W.heap.size v := ⟨(blk_cell (blk_new W _) 0).trans rfl, blk_frozen (blk_new W _) 0⟩
theorem Box1.set {W : World} {g : Nat} {v : Value} (h : Box1 W g v) (u : Value) : Box1 (W.setCell ⟨g, 0, none⟩ u) g u :=
  ⟨World.cell?_setCell_same' _ _ _ (by rw [h.1]; rfl), by rw [World.frozen?_setCell]; exact h.2⟩
theorem keepsFrom_below {B : Nat} {W W1 : World} (hb : Below W.heap.size W W1) : KeepsFrom B W W1 := ⟨hb.size, fun k o _ hk _ => (hb.block k (blk_lt hk)).trans hk⟩
theorem keepsFrom_set {B : Nat} {W W1 : World} (h : KeepsFrom B W W1) (p : Addr) (u : Value) : KeepsFrom B W (W1.setCell p u) := h.trans ((KeepsOthers.setCell _ _ _).from _)

/-- A range over what All hands back of an index: the body keeps I; it may be left by way of c, then Ix c holds. n₀: the blocks below it are those of w0, and the body keeps them. -/
theorem wp_range_all (a : Nat) (L : List Ln) (Bs n₀ : Nat) (g : Operand) (ps : Array Tmp) (assign body : Code) (Q : Exit → Act → World → Prop) (ac : Act) (w0 W : World) (I : List Nat → World → Prop) (Ix : Code → List Nat → World → Prop) (a1 : Nat → Act)
    (hg : ac.eval g = .func (.func 59) #[] #[.pointer (some ⟨Bs, 0, none⟩)]) (hw0 : w0.heap.size = n₀) (hb0 : Below n₀ w0 W) (hI : IsIdx w0 a L) (hpos : 0 < L.length) (hs : L.length ≤ 2097152)
    (hBs : Bs < W.heap.size) (hc : W.cell? ⟨Bs, 0, none⟩ = some (.pointer (some ⟨a, 0, none⟩))) (hps : ps.size = 2)
    (hIo : OwnFrom W.heap.size I) (hIxo : ∀ c, OwnFrom W.heap.size (Ix c)) (h0 : I [] W)
    (hassign : ∀ (l : Nat) (x : Nat) (W1 : World) (K : Act → World → Prop), K (a1 x) W1 → assign.wpIn (Fence.wide.inRound l) 4 Try.prog (Exit.then K (fun _ _ _ => False)) { tmps := (ps.zip (encLn (nthLn L x))).foldl (fun t (p, v) => t.setIfInBounds p v) ac.tmps, defers := [] } W1)
    (hbody : ∀ (l : Nat) (pre : List Nat) (x : Nat) (W1 : World), I pre W1 → pre.length < L.length → body.wpIn (Fence.wide.inRound l) 4 Try.prog (ownPostG W.heap.size (Below n₀) I Ix (pre ++ [x]) W1) (a1 x) W1)
    (hdone : ∀ D W1, W.heap.size ≤ D → I (List.range L.length) W1 → W1.heap[D]? = some (.deferred (some [])) → Q .normal { ac with defers := { target := .collected D, args := #[] } :: ac.defers } W1)
    (hstop : ∀ D c k W1, W.heap.size ≤ D → k ≤ L.length → Ix c (List.range k) W1 → W1.heap[D]? = some (.deferred (some [])) → c.wpIn Fence.wide 6 Try.prog Q { ac with defers := { target := .collected D, args := #[] } :: ac.defers } W1) :
    (Code.rangeFunc g ps assign body).wp Try.prog Q ac W := by
  refine (wpIn_wide (n := 6)).1 ?_
  refine wpIn_rangeFunc_ownG rfl (by omega) (gf := 59) (lb := #[.pointer (some ⟨Bs, 0, none⟩)]) hg trivial (enters_of Try.func59 (by kernel_rfl) rfl)
    (All_stops2 _ (by omega) Bs n₀ a L hpos hs w0 W hw0 hb0 hI hBs hc) belowK_t (belowK_b (by have := hb0.size; omega)) (Below.refl _ _) (fun _ => hps.symm)
    I Ix hIo hIxo h0 a1 hassign hbody ?_ ?_
  · rintro D ys W1 hD rfl hB hK
    exact hdone D W1 hD hB hK
  · rintro D c pre W1 hD ⟨k, hk, rfl⟩ h hK
    exact hstop D c k W1 hD hk h hK
end Go.Proofs.Ytogfaahdbecdnaa.B

/-
  lines: a range over All whose body has the line's span in a box of its own in each round.
-/
namespace Go.Proofs.Ytogfaahdbecdnaa.B
open Go.RowKit Go.Shelf Go.Proofs Go.Proofs.YtogfaahdbecdnaaW.PrintWords Go.Proofs.YtogfaahdbecdnaaW.PrintLast Go.Proofs.YtogfaahdbecdnaaW.PrintMore Go.Proofs.Ytogfaahdbecdnaa.FBase
set_option linter.unusedVariables false
attribute [local go_sem] Oper.semAt_some

/-- Block b has a span. -/
def SpBox (W : World) (b : Nat) (x : Ln) : Prop := W.cell? ⟨b, 0, none⟩ = some (.int .i64 x.f0) ∧ W.cell? ⟨b, 1, none⟩ = some (.int .i64 x.f1)
theorem SpBox.below {W W1 : World} {b : Nat} {x : Ln} (h : SpBox W b x) (hb : Below W.heap.size W W1) : SpBox W1 b x := by
  exact ⟨(hb.cell (World.block_lt_of_cell? W _ h.1)).trans h.1, (hb.cell (World.block_lt_of_cell? W _ h.2)).trans h.2⟩

/-- As wp_range_all, but the line's span lies in a box in each round: up x b: the frame's slots as round x finds them, the box being b. -/
theorem wp_range_box (a : Nat) (L : List Ln) (Bs n₀ : Nat) (g : Operand) (ps : Array Tmp) (assign body : Code) (Q : Exit → Act → World → Prop) (ac : Act) (w0 W : World) (I : List Nat → World → Prop) (Ix : Code → List Nat → World → Prop) (up : Nat → Nat → Array Value → Array Value)
    (hg : ac.eval g = .func (.func 59) #[] #[.pointer (some ⟨Bs, 0, none⟩)]) (hw0 : w0.heap.size = n₀) (hb0 : Below n₀ w0 W) (hI : IsIdx w0 a L) (hpos : 0 < L.length) (hs : L.length ≤ 2097152)
    (hBs : Bs < W.heap.size) (hc : W.cell? ⟨Bs, 0, none⟩ = some (.pointer (some ⟨a, 0, none⟩))) (hps : ps.size = 2)
    (hIo : OwnFrom W.heap.size I) (hIxo : ∀ c, OwnFrom W.heap.size (Ix c)) (h0 : I [] W) (hIb : ∀ pre W1 W2, I pre W1 → n₀ ≤ W1.heap.size → Below W1.heap.size W1 W2 → I pre W2)
    (hIz : ∀ pre W1, I pre W1 → n₀ ≤ W1.heap.size)
    (hassign : ∀ (l : Nat) (x : Nat) (W1 : World) (K : Act → World → Prop), K { tmps := up x W1.heap.size ac.tmps, defers := [] } (W1.alloc (.cells #[.int .i64 (rdLn L x).f0, .int .i64 (rdLn L x).f1] 35)) →
      assign.wpIn (Fence.wide.inRound l) 4 Try.prog (Exit.then K (fun _ _ _ => False)) { tmps := (ps.zip (encLn (nthLn L x))).foldl (fun t (p, v) => t.setIfInBounds p v) ac.tmps, defers := [] } W1)
    (hbody : ∀ (l : Nat) (pre : List Nat) (x b : Nat) (W1 : World), I pre W1 → SpBox W1 b (rdLn L x) → pre.length < L.length → body.wpIn (Fence.wide.inRound l) 4 Try.prog (ownPostG W.heap.size (Below n₀) I Ix (pre ++ [x]) W1) { tmps := up x b ac.tmps, defers := [] } W1)
    (hdone : ∀ D W1, W.heap.size ≤ D → I (List.range L.length) W1 → W1.heap[D]? = some (.deferred (some [])) → Q .normal { ac with defers := { target := .collected D, args := #[] } :: ac.defers } W1)
    (hstop : ∀ D c k W1, W.heap.size ≤ D → k ≤ L.length → Ix c (List.range k) W1 → W1.heap[D]? = some (.deferred (some [])) → c.wpIn Fence.wide 6 Try.prog Q { ac with defers := { target := .collected D, args := #[] } :: ac.defers } W1) :
    (Code.rangeFunc g ps assign body).wp Try.prog Q ac W := by
  refine (wpIn_wide (n := 6)).1 ?_
  refine wpIn_rangeFunc_ownH rfl (by omega) (gf := 59) (lb := #[.pointer (some ⟨Bs, 0, none⟩)]) hg trivial (enters_of Try.func59 (by kernel_rfl) rfl)
    (All_stops2 _ (by omega) Bs n₀ a L hpos hs w0 W hw0 hb0 hI hBs hc) belowK_t (belowK_b (by have := hb0.size; omega)) (Below.refl _ _) (fun _ => hps.symm)
    I Ix hIo hIxo h0 (fun x a' W1 => ∃ b, a' = { tmps := up x b ac.tmps, defers := [] } ∧ SpBox W1 b (rdLn L x)) ?_ ?_ ?_ ?_ ?_
  · intro x a' s W1 W2 row hs hg' hr
    obtain ⟨b, e, h⟩ := hs
    exact ⟨b, e, cell_kept h.1 hg' (fun r e => (hr r e).2), cell_kept h.2 hg' (fun r e => (hr r e).2)⟩
  · intro l pre x W1 K hi hK
    have hbel := below_alloc (Below.refl _ W1) (.cells #[.int .i64 (rdLn L x).f0, .int .i64 (rdLn L x).f1] 35)
    refine hassign l x W1 K (hK _ _ (keepsFrom_below hbel) (hbel.mono (hIz _ _ hi)) (hIb _ _ _ hi (hIz _ _ hi) hbel) ⟨W1.heap.size, rfl, ?_, ?_⟩)
    · rw [blk_cell (blk_new W1 _)]; rfl
    · rw [blk_cell (blk_new W1 _)]; rfl
  · rintro l pre x a' W1 - - hi ⟨b, rfl, hb⟩ hlt
    exact hbody l pre x b W1 hi hb hlt
  · rintro D ys W1 hD rfl hB hK
    exact hdone D W1 hD hB hK
  · rintro D c pre W1 hD ⟨k, hk, rfl⟩ h hK
    exact hstop D c k W1 hD hk h hK
end Go.Proofs.Ytogfaahdbecdnaa.B

/-
  LinesPlain, walked.
-/
namespace Go.Proofs.Ytogfaahdbecdnaa.B
open Go.RowKit Go.Shelf Go.Proofs Go.Proofs.YtogfaahdbecdnaaW.PrintWords Go.Proofs.YtogfaahdbecdnaaW.PrintLast Go.Proofs.YtogfaahdbecdnaaW.PrintMore Go.Proofs.Ytogfaahdbecdnaa.FBase
set_option linter.unusedVariables false
attribute [local go_sem] Oper.semAt_some

set_option maxRecDepth 100000 in
set_option maxHeartbeats 1000000 in
theorem LinesPlain_ok (A : Option Addr) (c : Nat) (l : List Int) (how : Int) (w : World) (hr : Kd.C (Kd.int .i64) w A l.length l) (hc : l.length ≤ c) :
    Calls Try.prog 9 #[.slice A l.length c, .int .i64 how] w fun e w' => e = .returned (.bool true) ∧ Below w.heap.size w w' := by
  have HR := Aside0.mk hr
  have HC := Aside0.mk hc
  clear hr hc
  have b1 := Int.emod_nonneg how (show (3 : Int) ≠ 0 by decide)
  have b2 := Int.emod_lt_of_pos how (show (0 : Int) < 3 by decide)
  have BH := Aside0.mk (bring_f how 3 (by decide) (by decide))
  generalize how % 3 = h3 at *
  refine (callsIn_wide (n := 6)).1 ?_
  refine callsIn_of_wp_marks Try.func9 rfl trivial ?_ rfl
  simp only [Try.ntmps9, List.size_toArray, List.length_cons, List.length_nil, Nat.reduceAdd, Nat.reduceSub, Array.replicate_succ, Array.replicate_zero, List.push_toArray, List.append_toArray, List.nil_append, List.cons_append]
  refine wpIn_wide.2 ?_
  have HB := Aside0.mk (below_alloc (below_alloc (Below.refl w.heap.size w) (.cells #[.slice A l.length c] 50)) (.cells #[.bool false] 4))
  have hg0 : IsBlk (w.alloc (.cells #[.slice A l.length c] 50)) w.heap.size (.cells #[.slice A l.length c] 50) := blk_new w _
  have HG0 := Aside0.mk (hg0.alloc (.cells #[.bool false] 4))
  have hg1 : IsBlk ((w.alloc (.cells #[.slice A l.length c] 50)).alloc (.cells #[.bool false] 4)) (w.alloc (.cells #[.slice A l.length c] 50)).heap.size (.cells #[.bool false] 4) := blk_new _ _
  rw [World.size_alloc] at hg1
  have HG1 := Aside0.mk hg1
  clear hg0 hg1
  go_upto_region 3 with (go_at_call 24; refine (works_ok _).mono ?_; rintro e w' ⟨rfl, hb⟩; have n0_ := Aside0.mk (IsBlk.below (by repeat (first | exact HG0.out | apply IsBlk.alloc | apply IsBlk.drewN)) hb); have n1_ := Aside0.mk (IsBlk.below (by repeat (first | exact HG1.out | apply IsBlk.alloc | apply IsBlk.drewN)) hb); have m_ := Aside0.mk (below_step (by repeat (first | exact HB.out | apply below_alloc | apply pw_below_drewN | apply below_drew1)) hb); clear HG0 HG1 HB ; have HG0 := n0_; have HG1 := n1_; have HB := m_; clear n0_ n1_ m_)
  go_cut [5] from 15 (fun s5 wx => ∃ e, Aside0 (Ends e) ∧ s5 = .string (strOfNums e) ∧ Aside0 (IsBlk wx w.heap.size (.cells #[.slice A l.length c] 50)) ∧ Aside0 (IsBlk wx (w.heap.size + 1) (.cells #[.bool false] 4)) ∧ Aside0 (Below w.heap.size w wx))
  case first =>
    rcases (show h3 = 0 ∨ h3 = 1 ∨ h3 = 2 by omega) with rfl | rfl | rfl
    · go_wp2_with (go_at_call 29; refine (colophonref00_Bring.calls how _ 0 _ BH.out).mono ?_; rintro e w' ⟨rfl, nq, rfl⟩)
      go_meet
      exact ⟨[10], ⟨.inl rfl⟩, rfl, ⟨(HG0.out.alloc _).drewN _⟩, ⟨(HG1.out.alloc _).drewN _⟩, ⟨pw_below_drewN (below_alloc HB.out _) _⟩⟩
    · go_wp2_with (go_at_call 29; refine (colophonref00_Bring.calls how _ 1 _ BH.out).mono ?_; rintro e w' ⟨rfl, nq, rfl⟩)
      go_meet
      exact ⟨[13, 10], ⟨.inr (.inl rfl)⟩, rfl, ⟨(HG0.out.alloc _).drewN _⟩, ⟨(HG1.out.alloc _).drewN _⟩, ⟨pw_below_drewN (below_alloc HB.out _) _⟩⟩
    · go_wp2_with (go_at_call 29; refine (colophonref00_Bring.calls how _ 2 _ BH.out).mono ?_; rintro e w' ⟨rfl, nq, rfl⟩)
      go_meet
      exact ⟨[13], ⟨.inr (.inr rfl)⟩, rfl, ⟨(HG0.out.alloc _).drewN _⟩, ⟨(HG1.out.alloc _).drewN _⟩, ⟨pw_below_drewN (below_alloc HB.out _) _⟩⟩
  case rest =>
    clear HG0 HG1 HB BH b1 b2
    obtain ⟨e, HE, rfl, HG0, HG1, HB⟩ := hcut
    have c0 : wc.cell? ⟨w.heap.size, 0, none⟩ = some (.slice A l.length c) := HG0.out.cell 0
    obtain ⟨n, hn⟩ : ∃ n : Nat, n = min l.length 40 := ⟨_, rfl⟩
    have hn1 : n ≤ l.length := by omega
    have hn2 : n ≤ 40 := by omega
    have HNM := Aside0.mk hn
    clear hn
    go_upto_region 5 with fail
    go_cut [7] from 15 (fun s7 wx => s7 = .pointer (some ⟨wc.heap.size, 0, none⟩) ∧ wx = wc.alloc (.cells #[.int .i64 n] 3))
    case first =>
      by_cases h40 : l.length ≤ 40
      · have h41 : (l.length : Int) ≤ 40 := by omega
        have e1 : n = l.length := by have := HNM.out; omega
        subst e1
        go_wp2
        go_meet
        exact ⟨rfl, rfl⟩
      · have h41 : ¬ (l.length : Int) ≤ 40 := by omega
        have h42 : (40 : Int) < l.length := by omega
        have e1 : n = 40 := by have := HNM.out; omega
        subst e1
        go_wp2
        go_meet
        exact ⟨rfl, rfl⟩
    case rest =>
      obtain ⟨rfl, rfl⟩ := hcut
      have HG2 : Aside0 (IsBlk (wc.alloc (.cells #[.int .i64 n] 3)) wc.heap.size (.cells #[.int .i64 n] 3)) := ⟨blk_new wc _⟩
      have n0_ := Aside0.mk (HG0.out.alloc (.cells #[.int .i64 n] 3))
      have n1_ := Aside0.mk (HG1.out.alloc (.cells #[.int .i64 n] 3))
      have n2_ := Aside0.mk (below_alloc HB.out (.cells #[.int .i64 n] 3))
      have hlt1 := blk_lt HG1.out
      clear HG0 HG1 HB c0 hb
      generalize wc.heap.size = g2 at *
      generalize (wc.alloc (.cells #[.int .i64 n] 3)) = W0 at *
      have HG0 := n0_
      have HG1 := n1_
      have HB := n2_
      clear n0_ n1_ n2_
      have c2 : W0.cell? ⟨g2, 0, none⟩ = some (.int .i64 n) := HG2.out.cell 0
      by_cases hz : n = 0
      · subst hz
        have cG : W0.cell? ⟨w.heap.size + 1, 0, none⟩ = some (.bool false) := HG1.out.cell 0
        have fG := HG1.out.frozen 0
        go_wp2
        have c9 : (W0.setCell ⟨w.heap.size + 1, 0, none⟩ (.bool true)).cell? ⟨w.heap.size + 1, 0, none⟩ = some (.bool true) := World.cell?_setCell_same' _ _ _ (by rw [cG]; rfl)
        have hB9 : Below w.heap.size w (W0.setCell ⟨w.heap.size + 1, 0, none⟩ (.bool true)) := HB.out.setCell (p := ⟨w.heap.size + 1, 0, none⟩) (by simp) _
        generalize (W0.setCell ⟨w.heap.size + 1, 0, none⟩ (.bool true)) = W9 at *
        refine ⟨.bool true, ?_, rfl, hB9⟩
        simp [results, Try.results9, go_sem, c9]
      · have n1 : 0 < n := by omega
        have nz : ((n : Int) == 0) = false := beq_eq_false_iff_ne.mpr (by omega)
        obtain ⟨ms, hms⟩ : ∃ ms : List Nat, ms = (l.take n).map (fun z => (z % 5).toNat) := ⟨_, rfl⟩
        have hml : ms.length = n := by rw [hms, List.length_map, List.length_take]; omega
        have hmg : ∀ i : Nat, i < n → ((ms.getD i 0 : Nat) : Int) = rd l i % 5 := fun i hi => by
          have h1 : i < l.length := by omega
          rw [hms]
          simp [List.getD, rd, hi, h1, List.getElem?_take]
          omega
        have HML := Aside0.mk hml
        have HMG := Aside0.mk hmg
        clear hms hml hmg
        go_wp2
        go_loopw [6, 8] (fun s6 s8 W => ∃ (i : Nat) (acc : List Int), i ≤ n ∧ s8 = .int .i64 i ∧ Aside0 (acc ++ txt e (ms.drop i) = txt e ms ∧ acc.length ≤ 6 * i) ∧ Aside0 (Kd.R (Kd.int .u8) 5 W W0.heap.size (fun _ => True) s6 acc) ∧ Aside0 (Below W0.heap.size W0 W)) (fun _ s8 _ => n - (intOf s8).toNat)
        case atStart => exact ⟨0, [], Nat.zero_le _, rfl, ⟨by simp, by simp⟩, ⟨Kd.R_nil _ _ _ _ _⟩, ⟨Below.refl _ _⟩⟩
        case round =>
          obtain ⟨i, acc, hi, rfl, HT, HO, HW⟩ := hrel
          have c0w : wr.cell? ⟨w.heap.size, 0, none⟩ = some (.slice A l.length c) := (HG0.out.below HW.out).cell 0
          have c2w : wr.cell? ⟨g2, 0, none⟩ = some (.int .i64 n) := (HG2.out.below HW.out).cell 0
          by_cases hin : i < n
          · obtain ⟨ad, ea, hx⟩ := Kd.at_int HR.out (i : Int) (by omega) (by omega)
            have hx0 := (HB.out.cell (World.block_lt_of_cell? w _ hx)).trans hx
            rw [Int.toNat_natCast] at hx0
            have HX := Aside0.mk hx0
            subst ea
            clear hx hx0
            have BM := Aside0.mk (bring_f (rd l i) 5 (by decide) (by decide))
            have m0 := Int.emod_nonneg (rd l i) (show (5 : Int) ≠ 0 by decide)
            have m1_ := Int.emod_lt_of_pos (rd l i) (show (0 : Int) < 5 by decide)
            rw [← HMG.out i hin] at BM m0 m1_
            have TD := Aside0.mk (txt_drop e ms i (by have := HML.out; omega))
            generalize ms.getD i 0 = m at *
            have i1 : (i : Int) < n := by omega
            have i2 : (i : Int) < l.length := by omega
            go_wp2
            obtain ⟨wo, hwo⟩ : ∃ wo : World, wo = wr := ⟨_, rfl⟩
            go_loopw [6, 9] (fun s6 s9 W => ∃ k : Nat, k ≤ m ∧ s9 = .int .i64 k ∧ Aside0 (Kd.R (Kd.int .u8) 5 W W0.heap.size (fun _ => True) s6 (acc ++ List.replicate k 120)) ∧ Aside0 (Below W0.heap.size W0 W)) (fun _ s9 _ => m - (intOf s9).toNat)
            case atStart => exact ⟨0, Nat.zero_le _, rfl, ⟨by simpa using HO.out⟩, HW⟩
            case round =>
              clear HO HW c0w c2w
              obtain ⟨k, hk, rfl, HO, HW⟩ := hrel
              have c0w : wr.cell? ⟨w.heap.size, 0, none⟩ = some (.slice (some ad) l.length c) := (HG0.out.below HW.out).cell 0
              have hxN : wr.cell? (ad.add i) = some (.int .i64 (rd l i)) := (HW.out.cell (World.block_lt_of_cell? W0 _ HX.out)).trans HX.out
              obtain ⟨ac2, hac⟩ : ∃ ac2, ac2 = acc ++ List.replicate k 120 := ⟨_, rfl⟩
              have LL : Aside0 (ac2.length ≤ 1000) := ⟨by rw [hac, List.length_append, List.length_replicate]; have := HT.out.2; omega⟩
              rw [← hac] at HO
              have HAC := Aside0.mk hac
              obtain ⟨A6, c6, e6⟩ := Kd.R_slice HO.out
              subst e6
              clear hac
              by_cases hkm : k < m
              · have k1 : (k : Int) < m := by omega
                go_wp2_with (first | (go_at_call 29; refine (colophonref00_Bring.calls (rd l i) _ (m : Int) _ BM.out).mono ?_; rintro e w' ⟨rfl, nq, rfl⟩) | (at_builtin; refine Kd.R_append (Kd.int .u8) (w0 := W0) W0.heap.size rfl (.tmp 41) (.tmp 42) 22 5 (.int .u8 0) 1 rfl Try.underlying22 info5 rfl (by decide) (by omega) (.slice A6 ac2.length c6) ac2 120 [.int .u8 120] (fun _ => True) (fun _ => False) rfl rfl ?aP (fun _ hk => hk.elim) ?aF ?aO ?aB ?aS ?aL ?_; (case aP => exact rfl); (case aB => exact (by repeat (first | exact HW.out | apply below_alloc | apply pw_below_drewN | apply below_drew1))); (case aF => exact (fun _ _ => trivial)); (case aO => (with_reducible repeat (first | apply Kd.R_alloc | apply Kd.R_drewN | apply Kd.R_drew)); exact HO.out); (case aS => exact Below.size (by repeat (first | exact HW.out | apply below_alloc | apply pw_below_drewN | apply below_drew1))); (case aL => have := LL.out; omega); intro v1 w3 ho hb hg hat; have HO2 := Aside0.mk ho; have HW2 := Aside0.mk hb; clear ho hb hg hat))
                go_roundw
                case measure => simp [intOf]; omega
                case rel => exact ⟨k + 1, hkm, by simp, ⟨by rw [List.replicate_succ', ← List.append_assoc, ← HAC.out]; exact HO2.out⟩, HW2⟩
              · obtain rfl : k = m := by omega
                have c2w : wr.cell? ⟨g2, 0, none⟩ = some (.int .i64 n) := (HG2.out.below HW.out).cell 0
                have BE : Aside0 (bytesOf (strOfNums e) = e ∧ (strOfNums e).size ≤ 2) := ⟨by rcases HE.out with rfl | rfl | rfl <;> exact ⟨by decide, by decide⟩⟩
                have TD' := TD.out
                have nw : wrap64 ((n : Int) - 1) = n - 1 := by unfold wrap64; omega
                by_cases hlast : i + 1 < n
                · have i3 : (i : Int) < (n : Int) - 1 := by omega
                  rw [if_pos (by have := HML.out; omega)] at TD'
                  have TD2 := Aside0.mk TD'
                  clear TD'
                  go_wp2_with (first | (go_at_call 29; refine (colophonref00_Bring.calls (rd l i) _ (k : Int) _ BM.out).mono ?_; rintro e w' ⟨rfl, nq, rfl⟩) | (at_builtin; refine print_append_str (w0 := W0) W0.heap.size rfl (.tmp 48) (.tmp 49) 22 9 5 rfl Try.underlying22 Try.underlying9 info5 (.slice A6 ac2.length c6) ac2 (strOfNums e) rfl rfl ?aO ?aB ?aS ?aL ?_; (case aB => exact (by repeat (first | exact HW.out | apply below_alloc | apply pw_below_drewN | apply below_drew1))); (case aO => exact Kd.own_of_R (enc := Value.int .u8) (h1 := fun _ => rfl) (by (with_reducible repeat (first | apply Kd.R_alloc | apply Kd.R_drewN | apply Kd.R_drew)); exact HO.out)); (case aS => exact Below.size (by repeat (first | exact HW.out | apply below_alloc | apply pw_below_drewN | apply below_drew1))); (case aL => have := LL.out; have := BE.out.2; omega); intro v1 w3 ho hb hg; rw [BE.out.1] at ho; have HO2 := Aside0.mk (Kd.R_of_own (enc := Value.int .u8) (h1 := fun _ => rfl) (ok := fun _ => True) ho (fun _ _ => trivial)); have HW2 := Aside0.mk hb; clear ho hb hg))
                  go_roundw
                  case measure => simp [intOf]; omega
                  case rel =>
                    refine ⟨i + 1, ac2 ++ e, by omega, by simp, ⟨?_, ?_⟩, HO2, HW2⟩
                    · rw [← HT.out.1, TD2.out, HAC.out]
                      simp
                    · have h1 := HT.out.2
                      have h2 : e.length ≤ 2 := by rcases HE.out with rfl | rfl | rfl <;> decide
                      rw [HAC.out, List.length_append, List.length_append, List.length_replicate]
                      omega
                · have i3 : ¬ ((i : Int) < (n : Int) - 1) := by omega
                  rw [if_neg (by have := HML.out; omega)] at TD'
                  have TD2 := Aside0.mk TD'
                  clear TD'
                  go_wp2_with (go_at_call 29; refine (colophonref00_Bring.calls (rd l i) _ (k : Int) _ BM.out).mono ?_; rintro e w' ⟨rfl, nq, rfl⟩)
                  go_roundw
                  case measure => simp [intOf]; omega
                  case rel =>
                    refine ⟨i + 1, ac2, by omega, by simp, ⟨?_, ?_⟩, ⟨Kd.R_drewN HO.out _⟩, ⟨pw_below_drewN HW.out _⟩⟩
                    · rw [← HT.out.1, TD2.out, HAC.out, show ms.drop (i + 1) = [] by rw [List.drop_eq_nil_iff]; have := HML.out; omega, txt]
                      simp
                    · have h1 := HT.out.2
                      rw [HAC.out, List.length_append, List.length_replicate]
                      omega
          · obtain rfl : i = n := by omega
            have hacc : acc = txt e ms := by
              have h := HT.out.1
              rw [show ms.drop i = [] by rw [List.drop_eq_nil_iff]; have := HML.out; omega, txt, List.append_nil] at h
              exact h
            have hlen := HT.out.2
            have hne : ms ≠ [] := fun h => by have := HML.out; rw [h] at this; simp at this; omega
            have hby : ∀ x ∈ acc, 0 ≤ x ∧ x < 128 := by rw [hacc]; exact txt_bytes HE.out ms
            have hB : Bytes acc := fun x hx => ⟨(hby x hx).1, by have := (hby x hx).2; omega⟩
            have hz0 := (chk_V hB).2 (V_ascii acc hby)
            have hk := Check_f acc hB (by omega) (Nat.lt_succ_self _)
            have hLn : (lns acc 0 0).length = i := by rw [hacc, txt_count HE.out ms hne, HML.out]
            have hLw : ∀ t : Nat, t < i → (rdLn (lns acc 0 0) t).f1 - (rdLn (lns acc 0 0) t).f0 = rd l t % 5 := fun t ht => by rw [hacc, txt_len HE.out ms hne t (by have := HML.out; omega), HMG.out t ht]
            clear hacc hby hB hne
            generalize (acc.length + 8).succ = kk at hk
            generalize chk acc = ck at hz0 hk
            obtain ⟨r1, r2⟩ := ck
            obtain rfl : r2 = 0 := hz0
            obtain ⟨A6, c6, e6⟩ := Kd.R_slice HO.out
            subst e6
            obtain ⟨-, hcap, hC⟩ := Kd.R_reads' HO.out
            have HCC := Aside0.mk hC
            have HCP := Aside0.mk hcap
            have HK := Aside0.mk hk
            have HLN := Aside0.mk hLn
            have HLW := Aside0.mk hLw
            have HAL := Aside0.mk hlen
            clear hk hLn hLw hcap hC hlen
            go_upto_region 18 with (go_at_call 21; refine (New_ok kk A6 c6 acc r1 _ HCC.out HCP.out HK.out (by have := HAL.out; omega)).mono ?_; rintro e_ w1 ⟨a, rfl, hle, hI, hb⟩; have HI := Aside0.mk hI; have m_ := Aside0.mk (below_step HW.out hb); clear HW; have HW := m_; clear hI hb m_)
            have n0_ := Aside0.mk (HG0.out.below HW.out)
            have n1_ := Aside0.mk (HG1.out.below HW.out)
            have n2_ := Aside0.mk (HG2.out.below HW.out)
            have m_ := Aside0.mk (below_step HB.out HW.out)
            clear HG0 HG1 HG2 HB HW HO c0w c2w c2
            have HG0 := n0_
            have HG1 := n1_
            have HG2 := n2_
            have HB := m_
            clear n0_ n1_ n2_ m_
            have c2 : w1.cell? ⟨g2, 0, none⟩ = some (.int .i64 i) := HG2.out.cell 0
            go_cut [63] from 15 (fun s63 wx => s63 = .bool false ∧ Aside0 (IsIdx wx a (lns acc 0 0)) ∧ Aside0 (IsBlk wx w.heap.size (.cells #[.slice A l.length c] 50)) ∧ Aside0 (IsBlk wx (w.heap.size + 1) (.cells #[.bool false] 4)) ∧ Aside0 (IsBlk wx g2 (.cells #[.int .i64 i] 3)) ∧ Aside0 (Below w.heap.size w wx))
            case first =>
              go_region_held3 (fun wx => wx.cell? ⟨g2, 0, none⟩ = some (.int .i64 i)) (go_keep) (first | (go_at_call 26; refine (Count_ok a _ _ (by repeat (first | exact HI.out | apply IsIdx.alloc | apply IsIdx.drewN)) (by rw [HLN.out]; omega) (by rw [HLN.out]; omega)).mono ?_; rintro e_ w' ⟨rfl, hb⟩; rw [HLN.out]; have n0_ := Aside0.mk (IsIdx.below (by repeat (first | exact HI.out | apply IsIdx.alloc | apply IsIdx.drewN)) hb); have n1_ := Aside0.mk (IsBlk.below (by repeat (first | exact HG0.out | apply IsBlk.alloc | apply IsBlk.drewN)) hb); have n2_ := Aside0.mk (IsBlk.below (by repeat (first | exact HG1.out | apply IsBlk.alloc | apply IsBlk.drewN)) hb); have n3_ := Aside0.mk (IsBlk.below (by repeat (first | exact HG2.out | apply IsBlk.alloc | apply IsBlk.drewN)) hb); have m_ := Aside0.mk (below_step (by repeat (first | exact HB.out | apply below_alloc | apply pw_below_drewN | apply below_drew1)) hb); clear HI HG0 HG1 HG2 HB ; have HI := n0_; have HG0 := n1_; have HG1 := n2_; have HG2 := n3_; have HB := m_; clear n0_ n1_ n2_ n3_ m_; have c2b : w'.cell? ⟨g2, 0, none⟩ = some (.int .i64 i) := HG2.out.cell 0))
              go_wp2
              go_meet
              exact ⟨rfl, HI, HG0, HG1, HG2, HB⟩
            case rest =>
              obtain ⟨rfl, HI, HG0, HG1, HG2, HB⟩ := hcut
              have eqs := eql_seq
              clear c2
              have hB0 : Below wc.heap.size wc (((wc.alloc (.cells #[.int .i64 0] 3)).alloc (.cells #[.pointer (some ⟨a, 0, none⟩)] 24)).alloc (.cells #[.pointer (some ⟨a, 0, none⟩)] 24)) := below_alloc (below_alloc (below_alloc (Below.refl _ _) _) _) _
              have hbx : Box1 (((wc.alloc (.cells #[.int .i64 0] 3)).alloc (.cells #[.pointer (some ⟨a, 0, none⟩)] 24)).alloc (.cells #[.pointer (some ⟨a, 0, none⟩)] 24)) wc.heap.size (.int .i64 0) := Box1.below (Box1.below (Box1.new wc 3 _) (below_alloc (Below.refl _ _) _)) (below_alloc (Below.refl _ _) _)
              have hbs := (Box1.new ((wc.alloc (.cells #[.int .i64 0] 3)).alloc (.cells #[.pointer (some ⟨a, 0, none⟩)] 24)) 24 (.pointer (some ⟨a, 0, none⟩))).1
              rw [World.size_alloc, World.size_alloc] at hbs
              have HBX := Aside0.mk hbx
              have HBS := Aside0.mk hbs
              clear hbx hbs
              go_wp2_with (go_at_call 30; refine (All_calls _ _).mono ?_; rintro e_ w' ⟨rfl, rfl⟩)
              have HWc := Aside0.mk hB0
              clear hB0
              obtain ⟨n0, hn0⟩ : ∃ n0, n0 = wc.heap.size := ⟨_, rfl⟩
              have l0 : w.heap.size ≤ n0 := by have := HB.out.size; omega
              refine wp_range_box a (lns acc 0 0) (wc.heap.size + 1 + 1) wc.heap.size _ _ _ _ _ _ wc _ (fun pre W => Box1 W wc.heap.size (.int .i64 (pre.length : Nat)) ∧ Below wc.heap.size wc W) (fun _ pre _ => ∃ (p : List Nat) (x : Nat), pre = p ++ [x] ∧ x ≠ p.length)
                (fun x b t => (((t.setIfInBounds 69 (.int .i64 x)).setIfInBounds 70 (.agg #[.int .i64 (rdLn (lns acc 0 0) x).f0, .int .i64 (rdLn (lns acc 0 0) x).f1])).setIfInBounds 13 (.int .i64 x)).setIfInBounds 14 (.pointer (some ⟨b, 0, none⟩)))
                rfl rfl HWc.out HI.out (by rw [HLN.out]; omega) (by rw [HLN.out]; omega) (by simp) HBS.out rfl ?io ?ixo ?h0 ?ib ?iz ?asg ?body ?done ?stop
              case io => exact OwnFrom.and (box1_own _ _ (fun pre : List Nat => .int .i64 (pre.length : Nat))) (ownFrom_below (Nat.le_refl _) (by simp; omega))
              case ixo => exact fun c s W1 W2 row h _ _ => h
              case h0 => exact ⟨HBX.out, HWc.out⟩
              case ib => exact fun pre W1 W2 h hz hb => ⟨h.1.below hb, h.2.trans (hb.mono hz)⟩
              case iz => exact fun pre W1 h => h.2.size
              case asg =>
                intro l_ x W1 K hK
                gi_wp2
                exact hK
              case body =>
                rintro l_ pre x b W1 ⟨hbx1, hB1⟩ hsp hlt
                rw [HLN.out] at hlt
                have c0w : W1.cell? ⟨w.heap.size, 0, none⟩ = some (.slice A l.length c) := (HG0.out.below hB1).cell 0
                have c2w : W1.cell? ⟨g2, 0, none⟩ = some (.int .i64 i) := (HG2.out.below hB1).cell 0
                have hG1 := HG1.out.below hB1
                have c1w : W1.cell? ⟨w.heap.size + 1, 0, none⟩ = some (.bool false) := hG1.cell 0
                have f1w := hG1.frozen 0
                have cx := hbx1.1
                have fx := hbx1.2
                obtain ⟨s1, s2⟩ := hsp
                have hl40 : pre.length < 40 := by omega
                have HB1 := Aside0.mk hB1
                have HBX1 := Aside0.mk hbx1
                clear hG1 hB1 hbx1 HBX HBS
                simp only [List.setIfInBounds_toArray, List.set_cons_succ, List.set_cons_zero]
                by_cases hx : x = pre.length
                · subst hx
                  obtain ⟨ad, ea, hx⟩ := Kd.at_int HR.out (pre.length : Int) (by omega) (by omega)
                  have hx0 := (HB.out.cell (World.block_lt_of_cell? w _ hx)).trans hx
                  have hx1 := (HB1.out.cell (World.block_lt_of_cell? wc _ hx0)).trans hx0
                  rw [Int.toNat_natCast] at hx1
                  subst ea
                  have BM := Aside0.mk (bring_f (rd l (pre.length : Int)) 5 (by decide) (by decide))
                  have hlw := HLW.out pre.length hlt
                  have m0 := Int.emod_nonneg (rd l (pre.length : Int)) (show (5 : Int) ≠ 0 by decide)
                  have m1_ := Int.emod_lt_of_pos (rd l (pre.length : Int)) (show (0 : Int) < 5 by decide)
                  clear hx hx0
                  generalize rd l (pre.length : Int) % 5 = mm at *
                  generalize (rdLn (lns acc 0 0) (pre.length : Int)).f0 = p0 at *
                  generalize (rdLn (lns acc 0 0) (pre.length : Int)).f1 = p1 at *
                  have hw : IntKind.i64.wrap (p1 - p0) = mm := by rw [hlw]; exact IntWalk.i64_in _ (by omega)
                  have hge : decide ((i : Int) ≤ (pre.length : Int)) = false := decide_eq_false (by omega)
                  have hge2 : decide (i ≤ pre.length) = false := decide_eq_false (by omega)
                  clear hlw m0 m1_
                  gi_wp2_with fail
                  refine wpIn_region_round (by kernel_rfl) (by kernel_rfl) (by kernel_rfl) ?_
                  repeat (first | gi_big_quiet_step (fail) | (refine wpQuietIn_step (fun _ _ _ _ => trivial) (fun K hK => ?_); go_simp; apply Exists.intro; refine ⟨fun _ => ?_, hK _ ?_⟩; (gi_at_call 29; exact CallsIn.quiet_of (CallsIn.inRound _ (callsIn_wide.2 (colophonref00_Bring.calls _ _ _ _ BM.out)))); clear hK K))
                  refine wpQuietIn_step (fun _ _ _ _ => trivial) (fun K hK => ?_)
                  go_simp
                  apply Exists.intro
                  refine ⟨fun _ => ?_, hK _ ?_⟩
                  · exact CallsIn.inRound _ (callsIn_wide.2 (quiet_drawn (colophonref00_Bring.calls _ _ _ _ BM.out)))
                  clear hK K
                  repeat (gi_big_quiet_step (fail))
                  refine wpQuietIn_nil ?_
                  intro _ hw'
                  obtain ⟨nq, hw''⟩ := hw'
                  subst hw''
                  gi_wp2
                  exact ⟨keepsFrom_set (keepsFrom_below (pw_below_drewN (Below.refl _ _) nq)) _ _, (pw_below_drewN (Below.refl _ _) nq).setCell (p := ⟨wc.heap.size, 0, none⟩) (Nat.le_refl _) _, by rw [List.length_append, List.length_singleton]; exact (HBX1.out.below (pw_below_drewN (Below.refl _ _) nq)).set _, (pw_below_drewN HB1.out nq).setCell (p := ⟨wc.heap.size, 0, none⟩) (Nat.le_refl _) _⟩
                · have hne : ((x : Int) != (pre.length : Int)) = true := bne_iff_ne.mpr (by omega)
                  gi_wp2_with fail
                  refine wpIn_region_round (by kernel_rfl) (by kernel_rfl) (by kernel_rfl) ?_
                  repeat (gi_big_quiet_step (fail))
                  refine wpQuietIn_step (fun _ _ _ _ => trivial) (fun K hK => ?_)
                  go_simp
                  refine hK _ ?_
                  clear hK K
                  repeat (gi_big_quiet_step (fail))
                  refine wpQuietIn_nil ?_
                  intro _ hw'
                  obtain ⟨nq, hw''⟩ := hw'
                  subst hw''
                  gi_wp2
                  exact ⟨keepsFrom_set (keepsFrom_below (pw_below_drewN (Below.refl _ _) nq)) _ _, pre, x, rfl, hx⟩
              case done =>
                rintro D W1 hD ⟨hbx1, hB1⟩ hK
                rw [List.length_range, HLN.out] at hbx1
                have c2w : W1.cell? ⟨g2, 0, none⟩ = some (.int .i64 i) := (HG2.out.below hB1).cell 0
                have hG1 := HG1.out.below hB1
                have c1w : W1.cell? ⟨w.heap.size + 1, 0, none⟩ = some (.bool false) := hG1.cell 0
                have f1w := hG1.frozen 0
                have cx := hbx1.1
                have lD : w.heap.size + 1 < D := by have := blk_lt HG1.out; simp at hD; omega
                have HK := Aside0.mk hK
                have HB1 := Aside0.mk (below_step HB.out hB1)
                have HG1b := Aside0.mk hG1
                clear hbx1 HBX HBS hB1 hK hG1
                go_wp2
                have hG := HG1b.out
                have hB := HB1.out
                have h1 := HK.out
                clear HG1b HB1 HK
                have e1 : D ≠ w.heap.size + 1 := by omega
                have g4 : IsBlk (W1.setCell ⟨w.heap.size + 1, 0, none⟩ (.bool true)) (w.heap.size + 1) (.cells #[.bool true] 4 (0, 0)) := (blk_set hG 0 (.bool true)).trans rfl
                have a1 : IsBlk (W1.setCell ⟨w.heap.size + 1, 0, none⟩ (.bool true)) D (.deferred (some [])) := (Below.heap_setCell W1 ⟨w.heap.size + 1, 0, none⟩ _ D e1).trans h1
                have hB4 : Below w.heap.size w (W1.setCell ⟨w.heap.size + 1, 0, none⟩ (.bool true)) := hB.setCell (p := ⟨w.heap.size + 1, 0, none⟩) (by simp) _
                generalize (W1.setCell ⟨w.heap.size + 1, 0, none⟩ (.bool true)) = W4 at *
                have g5 : IsBlk (W4.putObj D (.deferred none)) (w.heap.size + 1) (.cells #[.bool true] 4 (0, 0)) := (World.putObj_heap_other (Ne.symm e1)).trans g4
                have hB5 := hB4.trans (belowK_b (w := w) (Nat.le_refl _) W4 D _ (.deferred none) (by omega) a1 rfl rfl)
                have c6 : (W4.putObj D (.deferred none)).cell? ⟨w.heap.size + 1, 0, none⟩ = some (.bool true) := g5.cell 0
                refine ⟨by simp, .inl ⟨_, _, rfl, run_takeDeferred a1, ?_⟩⟩
                refine ⟨.bool true, ?_, rfl, hB5⟩
                simp [results, Try.results9, go_sem, c6]
              case stop =>
                rintro D c_ k W1 hD hk ⟨p, x, hp, hx⟩ hK
                exfalso
                have h1 := congrArg List.length hp
                rw [List.length_range, List.length_append, List.length_singleton] at h1
                subst h1
                rw [List.range_succ] at hp
                exact hx (List.append_inj_right' hp rfl |> List.singleton_inj.1).symm
theorem LinesPlain_said (A : Option Addr) (n c : Nat) (zs : List Int) (p : Int) (W : World) (h : IsRow .i64 W A n c zs) (_hp : (Lit.int .i64 p).wf = true) :
    Calls Try.prog 9 #[.slice A n c, .int .i64 p] W fun e w' => e = .returned (.bool true) ∧ Below W.heap.size W w' := by
  obtain ⟨l, rfl, hc, hC, hw⟩ := h.reads
  exact LinesPlain_ok A c l p W hC hc
end Go.Proofs.Ytogfaahdbecdnaa.B

namespace Go.Proofs.Ytogfaahdbecdnaa.linesPlain
open Go.ChangeShapes Go.WideShapes Go.ChangeAt Go.RowKit Go.Proofs.Ytogfaahdbecdnaa.B
set_option linter.unusedVariables false
theorem own : ownKnob Try.prog.godebug = none := by kernel_rfl
theorem laidOut : laidOutB Try.prog = true := by kernel_rfl
set_option maxRecDepth 100000 in
theorem lifted (os : Os) (started : os.Started) (H : Type) (enc : TypeId × Value → H) :
    ReturnsInHanded {} Try.checked os 9 .any (Rows.linesPlainSpec.pre6 enc Try.prog Try.f9 Rows.linesPlainRow.domain false) (Rows.linesPlainSpec.post enc Try.prog Try.f9 false true false false) := by
  refine returnsInHanded_of_change_sized (C := Try.checked) own started (by kernel_rfl) Try.func9
    (ChangeSpec.witness6 (enc := enc) (C := Try.checked) false ⟨#[], #[.slice none 0 0, .int .i64 0], []⟩ 8 (by kernel_rfl) (by kernel_rfl) (by kernel_rfl) (by kernel_rfl)) ?_
  intro W base args ds gs before hval0 hW hcnd hsz0 _
  have hval : ∀ (j : Nat) t v, Try.f9.params[j]? = some t → args[j]? = some v → Value.okWide Try.prog W .any base t v := hval0
  have hW' := hW
  obtain ⟨p, q, hA0, hV, rfl, hfz, hnd⟩ := hW
  have hA : DataW.TrodAll enc Try.prog W 0 (fun _ => true) true Try.f9.params.toList args.toList ds p := hA0
  rw [Try.params9] at hA hval
  obtain ⟨v0, vs0, d0, ds0, p0, q0, hargs, rfl, rfl, h0, r0⟩ := trodAll_cons hA
  obtain ⟨v1, vs1, d1, ds1, p1, q1, rfl, rfl, rfl, h1, r1⟩ := trodAll_cons r0
  obtain ⟨rfl, rfl, rfl⟩ := trodAll_nil r1
  obtain rfl : args = #[v0, v1] := by cases args; simp_all
  obtain ⟨rfl, rfl⟩ := trodVars_none hV
  obtain ⟨a0, len0, cap0, rfl⟩ := okWide_slice Try.underlying50 (hval 0 50 v0 rfl rfl)
  have k0 := h0
  have lt0 : ∀ x ∈ p0, x.block < W.heap.size := by obtain ⟨m, hm⟩ := k0; exact DataW.trod_lt m _ _ _ hm
  obtain ⟨z0, w0⟩ : ∃ zs, IsRow .i64 W a0 len0 cap0 zs := by
    obtain ⟨fuel, hf⟩ := h0
    rcases open_ints Try.underlying50 Try.underlying3 (by kernel_rfl) hf with ⟨hcs, _⟩ | ⟨x, l, c, zs, hcs, _, hl, hm, hz, _, hcell, hwz⟩
    · simp [Value.cells] at hcs
      obtain ⟨rfl, rfl, rfl⟩ := hcs
      exact ⟨[], .inl ⟨rfl, rfl, rfl, rfl⟩⟩
    · simp [Value.cells] at hcs
      obtain ⟨rfl, rfl, rfl⟩ := hcs
      exact ⟨zs, .inr ⟨_, rfl, hl, hm, by simpa using hz, hcell, hwz⟩⟩
  obtain ⟨a1, rfl, rfl, rfl, w1⟩ := open_int Try.underlying3 (hval 1 3 v1 rfl rfl) h1
  clear hA0 hval0 hsz0
  refine (LinesPlain_said a0 len0 cap0 z0 a1 W w0 w1).mono fun e W' ⟨he, bel⟩ => ?_
  subst he
  exact ⟨_, rfl, _, _, _, [], _, [], hW', trodAll_mk1 (shut_bool Try.underlying4 _), (trodAll_cons_mk (Below.trod laidOut (by kernel_rfl) (of_decide_eq_true (by kernel_rfl)) k0 bel lt0) (trodAll_cons_mk (shut_int Try.underlying3 w1) trodAll_mk0)), rfl, bel.frame _, fun h => by cases h⟩
theorem over : Rows.linesPlainRow.holds Try.pinned (OpenSpec.ofChange Rows.linesPlainSpec) :=
  OpenClaim.holds_of_wide 9 Try.f9 rfl rfl rfl rfl rfl rfl rfl ⟨rfl, rfl, rfl, rfl, rfl⟩ rfl rfl rfl rfl rfl (by kernel_rfl) Try.func9 (by kernel_rfl)
    (of_decide_eq_true (by kernel_rfl)) (by unfold Func.isWrapper; first | (rw [if_pos (by decide +kernel)]; kernel_rfl) | (rw [if_neg (by decide +kernel)]; exact ⟨rfl, rfl⟩))
    (fun os started H enc _ => lifted os started H enc)
theorem proved : Rows.LinesPlainSaid := over
#print axioms proved
end Go.Proofs.Ytogfaahdbecdnaa.linesPlain
namespace Go.Proofs.Ytogfaahdbecdnaa
/-- The row, under a short name, for the claim. -/
theorem linesPlain_holds : Rows.LinesPlainSaid := linesPlain.proved
end Go.Proofs.Ytogfaahdbecdnaa
