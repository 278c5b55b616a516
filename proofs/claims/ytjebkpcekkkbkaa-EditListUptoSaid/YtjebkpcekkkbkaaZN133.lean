/-
  Texts of this session, one behind the other: N6, N7.
-/
import Derived.RangeFuncNested
import Derived.RangeFuncBound
import Derived.RangeFuncCalls
import Derived.RangeFuncLeaves
import Derived.RangeFuncBox
import Derived.Shelf.Abstract
import Derived.Shelf.RegionOpen
import Derived.OwnWalkIn
import Derived.TacticsInMore
import Derived.LoopNIn
import Derived.LoopIn
import Derived.Test.YtjebkpcekkkbkaaProg
import Derived.Below
import Derived.Deep.Draws
import Derived.Deep.AppendLies
import Derived.Maps.AppendAt
import Derived.OwnWalk
import Derived.Laws.BytesArg
import Derived.Laws.MakeOwn
import Derived.Laws.OwnMore
import Derived.Deep.OwnRows
import Derived.Tactics
import Derived.Lib.ConvBytes
import Derived.Laws.Slices
import Derived.WalkKit
import Derived.KernelRfl
import Derived.RowKit3
import Derived.Deep.LoopGhost
import Derived.Deep.QuietTactic
import Derived.BigQuiet
import Derived.WideLaws
import Derived.Deep.DeepCutAuto
import Derived.Deep.CutBlock
import Derived.Deep.RegionHeld3
import Derived.Laws.Rows
import Derived.Lib.AppendStr
import Derived.ArgAppend
import Derived.Laws.IdiomCopy
import Derived.OrdersHeld
import Derived.Laws.BitsLemmas
import Derived.RowKit
import Derived.Test.YtjebkpcekkkbkaaWWords
import Derived.Test.YtjebkpcekkkbkaaWLast
import Derived.Test.YtjebkpcekkkbkaaWTab
import Derived.Test.YtjebkpcekkkbkaaWFour
import Derived.Test.YtjebkpcekkkbkaaWQPut
import Derived.Test.YtjebkpcekkkbkaaWApart
import Derived.Test.YtjebkpcekkkbkaaWArr
import Derived.Test.YtjebkpcekkkbkaaWZeros
import Derived.Test.YtjebkpcekkkbkaaWFoot
import Derived.Test.YtjebkpcekkkbkaaWKept
import Derived.Test.YtjebkpcekkkbkaaWShare
import Derived.Test.YtjebkpcekkkbkaaWN
import Derived.Test.YtjebkpcekkkbkaaWFootNe
import Derived.Test.YtjebkpcekkkbkaaWAt
import Derived.Test.YtjebkpcekkkbkaaWEqStruct
import Derived.Test.YtjebkpcekkkbkaaWRepsOne
import Derived.Test.YtjebkpcekkkbkaaWInv
import Derived.Test.YtjebkpcekkkbkaaWInvWords
import Derived.Test.YtjebkpcekkkbkaaWGuard
import Derived.Test.YtjebkpcekkkbkaaWNEv
import Derived.Test.YtjebkpcekkkbkaaWMore
import Derived.Deep.DeepFit
import Derived.Test.YtjebkpcekkkbkaaBulk
import Derived.ChangeShapes
import Derived.WalkMore
import Derived.WalkSpells
import Derived.Deep.CutRange
import Derived.IntWalk
import Derived.Lib.SlBytesConst
import Derived.Test.YtjebkpcekkkbkaaZN132
set_option linter.unusedSimpArgs false
set_option linter.unusedVariables false
/-
  edit: change, One.
-/
namespace Go.Proofs.Ytjebkpcekkkbkaa.B
open Go.RowKit Go.Shelf Go.Proofs Go.Proofs.YtjebkpcekkkbkaaW.PrintWords Go.Proofs.YtjebkpcekkkbkaaW.PrintLast Go.Proofs.YtjebkpcekkkbkaaW.PrintMore Go.Proofs.Ytjebkpcekkkbkaa.FBase
set_option linter.unusedVariables false
set_option linter.unusedSimpArgs false

theorem bytes_step {w W : World} {e : TypeId} {s : ByteArray} (h : Below w.heap.size w W) : Below w.heap.size w (Lib.bytesWorld W e s) := bytes_below h h.size e s
theorem bytes_at (W : World) (e : TypeId) (s : ByteArray) (g : Nat) (hg : W.heap.size = g) (hs : s.size ≤ 9223372036854775807) : Kd.C (Kd.int .u8) (Lib.bytesWorld W e s) (some ⟨g, 0, none⟩) s.size (bytesOf s) := by
  subst hg
  exact bytes_C W e s hs
theorem row2_Cm (W : World) (A B : Option Addr) (c d : Nat) (l t : List Int) (m : Nat) (hm : t.length = m) (hr : Kd.C (Kd.int .u8) W A l.length l) (hc : l.length ≤ c) (hr2 : Kd.C (Kd.int .u8) W B m t) (hd : m ≤ d) (o : TypeId) :
    Kd.C (Kd.slice 5 (Kd.int .u8)) (W.alloc (.cells #[.slice A l.length c, .slice B m d] o)) (some ⟨W.heap.size, 0, none⟩) [l, t].length [l, t] := by
  subst hm
  exact row2_C W A B c d l t hr hc hr2 hd o

set_option maxRecDepth 100000 in
set_option maxHeartbeats 2000000 in
/-- A text that is no characters. -/
theorem change_bad (A : Option Addr) (c : Nat) (l : List Int) (wh : Bool) (x0 x1 x2 x3 : Int) (s : ByteArray) (w : World) (hr : Kd.C (Kd.int .u8) w A l.length l) (hc : l.length ≤ c) (hB : Bytes l) (hs : l.length ≤ 1048576) (hs2 : s.size ≤ 140737488351232) (r : Int) (hk : (if (chk l).2 ≠ 0 then (chk l).2 else (chk (bytesOf s)).2) = r) (hz : r ≠ 0) :
    Calls Try.prog 59 #[.slice A l.length c, .agg #[.bool wh, .int .i64 x0, .int .i64 x1, .int .i64 x2, .int .i64 x3, .string s]] w fun e w' => ∃ v : Value, e = .returned (.tuple #[.agg #[.int .i64 0, .int .i64 0], v, .int .i64 r]) ∧ Kd.R (Kd.int .u8) 5 w' w.heap.size (fun _ => True) v [] ∧ Below w.heap.size w w' := by
  have hb1 := below_alloc (Below.refl _ w) (.cells #[.bool wh, .int .i64 x0, .int .i64 x1, .int .i64 x2, .int .i64 x3, .string s] 29)
  have hb2 : Below (w.alloc (.cells #[.bool wh, .int .i64 x0, .int .i64 x1, .int .i64 x2, .int .i64 x3, .string s] 29)).heap.size (w.alloc (.cells #[.bool wh, .int .i64 x0, .int .i64 x1, .int .i64 x2, .int .i64 x3, .string s] 29)) ((w.alloc (.cells #[.bool wh, .int .i64 x0, .int .i64 x1, .int .i64 x2, .int .i64 x3, .string s] 29)).alloc (.cells #[.int .i64 0, .int .i64 0] 44)) := below_alloc (Below.refl _ _) _
  have hg : IsBlk ((w.alloc (.cells #[.bool wh, .int .i64 x0, .int .i64 x1, .int .i64 x2, .int .i64 x3, .string s] 29)).alloc (.cells #[.int .i64 0, .int .i64 0] 44)) (w.alloc (.cells #[.bool wh, .int .i64 x0, .int .i64 x1, .int .i64 x2, .int .i64 x3, .string s] 29)).heap.size (.cells #[.int .i64 0, .int .i64 0] 44) := blk_new _ _
  rw [World.size_alloc] at hg
  have HS : Aside0 (Sta w ((w.alloc (.cells #[.bool wh, .int .i64 x0, .int .i64 x1, .int .i64 x2, .int .i64 x3, .string s] 29)).alloc (.cells #[.int .i64 0, .int .i64 0] 44)) (fun W => IsBlk W w.heap.size (.cells #[.bool wh, .int .i64 x0, .int .i64 x1, .int .i64 x2, .int .i64 x3, .string s] 29) ∧ IsBlk W (w.heap.size + 1) (.cells #[.int .i64 0, .int .i64 0] 44) ∧ Kd.C (Kd.int .u8) W A l.length l)) := ⟨⟨below_step hb1 hb2, ⟨IsBlk.below (blk_new w _) hb2, hg, Kd.C_below (Kd.C_below hr hb1) hb2⟩, keeps_and (keeps_blk _ _) (keeps_and (keeps_blk _ _) (keeps_C _ _ _ _))⟩⟩
  clear hb1 hb2 hg hr
  have n1 := blk_lt HS.out.now.1
  have n2 := blk_lt HS.out.now.2.1
  have c0 : ((w.alloc (.cells #[.bool wh, .int .i64 x0, .int .i64 x1, .int .i64 x2, .int .i64 x3, .string s] 29)).alloc (.cells #[.int .i64 0, .int .i64 0] 44)).cell? ⟨w.heap.size, 0, none⟩ = some (.bool wh) := HS.out.now.1.cell 0
  have c1 : ((w.alloc (.cells #[.bool wh, .int .i64 x0, .int .i64 x1, .int .i64 x2, .int .i64 x3, .string s] 29)).alloc (.cells #[.int .i64 0, .int .i64 0] 44)).cell? ⟨w.heap.size, 1, none⟩ = some (.int .i64 x0) := HS.out.now.1.cell 1
  have c2 : ((w.alloc (.cells #[.bool wh, .int .i64 x0, .int .i64 x1, .int .i64 x2, .int .i64 x3, .string s] 29)).alloc (.cells #[.int .i64 0, .int .i64 0] 44)).cell? ⟨w.heap.size, 2, none⟩ = some (.int .i64 x1) := HS.out.now.1.cell 2
  have c3 : ((w.alloc (.cells #[.bool wh, .int .i64 x0, .int .i64 x1, .int .i64 x2, .int .i64 x3, .string s] 29)).alloc (.cells #[.int .i64 0, .int .i64 0] 44)).cell? ⟨w.heap.size, 3, none⟩ = some (.int .i64 x2) := HS.out.now.1.cell 3
  have c4 : ((w.alloc (.cells #[.bool wh, .int .i64 x0, .int .i64 x1, .int .i64 x2, .int .i64 x3, .string s] 29)).alloc (.cells #[.int .i64 0, .int .i64 0] 44)).cell? ⟨w.heap.size, 4, none⟩ = some (.int .i64 x3) := HS.out.now.1.cell 4
  have c5 : ((w.alloc (.cells #[.bool wh, .int .i64 x0, .int .i64 x1, .int .i64 x2, .int .i64 x3, .string s] 29)).alloc (.cells #[.int .i64 0, .int .i64 0] 44)).cell? ⟨w.heap.size, 5, none⟩ = some (.string s) := HS.out.now.1.cell 5
  have k0 : ((w.alloc (.cells #[.bool wh, .int .i64 x0, .int .i64 x1, .int .i64 x2, .int .i64 x3, .string s] 29)).alloc (.cells #[.int .i64 0, .int .i64 0] 44)).cell? ⟨w.heap.size + 1, 0, none⟩ = some (.int .i64 0) := HS.out.now.2.1.cell 0
  have f0 := HS.out.now.2.1.frozen 0
  have k1 : ((w.alloc (.cells #[.bool wh, .int .i64 x0, .int .i64 x1, .int .i64 x2, .int .i64 x3, .string s] 29)).alloc (.cells #[.int .i64 0, .int .i64 0] 44)).cell? ⟨w.heap.size + 1, 1, none⟩ = some (.int .i64 0) := HS.out.now.2.1.cell 1
  have f1 := HS.out.now.2.1.frozen 1
  have kb := fun W : World => print_bytes (P := Try.prog) 9 22 5 Try.underlying9 Try.underlying22 Try.underlying5 s W
  have HT := Aside0.mk (texts2_f l (bytesOf s) hB (bytesOf_B s) hs (by rw [bytesOf_length]; exact hs2))
  have HC := Aside0.mk hc
  have HBY := Aside0.mk hB
  clear hc hB
  rw [hk] at HT
  have hz1 : (r != 0) = true := bne_iff_ne.mpr hz
  clear hz hk
  go_enter Try.func59, Try.ntmps59
  go_wp2_with (go_at_call 51; refine (edit_texts.calls _ _ _ [l, bytesOf s] _ _ (row2_Cm _ _ _ _ _ l (bytesOf s) s.size (bytesOf_length s) (HS.out.step (by repeat (first | exact Below.refl _ _ | apply below_alloc | apply pw_below_drewN | apply below_drew1 | apply bytes_step))).now.2.2 HC.out (bytes_at _ _ s _ (by simp) (by omega)) (grownCap_ge _ _ _ _) _) (Nat.le_refl _) HT.out).mono ?_; rintro e w1 ⟨rfl, hd⟩; have hb := hd.below; clear hd; have m_ := Aside0.mk (HS.out.call (by repeat (first | exact Below.refl _ _ | apply below_alloc | apply pw_below_drewN | apply below_drew1 | apply bytes_step)) hb); clear HS hb ; have HS := m_; clear m_; have n1 := blk_lt HS.out.now.1; have n2 := blk_lt HS.out.now.2.1; have c0 : w1.cell? ⟨w.heap.size, 0, none⟩ = some (.bool wh) := HS.out.now.1.cell 0; have c0a := cell_alloc1 c0; have c1 : w1.cell? ⟨w.heap.size, 1, none⟩ = some (.int .i64 x0) := HS.out.now.1.cell 1; have c1a := cell_alloc1 c1; have c2 : w1.cell? ⟨w.heap.size, 2, none⟩ = some (.int .i64 x1) := HS.out.now.1.cell 2; have c2a := cell_alloc1 c2; have c3 : w1.cell? ⟨w.heap.size, 3, none⟩ = some (.int .i64 x2) := HS.out.now.1.cell 3; have c3a := cell_alloc1 c3; have c4 : w1.cell? ⟨w.heap.size, 4, none⟩ = some (.int .i64 x3) := HS.out.now.1.cell 4; have c4a := cell_alloc1 c4; have c5 : w1.cell? ⟨w.heap.size, 5, none⟩ = some (.string s) := HS.out.now.1.cell 5; have c5a := cell_alloc1 c5; have k0 : w1.cell? ⟨w.heap.size + 1, 0, none⟩ = some (.int .i64 0) := HS.out.now.2.1.cell 0; have f0 := HS.out.now.2.1.frozen 0; have k0a := cell_alloc1 k0; have f0a := froz_alloc1 k0 f0; have k1 : w1.cell? ⟨w.heap.size + 1, 1, none⟩ = some (.int .i64 0) := HS.out.now.2.1.cell 1; have f1 := HS.out.now.2.1.frozen 1; have k1a := cell_alloc1 k1; have f1a := froz_alloc1 k1 f1)
  first | rw [Exit.noGoto_ret] | skip
  refine bodyPost_ret (v := .tuple #[.agg #[.int .i64 0, .int .i64 0], .slice none 0 0, .int .i64 r]) (by simp [results, Try.results59, go_sem, *]) rfl ⟨_, rfl, Kd.R_nil _ _ _ _ _, ?_⟩
  have hS := HS.out.bel
  repeat (first | exact hS | apply below_alloc | apply pw_below_drewN | apply below_drew1 | refine Below.setCell ?_ (by simp) _)

theorem r_set {W : World} {e base : Nat} {v : Value} {xs : List Int} (h : Kd.R (Kd.int .u8) e W base (fun _ => True) v xs) {p : Addr} (hp : p.block < base) (u : Value) : Kd.R (Kd.int .u8) e (W.setCell p u) base (fun _ => True) v xs :=
  Kd.R_mono (Kd.R_far (p := p) (Kd.R_bound h) (fun k hk => by have := hk.2.1; omega) u) (fun _ _ => trivial)

set_option maxRecDepth 100000 in
set_option maxHeartbeats 2000000 in
/-- A whole text is put in the place of another one: it is too long. -/
theorem change_whole_no (A : Option Addr) (c : Nat) (l : List Int) (x0 x1 x2 x3 : Int) (s : ByteArray) (w : World) (hr : Kd.C (Kd.int .u8) w A l.length l) (hc : l.length ≤ c) (hB : Bytes l) (hs : l.length ≤ 1048576) (hs2 : s.size ≤ 140737488351232) (hl : (chk l).2 = 0) (ht : (chk (bytesOf s)).2 = 0) (hlim0 : 8192 < s.size) :
    Calls Try.prog 59 #[.slice A l.length c, .agg #[.bool true, .int .i64 x0, .int .i64 x1, .int .i64 x2, .int .i64 x3, .string s]] w fun e w' => ∃ v : Value, e = .returned (.tuple #[.agg #[.int .i64 0, .int .i64 0], v, .int .i64 5]) ∧ Kd.R (Kd.int .u8) 5 w' w.heap.size (fun _ => True) v [] ∧ Below w.heap.size w w' := by
  have hb1 := below_alloc (Below.refl _ w) (.cells #[.bool true, .int .i64 x0, .int .i64 x1, .int .i64 x2, .int .i64 x3, .string s] 29)
  have hb2 : Below (w.alloc (.cells #[.bool true, .int .i64 x0, .int .i64 x1, .int .i64 x2, .int .i64 x3, .string s] 29)).heap.size (w.alloc (.cells #[.bool true, .int .i64 x0, .int .i64 x1, .int .i64 x2, .int .i64 x3, .string s] 29)) ((w.alloc (.cells #[.bool true, .int .i64 x0, .int .i64 x1, .int .i64 x2, .int .i64 x3, .string s] 29)).alloc (.cells #[.int .i64 0, .int .i64 0] 44)) := below_alloc (Below.refl _ _) _
  have hg : IsBlk ((w.alloc (.cells #[.bool true, .int .i64 x0, .int .i64 x1, .int .i64 x2, .int .i64 x3, .string s] 29)).alloc (.cells #[.int .i64 0, .int .i64 0] 44)) (w.alloc (.cells #[.bool true, .int .i64 x0, .int .i64 x1, .int .i64 x2, .int .i64 x3, .string s] 29)).heap.size (.cells #[.int .i64 0, .int .i64 0] 44) := blk_new _ _
  rw [World.size_alloc] at hg
  have HS : Aside0 (Sta w ((w.alloc (.cells #[.bool true, .int .i64 x0, .int .i64 x1, .int .i64 x2, .int .i64 x3, .string s] 29)).alloc (.cells #[.int .i64 0, .int .i64 0] 44)) (fun W => IsBlk W w.heap.size (.cells #[.bool true, .int .i64 x0, .int .i64 x1, .int .i64 x2, .int .i64 x3, .string s] 29) ∧ IsBlk W (w.heap.size + 1) (.cells #[.int .i64 0, .int .i64 0] 44) ∧ Kd.C (Kd.int .u8) W A l.length l)) := ⟨⟨below_step hb1 hb2, ⟨IsBlk.below (blk_new w _) hb2, hg, Kd.C_below (Kd.C_below hr hb1) hb2⟩, keeps_and (keeps_blk _ _) (keeps_and (keeps_blk _ _) (keeps_C _ _ _ _))⟩⟩
  clear hb1 hb2 hg hr
  have n1 := blk_lt HS.out.now.1
  have n2 := blk_lt HS.out.now.2.1
  have c0 : ((w.alloc (.cells #[.bool true, .int .i64 x0, .int .i64 x1, .int .i64 x2, .int .i64 x3, .string s] 29)).alloc (.cells #[.int .i64 0, .int .i64 0] 44)).cell? ⟨w.heap.size, 0, none⟩ = some (.bool true) := HS.out.now.1.cell 0
  have c1 : ((w.alloc (.cells #[.bool true, .int .i64 x0, .int .i64 x1, .int .i64 x2, .int .i64 x3, .string s] 29)).alloc (.cells #[.int .i64 0, .int .i64 0] 44)).cell? ⟨w.heap.size, 1, none⟩ = some (.int .i64 x0) := HS.out.now.1.cell 1
  have c2 : ((w.alloc (.cells #[.bool true, .int .i64 x0, .int .i64 x1, .int .i64 x2, .int .i64 x3, .string s] 29)).alloc (.cells #[.int .i64 0, .int .i64 0] 44)).cell? ⟨w.heap.size, 2, none⟩ = some (.int .i64 x1) := HS.out.now.1.cell 2
  have c3 : ((w.alloc (.cells #[.bool true, .int .i64 x0, .int .i64 x1, .int .i64 x2, .int .i64 x3, .string s] 29)).alloc (.cells #[.int .i64 0, .int .i64 0] 44)).cell? ⟨w.heap.size, 3, none⟩ = some (.int .i64 x2) := HS.out.now.1.cell 3
  have c4 : ((w.alloc (.cells #[.bool true, .int .i64 x0, .int .i64 x1, .int .i64 x2, .int .i64 x3, .string s] 29)).alloc (.cells #[.int .i64 0, .int .i64 0] 44)).cell? ⟨w.heap.size, 4, none⟩ = some (.int .i64 x3) := HS.out.now.1.cell 4
  have c5 : ((w.alloc (.cells #[.bool true, .int .i64 x0, .int .i64 x1, .int .i64 x2, .int .i64 x3, .string s] 29)).alloc (.cells #[.int .i64 0, .int .i64 0] 44)).cell? ⟨w.heap.size, 5, none⟩ = some (.string s) := HS.out.now.1.cell 5
  have k0 : ((w.alloc (.cells #[.bool true, .int .i64 x0, .int .i64 x1, .int .i64 x2, .int .i64 x3, .string s] 29)).alloc (.cells #[.int .i64 0, .int .i64 0] 44)).cell? ⟨w.heap.size + 1, 0, none⟩ = some (.int .i64 0) := HS.out.now.2.1.cell 0
  have f0 := HS.out.now.2.1.frozen 0
  have k1 : ((w.alloc (.cells #[.bool true, .int .i64 x0, .int .i64 x1, .int .i64 x2, .int .i64 x3, .string s] 29)).alloc (.cells #[.int .i64 0, .int .i64 0] 44)).cell? ⟨w.heap.size + 1, 1, none⟩ = some (.int .i64 0) := HS.out.now.2.1.cell 1
  have f1 := HS.out.now.2.1.frozen 1
  have kb := fun W : World => print_bytes (P := Try.prog) 9 22 5 Try.underlying9 Try.underlying22 Try.underlying5 s W
  have HT := Aside0.mk (texts2_f l (bytesOf s) hB (bytesOf_B s) hs (by rw [bytesOf_length]; exact hs2))
  have HC := Aside0.mk hc
  have HBY := Aside0.mk hB
  clear hc hB
  rw [hl, ht, if_neg (by simp)] at HT
  obtain ⟨a, ha⟩ : ∃ a : Int, a = 0 := ⟨_, rfl⟩
  obtain ⟨b, hb⟩ : ∃ b : Int, b = l.length := ⟨_, rfl⟩
  have hlim : 8192 < (l.length : Int) - (b - a) + s.size := by omega
  have ha0 : 0 ≤ a := by omega
  have hab : a ≤ b := by omega
  have hbl : b ≤ l.length := by omega
  have HR0 := Aside0.mk (HS.out.now.2.2)
  go_enter Try.func59, Try.ntmps59
  go_upto_region 14 with (go_at_call 51; refine (edit_texts.calls _ _ _ [l, bytesOf s] _ _ (row2_Cm _ _ _ _ _ l (bytesOf s) s.size (bytesOf_length s) (HS.out.step (by repeat (first | exact Below.refl _ _ | apply below_alloc | apply pw_below_drewN | apply below_drew1 | apply bytes_step))).now.2.2 HC.out (bytes_at _ _ s _ (by simp) (by omega)) (grownCap_ge _ _ _ _) _) (Nat.le_refl _) HT.out).mono ?_; rintro e w1 ⟨rfl, hd⟩; have hb := hd.below; clear hd; have m_ := Aside0.mk (HS.out.call (by repeat (first | exact Below.refl _ _ | apply below_alloc | apply pw_below_drewN | apply below_drew1 | apply bytes_step)) hb); clear HS hb ; have HS := m_; clear m_; have n1 := blk_lt HS.out.now.1; have n2 := blk_lt HS.out.now.2.1; have c0 : w1.cell? ⟨w.heap.size, 0, none⟩ = some (.bool true) := HS.out.now.1.cell 0; have c0a := cell_alloc1 c0; have c1 : w1.cell? ⟨w.heap.size, 1, none⟩ = some (.int .i64 x0) := HS.out.now.1.cell 1; have c1a := cell_alloc1 c1; have c2 : w1.cell? ⟨w.heap.size, 2, none⟩ = some (.int .i64 x1) := HS.out.now.1.cell 2; have c2a := cell_alloc1 c2; have c3 : w1.cell? ⟨w.heap.size, 3, none⟩ = some (.int .i64 x2) := HS.out.now.1.cell 3; have c3a := cell_alloc1 c3; have c4 : w1.cell? ⟨w.heap.size, 4, none⟩ = some (.int .i64 x3) := HS.out.now.1.cell 4; have c4a := cell_alloc1 c4; have c5 : w1.cell? ⟨w.heap.size, 5, none⟩ = some (.string s) := HS.out.now.1.cell 5; have c5a := cell_alloc1 c5; have k0 : w1.cell? ⟨w.heap.size + 1, 0, none⟩ = some (.int .i64 0) := HS.out.now.2.1.cell 0; have f0 := HS.out.now.2.1.frozen 0; have k0a := cell_alloc1 k0; have f0a := froz_alloc1 k0 f0; have k1 : w1.cell? ⟨w.heap.size + 1, 1, none⟩ = some (.int .i64 0) := HS.out.now.2.1.cell 1; have f1 := HS.out.now.2.1.frozen 1; have k1a := cell_alloc1 k1; have f1a := froz_alloc1 k1 f1)
  have b8n : IsBlk (w1.alloc (.cells #[.int .i64 0, .int .i64 l.length] 44)) w1.heap.size (.cells #[.int .i64 a, .int .i64 b] 44 (0, 0)) := by rw [ha, hb]; exact blk_new _ _
  have h9 := HS.out.step (below_alloc (Below.refl w1.heap.size w1) (.cells #[.int .i64 0, .int .i64 l.length] 44))
  have HS9 : Aside0 (Sta w (w1.alloc (.cells #[.int .i64 0, .int .i64 l.length] 44)) (fun W => IsBlk W w.heap.size (.cells #[.bool true, .int .i64 x0, .int .i64 x1, .int .i64 x2, .int .i64 x3, .string s] 29) ∧ IsBlk W (w.heap.size + 1) (.cells #[.int .i64 0, .int .i64 0] 44) ∧ Kd.C (Kd.int .u8) W A l.length l ∧ IsBlk W w1.heap.size (.cells #[.int .i64 a, .int .i64 b] 44 (0, 0)))) := ⟨⟨h9.bel, ⟨h9.now.1, h9.now.2.1, h9.now.2.2, b8n⟩, keeps_and (keeps_blk _ _) (keeps_and (keeps_blk _ _) (keeps_and (keeps_C _ _ _ _) (keeps_blk _ _)))⟩⟩
  have ge8 := n2
  have ge9 : w.heap.size < w1.heap.size := Nat.lt_of_succ_lt n2
  clear HS h9 b8n HT
  clear c0 c0a c1 c1a c2 c2a c3 c3a c4 c4a c5 c5a k0 k1 k0a k1a f0 f1 f0a f1a n1 n2
  generalize w1.alloc (.cells #[.int .i64 0, .int .i64 l.length] 44) = W9 at HS9 ⊢
  generalize w1.heap.size = b8 at HS9 ge8 ge9 ⊢
  have HS := HS9
  clear HS9
  have n1 := blk_lt HS.out.now.1
  have n2 := blk_lt HS.out.now.2.1
  have c0 : W9.cell? ⟨w.heap.size, 0, none⟩ = some (.bool true) := HS.out.now.1.cell 0
  have c1 : W9.cell? ⟨w.heap.size, 1, none⟩ = some (.int .i64 x0) := HS.out.now.1.cell 1
  have c2 : W9.cell? ⟨w.heap.size, 2, none⟩ = some (.int .i64 x1) := HS.out.now.1.cell 2
  have c3 : W9.cell? ⟨w.heap.size, 3, none⟩ = some (.int .i64 x2) := HS.out.now.1.cell 3
  have c4 : W9.cell? ⟨w.heap.size, 4, none⟩ = some (.int .i64 x3) := HS.out.now.1.cell 4
  have c5 : W9.cell? ⟨w.heap.size, 5, none⟩ = some (.string s) := HS.out.now.1.cell 5
  have k0 : W9.cell? ⟨w.heap.size + 1, 0, none⟩ = some (.int .i64 0) := HS.out.now.2.1.cell 0
  have f0 := HS.out.now.2.1.frozen 0
  have k1 : W9.cell? ⟨w.heap.size + 1, 1, none⟩ = some (.int .i64 0) := HS.out.now.2.1.cell 1
  have f1 := HS.out.now.2.1.frozen 1
  have q0 : W9.cell? ⟨b8, 0, none⟩ = some (.int .i64 a) := HS.out.now.2.2.2.cell 0
  have q1 : W9.cell? ⟨b8, 1, none⟩ = some (.int .i64 b) := HS.out.now.2.2.2.cell 1
  have g9 : decide (8192 < (l.length : Int) - (b - a) + s.size) = true := decide_eq_true (by omega)
  clear ha hb
  go_wp2
  first | rw [Exit.noGoto_ret] | skip
  refine bodyPost_ret (v := .tuple #[.agg #[.int .i64 0, .int .i64 0], .slice none 0 0, .int .i64 5]) (by simp [results, Try.results59, go_sem, *]) rfl ⟨_, rfl, Kd.R_nil _ _ _ _ _, ?_⟩
  have hS := HS.out.bel
  repeat (first | exact hS | apply below_alloc | apply pw_below_drewN | apply below_drew1 | refine Below.setCell ?_ (by simp) _)

set_option maxRecDepth 100000 in
set_option maxHeartbeats 2000000 in
/-- A whole text is put in the place of another one. -/
theorem change_whole_ok (A : Option Addr) (c : Nat) (l : List Int) (x0 x1 x2 x3 : Int) (s : ByteArray) (w : World) (hr : Kd.C (Kd.int .u8) w A l.length l) (hc : l.length ≤ c) (hB : Bytes l) (hs : l.length ≤ 1048576) (hs2 : s.size ≤ 140737488351232) (hl : (chk l).2 = 0) (ht : (chk (bytesOf s)).2 = 0) (hlim0 : ¬ 8192 < s.size) (a b : Int) (ha : a = 0) (hb : b = l.length) :
    Calls Try.prog 59 #[.slice A l.length c, .agg #[.bool true, .int .i64 x0, .int .i64 x1, .int .i64 x2, .int .i64 x3, .string s]] w fun e w' => ∃ v : Value, e = .returned (.tuple #[.agg #[.int .i64 a, .int .i64 b], v, .int .i64 0]) ∧ Kd.R (Kd.int .u8) 5 w' w.heap.size (fun _ => True) v (l.take a.toNat ++ bytesOf s ++ l.drop b.toNat) ∧ Below w.heap.size w w' := by
  have hb1 := below_alloc (Below.refl _ w) (.cells #[.bool true, .int .i64 x0, .int .i64 x1, .int .i64 x2, .int .i64 x3, .string s] 29)
  have hb2 : Below (w.alloc (.cells #[.bool true, .int .i64 x0, .int .i64 x1, .int .i64 x2, .int .i64 x3, .string s] 29)).heap.size (w.alloc (.cells #[.bool true, .int .i64 x0, .int .i64 x1, .int .i64 x2, .int .i64 x3, .string s] 29)) ((w.alloc (.cells #[.bool true, .int .i64 x0, .int .i64 x1, .int .i64 x2, .int .i64 x3, .string s] 29)).alloc (.cells #[.int .i64 0, .int .i64 0] 44)) := below_alloc (Below.refl _ _) _
  have hg : IsBlk ((w.alloc (.cells #[.bool true, .int .i64 x0, .int .i64 x1, .int .i64 x2, .int .i64 x3, .string s] 29)).alloc (.cells #[.int .i64 0, .int .i64 0] 44)) (w.alloc (.cells #[.bool true, .int .i64 x0, .int .i64 x1, .int .i64 x2, .int .i64 x3, .string s] 29)).heap.size (.cells #[.int .i64 0, .int .i64 0] 44) := blk_new _ _
  rw [World.size_alloc] at hg
  have HS : Aside0 (Sta w ((w.alloc (.cells #[.bool true, .int .i64 x0, .int .i64 x1, .int .i64 x2, .int .i64 x3, .string s] 29)).alloc (.cells #[.int .i64 0, .int .i64 0] 44)) (fun W => IsBlk W w.heap.size (.cells #[.bool true, .int .i64 x0, .int .i64 x1, .int .i64 x2, .int .i64 x3, .string s] 29) ∧ IsBlk W (w.heap.size + 1) (.cells #[.int .i64 0, .int .i64 0] 44) ∧ Kd.C (Kd.int .u8) W A l.length l)) := ⟨⟨below_step hb1 hb2, ⟨IsBlk.below (blk_new w _) hb2, hg, Kd.C_below (Kd.C_below hr hb1) hb2⟩, keeps_and (keeps_blk _ _) (keeps_and (keeps_blk _ _) (keeps_C _ _ _ _))⟩⟩
  clear hb1 hb2 hg hr
  have n1 := blk_lt HS.out.now.1
  have n2 := blk_lt HS.out.now.2.1
  have c0 : ((w.alloc (.cells #[.bool true, .int .i64 x0, .int .i64 x1, .int .i64 x2, .int .i64 x3, .string s] 29)).alloc (.cells #[.int .i64 0, .int .i64 0] 44)).cell? ⟨w.heap.size, 0, none⟩ = some (.bool true) := HS.out.now.1.cell 0
  have c1 : ((w.alloc (.cells #[.bool true, .int .i64 x0, .int .i64 x1, .int .i64 x2, .int .i64 x3, .string s] 29)).alloc (.cells #[.int .i64 0, .int .i64 0] 44)).cell? ⟨w.heap.size, 1, none⟩ = some (.int .i64 x0) := HS.out.now.1.cell 1
  have c2 : ((w.alloc (.cells #[.bool true, .int .i64 x0, .int .i64 x1, .int .i64 x2, .int .i64 x3, .string s] 29)).alloc (.cells #[.int .i64 0, .int .i64 0] 44)).cell? ⟨w.heap.size, 2, none⟩ = some (.int .i64 x1) := HS.out.now.1.cell 2
  have c3 : ((w.alloc (.cells #[.bool true, .int .i64 x0, .int .i64 x1, .int .i64 x2, .int .i64 x3, .string s] 29)).alloc (.cells #[.int .i64 0, .int .i64 0] 44)).cell? ⟨w.heap.size, 3, none⟩ = some (.int .i64 x2) := HS.out.now.1.cell 3
  have c4 : ((w.alloc (.cells #[.bool true, .int .i64 x0, .int .i64 x1, .int .i64 x2, .int .i64 x3, .string s] 29)).alloc (.cells #[.int .i64 0, .int .i64 0] 44)).cell? ⟨w.heap.size, 4, none⟩ = some (.int .i64 x3) := HS.out.now.1.cell 4
  have c5 : ((w.alloc (.cells #[.bool true, .int .i64 x0, .int .i64 x1, .int .i64 x2, .int .i64 x3, .string s] 29)).alloc (.cells #[.int .i64 0, .int .i64 0] 44)).cell? ⟨w.heap.size, 5, none⟩ = some (.string s) := HS.out.now.1.cell 5
  have k0 : ((w.alloc (.cells #[.bool true, .int .i64 x0, .int .i64 x1, .int .i64 x2, .int .i64 x3, .string s] 29)).alloc (.cells #[.int .i64 0, .int .i64 0] 44)).cell? ⟨w.heap.size + 1, 0, none⟩ = some (.int .i64 0) := HS.out.now.2.1.cell 0
  have f0 := HS.out.now.2.1.frozen 0
  have k1 : ((w.alloc (.cells #[.bool true, .int .i64 x0, .int .i64 x1, .int .i64 x2, .int .i64 x3, .string s] 29)).alloc (.cells #[.int .i64 0, .int .i64 0] 44)).cell? ⟨w.heap.size + 1, 1, none⟩ = some (.int .i64 0) := HS.out.now.2.1.cell 1
  have f1 := HS.out.now.2.1.frozen 1
  have kb := fun W : World => print_bytes (P := Try.prog) 9 22 5 Try.underlying9 Try.underlying22 Try.underlying5 s W
  have HT := Aside0.mk (texts2_f l (bytesOf s) hB (bytesOf_B s) hs (by rw [bytesOf_length]; exact hs2))
  have HC := Aside0.mk hc
  have HBY := Aside0.mk hB
  clear hc hB
  rw [hl, ht, if_neg (by simp)] at HT
  have hlim : ¬ 8192 < (l.length : Int) - (b - a) + s.size := by omega
  have ha0 : 0 ≤ a := by omega
  have hab : a ≤ b := by omega
  have hbl : b ≤ l.length := by omega
  have HR0 := Aside0.mk (HS.out.now.2.2)
  go_enter Try.func59, Try.ntmps59
  go_upto_region 14 with (go_at_call 51; refine (edit_texts.calls _ _ _ [l, bytesOf s] _ _ (row2_Cm _ _ _ _ _ l (bytesOf s) s.size (bytesOf_length s) (HS.out.step (by repeat (first | exact Below.refl _ _ | apply below_alloc | apply pw_below_drewN | apply below_drew1 | apply bytes_step))).now.2.2 HC.out (bytes_at _ _ s _ (by simp) (by omega)) (grownCap_ge _ _ _ _) _) (Nat.le_refl _) HT.out).mono ?_; rintro e w1 ⟨rfl, hd⟩; have hb := hd.below; clear hd; have m_ := Aside0.mk (HS.out.call (by repeat (first | exact Below.refl _ _ | apply below_alloc | apply pw_below_drewN | apply below_drew1 | apply bytes_step)) hb); clear HS hb ; have HS := m_; clear m_; have n1 := blk_lt HS.out.now.1; have n2 := blk_lt HS.out.now.2.1; have c0 : w1.cell? ⟨w.heap.size, 0, none⟩ = some (.bool true) := HS.out.now.1.cell 0; have c0a := cell_alloc1 c0; have c1 : w1.cell? ⟨w.heap.size, 1, none⟩ = some (.int .i64 x0) := HS.out.now.1.cell 1; have c1a := cell_alloc1 c1; have c2 : w1.cell? ⟨w.heap.size, 2, none⟩ = some (.int .i64 x1) := HS.out.now.1.cell 2; have c2a := cell_alloc1 c2; have c3 : w1.cell? ⟨w.heap.size, 3, none⟩ = some (.int .i64 x2) := HS.out.now.1.cell 3; have c3a := cell_alloc1 c3; have c4 : w1.cell? ⟨w.heap.size, 4, none⟩ = some (.int .i64 x3) := HS.out.now.1.cell 4; have c4a := cell_alloc1 c4; have c5 : w1.cell? ⟨w.heap.size, 5, none⟩ = some (.string s) := HS.out.now.1.cell 5; have c5a := cell_alloc1 c5; have k0 : w1.cell? ⟨w.heap.size + 1, 0, none⟩ = some (.int .i64 0) := HS.out.now.2.1.cell 0; have f0 := HS.out.now.2.1.frozen 0; have k0a := cell_alloc1 k0; have f0a := froz_alloc1 k0 f0; have k1 : w1.cell? ⟨w.heap.size + 1, 1, none⟩ = some (.int .i64 0) := HS.out.now.2.1.cell 1; have f1 := HS.out.now.2.1.frozen 1; have k1a := cell_alloc1 k1; have f1a := froz_alloc1 k1 f1)
  have b8n : IsBlk (w1.alloc (.cells #[.int .i64 0, .int .i64 l.length] 44)) w1.heap.size (.cells #[.int .i64 a, .int .i64 b] 44 (0, 0)) := by rw [ha, hb]; exact blk_new _ _
  have h9 := HS.out.step (below_alloc (Below.refl w1.heap.size w1) (.cells #[.int .i64 0, .int .i64 l.length] 44))
  have HS9 : Aside0 (Sta w (w1.alloc (.cells #[.int .i64 0, .int .i64 l.length] 44)) (fun W => IsBlk W w.heap.size (.cells #[.bool true, .int .i64 x0, .int .i64 x1, .int .i64 x2, .int .i64 x3, .string s] 29) ∧ IsBlk W (w.heap.size + 1) (.cells #[.int .i64 0, .int .i64 0] 44) ∧ Kd.C (Kd.int .u8) W A l.length l ∧ IsBlk W w1.heap.size (.cells #[.int .i64 a, .int .i64 b] 44 (0, 0)))) := ⟨⟨h9.bel, ⟨h9.now.1, h9.now.2.1, h9.now.2.2, b8n⟩, keeps_and (keeps_blk _ _) (keeps_and (keeps_blk _ _) (keeps_and (keeps_C _ _ _ _) (keeps_blk _ _)))⟩⟩
  have ge8 := n2
  have ge9 : w.heap.size < w1.heap.size := Nat.lt_of_succ_lt n2
  clear HS h9 b8n HT
  clear c0 c0a c1 c1a c2 c2a c3 c3a c4 c4a c5 c5a k0 k1 k0a k1a f0 f1 f0a f1a n1 n2
  generalize w1.alloc (.cells #[.int .i64 0, .int .i64 l.length] 44) = W9 at HS9 ⊢
  generalize w1.heap.size = b8 at HS9 ge8 ge9 ⊢
  have HS := HS9
  clear HS9
  have n1 := blk_lt HS.out.now.1
  have n2 := blk_lt HS.out.now.2.1
  have c0 : W9.cell? ⟨w.heap.size, 0, none⟩ = some (.bool true) := HS.out.now.1.cell 0
  have c1 : W9.cell? ⟨w.heap.size, 1, none⟩ = some (.int .i64 x0) := HS.out.now.1.cell 1
  have c2 : W9.cell? ⟨w.heap.size, 2, none⟩ = some (.int .i64 x1) := HS.out.now.1.cell 2
  have c3 : W9.cell? ⟨w.heap.size, 3, none⟩ = some (.int .i64 x2) := HS.out.now.1.cell 3
  have c4 : W9.cell? ⟨w.heap.size, 4, none⟩ = some (.int .i64 x3) := HS.out.now.1.cell 4
  have c5 : W9.cell? ⟨w.heap.size, 5, none⟩ = some (.string s) := HS.out.now.1.cell 5
  have k0 : W9.cell? ⟨w.heap.size + 1, 0, none⟩ = some (.int .i64 0) := HS.out.now.2.1.cell 0
  have f0 := HS.out.now.2.1.frozen 0
  have k1 : W9.cell? ⟨w.heap.size + 1, 1, none⟩ = some (.int .i64 0) := HS.out.now.2.1.cell 1
  have f1 := HS.out.now.2.1.frozen 1
  have q0 : W9.cell? ⟨b8, 0, none⟩ = some (.int .i64 a) := HS.out.now.2.2.2.cell 0
  have q1 : W9.cell? ⟨b8, 1, none⟩ = some (.int .i64 b) := HS.out.now.2.2.2.cell 1
  have g9 : decide (8192 < (l.length : Int) - (b - a) + s.size) = false := decide_eq_false (by omega)
  clear ha hb
  have e1 := Nat.ne_of_lt ge8
  have e2 := Ne.symm e1
  have e3 := Nat.ne_of_lt ge9
  have e4 := Ne.symm e3
  go_upto_region 16 with (fail)
  go_region_held3 (fun wx => wx.cell? ⟨b8, 0, none⟩ = some (.int .i64 a) ∧ wx.cell? ⟨b8, 1, none⟩ = some (.int .i64 b) ∧ wx.cell? ⟨w.heap.size, 5, none⟩ = some (.string s)) (go_keep) ((go_at_call 86; refine (joined_ok A c l a b s _ (HS.out.step (by repeat (first | exact Below.refl _ _ | apply below_alloc | apply pw_below_drewN | apply below_drew1 | apply bytes_step))).now.2.2.1 HC.out ha0 hab hbl (by omega)).mono ?_; rintro e w5 ⟨v, rfl, hR, hb⟩; have HRR := Aside0.mk (Kd.R_lower hR (blk_lt (HS.out.step (by repeat (first | exact Below.refl _ _ | apply below_alloc | apply pw_below_drewN | apply below_drew1 | apply bytes_step))).now.2.1)); clear hR; have m_ := Aside0.mk (HS.out.call (by repeat (first | exact Below.refl _ _ | apply below_alloc | apply pw_below_drewN | apply below_drew1 | apply bytes_step)) hb); clear HS hb ; have HS := m_; clear m_; have n1 := blk_lt HS.out.now.1; have n2 := blk_lt HS.out.now.2.1; have c0 : w5.cell? ⟨w.heap.size, 0, none⟩ = some (.bool true) := HS.out.now.1.cell 0; have c1 : w5.cell? ⟨w.heap.size, 1, none⟩ = some (.int .i64 x0) := HS.out.now.1.cell 1; have c2 : w5.cell? ⟨w.heap.size, 2, none⟩ = some (.int .i64 x1) := HS.out.now.1.cell 2; have c3 : w5.cell? ⟨w.heap.size, 3, none⟩ = some (.int .i64 x2) := HS.out.now.1.cell 3; have c4 : w5.cell? ⟨w.heap.size, 4, none⟩ = some (.int .i64 x3) := HS.out.now.1.cell 4; have c5 : w5.cell? ⟨w.heap.size, 5, none⟩ = some (.string s) := HS.out.now.1.cell 5; have k0 : w5.cell? ⟨w.heap.size + 1, 0, none⟩ = some (.int .i64 0) := HS.out.now.2.1.cell 0; have f0 := HS.out.now.2.1.frozen 0; have k1 : w5.cell? ⟨w.heap.size + 1, 1, none⟩ = some (.int .i64 0) := HS.out.now.2.1.cell 1; have f1 := HS.out.now.2.1.frozen 1; have q0 : w5.cell? ⟨b8, 0, none⟩ = some (.int .i64 a) := HS.out.now.2.2.2.cell 0; have q1 : w5.cell? ⟨b8, 1, none⟩ = some (.int .i64 b) := HS.out.now.2.2.2.cell 1))
  all_goals
    go_wp2
    first | rw [Exit.noGoto_ret] | skip
    refine bodyPost_ret (v := .tuple #[.agg #[.int .i64 a, .int .i64 b], v, .int .i64 0]) (by simp [results, Try.results59, go_sem, *]) rfl ⟨v, rfl, Kd.R_lower (r_set (r_set HRR.out (by simp) _) (by simp) _) (by omega), ?_⟩
    have hS := HS.out.bel
    repeat (first | exact hS | apply below_alloc | apply pw_below_drewN | apply below_drew1 | refine Below.setCell ?_ (by simp) _)
theorem blk2 {W : World} {b : Nat} {z z1 : Value} {t : TypeId} (h : IsBlk W b (.cells #[z, z1] t (0, 0))) (u0 u1 : Value) :
    IsBlk ((W.setCell ⟨b, 0, none⟩ u0).setCell ⟨b, 1, none⟩ u1) b (.cells #[u0, u1] t (0, 0)) :=
  (blk_set (blk_set h 0 u0) 1 u1).trans rfl

set_option maxRecDepth 100000 in
set_option maxHeartbeats 2000000 in
theorem change_span_bad (A : Option Addr) (c : Nat) (l : List Int) (x0 x1 x2 x3 : Int) (s : ByteArray) (w : World) (hr : Kd.C (Kd.int .u8) w A l.length l) (hc : l.length ≤ c) (hB : Bytes l) (hs : l.length ≤ 1048576) (hs2 : s.size ≤ 140737488351232) (hn : A = none → c = 0) (hx1 : x1 ≤ 9223372036854775807) (hx3 : x3 ≤ 9223372036854775807) (hl : (chk l).2 = 0) (ht : (chk (bytesOf s)).2 = 0) (a b er : Int) (hma : (msp l x0 x1 x2 x3).1 = a) (hmb : (msp l x0 x1 x2 x3).2.1 = b) (hme : (msp l x0 x1 x2 x3).2.2 = er) (hz : er ≠ 0) (ew : Int) (hew : ew = if er = 2 then 150 else er) :
    Calls Try.prog 59 #[.slice A l.length c, .agg #[.bool false, .int .i64 x0, .int .i64 x1, .int .i64 x2, .int .i64 x3, .string s]] w fun e w' => ∃ v : Value, e = .returned (.tuple #[.agg #[.int .i64 0, .int .i64 0], v, .int .i64 ew]) ∧ Kd.R (Kd.int .u8) 5 w' w.heap.size (fun _ => True) v [] ∧ Below w.heap.size w w' := by
  have HRW := Aside0.mk hr
  have hb1 := below_alloc (Below.refl _ w) (.cells #[.bool false, .int .i64 x0, .int .i64 x1, .int .i64 x2, .int .i64 x3, .string s] 29)
  have hb2 : Below (w.alloc (.cells #[.bool false, .int .i64 x0, .int .i64 x1, .int .i64 x2, .int .i64 x3, .string s] 29)).heap.size (w.alloc (.cells #[.bool false, .int .i64 x0, .int .i64 x1, .int .i64 x2, .int .i64 x3, .string s] 29)) ((w.alloc (.cells #[.bool false, .int .i64 x0, .int .i64 x1, .int .i64 x2, .int .i64 x3, .string s] 29)).alloc (.cells #[.int .i64 0, .int .i64 0] 44)) := below_alloc (Below.refl _ _) _
  have hg : IsBlk ((w.alloc (.cells #[.bool false, .int .i64 x0, .int .i64 x1, .int .i64 x2, .int .i64 x3, .string s] 29)).alloc (.cells #[.int .i64 0, .int .i64 0] 44)) (w.alloc (.cells #[.bool false, .int .i64 x0, .int .i64 x1, .int .i64 x2, .int .i64 x3, .string s] 29)).heap.size (.cells #[.int .i64 0, .int .i64 0] 44) := blk_new _ _
  rw [World.size_alloc] at hg
  have HS : Aside0 (Sta w ((w.alloc (.cells #[.bool false, .int .i64 x0, .int .i64 x1, .int .i64 x2, .int .i64 x3, .string s] 29)).alloc (.cells #[.int .i64 0, .int .i64 0] 44)) (fun W => IsBlk W w.heap.size (.cells #[.bool false, .int .i64 x0, .int .i64 x1, .int .i64 x2, .int .i64 x3, .string s] 29) ∧ IsBlk W (w.heap.size + 1) (.cells #[.int .i64 0, .int .i64 0] 44) ∧ Kd.C (Kd.int .u8) W A l.length l)) := ⟨⟨below_step hb1 hb2, ⟨IsBlk.below (blk_new w _) hb2, hg, Kd.C_below (Kd.C_below hr hb1) hb2⟩, keeps_and (keeps_blk _ _) (keeps_and (keeps_blk _ _) (keeps_C _ _ _ _))⟩⟩
  clear hb1 hb2 hg hr
  have n1 := blk_lt HS.out.now.1
  have n2 := blk_lt HS.out.now.2.1
  have c0 : ((w.alloc (.cells #[.bool false, .int .i64 x0, .int .i64 x1, .int .i64 x2, .int .i64 x3, .string s] 29)).alloc (.cells #[.int .i64 0, .int .i64 0] 44)).cell? ⟨w.heap.size, 0, none⟩ = some (.bool false) := HS.out.now.1.cell 0
  have c1 : ((w.alloc (.cells #[.bool false, .int .i64 x0, .int .i64 x1, .int .i64 x2, .int .i64 x3, .string s] 29)).alloc (.cells #[.int .i64 0, .int .i64 0] 44)).cell? ⟨w.heap.size, 1, none⟩ = some (.int .i64 x0) := HS.out.now.1.cell 1
  have c2 : ((w.alloc (.cells #[.bool false, .int .i64 x0, .int .i64 x1, .int .i64 x2, .int .i64 x3, .string s] 29)).alloc (.cells #[.int .i64 0, .int .i64 0] 44)).cell? ⟨w.heap.size, 2, none⟩ = some (.int .i64 x1) := HS.out.now.1.cell 2
  have c3 : ((w.alloc (.cells #[.bool false, .int .i64 x0, .int .i64 x1, .int .i64 x2, .int .i64 x3, .string s] 29)).alloc (.cells #[.int .i64 0, .int .i64 0] 44)).cell? ⟨w.heap.size, 3, none⟩ = some (.int .i64 x2) := HS.out.now.1.cell 3
  have c4 : ((w.alloc (.cells #[.bool false, .int .i64 x0, .int .i64 x1, .int .i64 x2, .int .i64 x3, .string s] 29)).alloc (.cells #[.int .i64 0, .int .i64 0] 44)).cell? ⟨w.heap.size, 4, none⟩ = some (.int .i64 x3) := HS.out.now.1.cell 4
  have c5 : ((w.alloc (.cells #[.bool false, .int .i64 x0, .int .i64 x1, .int .i64 x2, .int .i64 x3, .string s] 29)).alloc (.cells #[.int .i64 0, .int .i64 0] 44)).cell? ⟨w.heap.size, 5, none⟩ = some (.string s) := HS.out.now.1.cell 5
  have k0 : ((w.alloc (.cells #[.bool false, .int .i64 x0, .int .i64 x1, .int .i64 x2, .int .i64 x3, .string s] 29)).alloc (.cells #[.int .i64 0, .int .i64 0] 44)).cell? ⟨w.heap.size + 1, 0, none⟩ = some (.int .i64 0) := HS.out.now.2.1.cell 0
  have f0 := HS.out.now.2.1.frozen 0
  have k1 : ((w.alloc (.cells #[.bool false, .int .i64 x0, .int .i64 x1, .int .i64 x2, .int .i64 x3, .string s] 29)).alloc (.cells #[.int .i64 0, .int .i64 0] 44)).cell? ⟨w.heap.size + 1, 1, none⟩ = some (.int .i64 0) := HS.out.now.2.1.cell 1
  have f1 := HS.out.now.2.1.frozen 1
  have kb := fun W : World => print_bytes (P := Try.prog) 9 22 5 Try.underlying9 Try.underlying22 Try.underlying5 s W
  have HT := Aside0.mk (texts2_f l (bytesOf s) hB (bytesOf_B s) hs (by rw [bytesOf_length]; exact hs2))
  have HC := Aside0.mk hc
  have HBY := Aside0.mk hB
  clear hc hB
  have hkk := Check_f l HBY.out hs (Nat.lt_succ_self _)
  have hv := (chk_V HBY.out).1 hl
  rw [show chk l = ((chk l).1, 0) from Prod.ext rfl hl] at hkk
  rw [hl, ht, if_neg (by simp)] at HT
  have HV := Aside0.mk hv
  have HK := Aside0.mk hkk
  have HMA := Aside0.mk hma
  have HMB := Aside0.mk hmb
  have HME := Aside0.mk hme
  clear hkk hv hma hmb hme hl ht
  have z9 : (er == 0) = false := beq_eq_false_iff_ne.mpr hz
  clear hz
  go_enter Try.func59, Try.ntmps59
  go_upto_region 9 with (first | (go_at_call 51; refine (edit_texts.calls _ _ _ [l, bytesOf s] _ _ (row2_Cm _ _ _ _ _ l (bytesOf s) s.size (bytesOf_length s) (HS.out.step (by repeat (first | exact Below.refl _ _ | apply below_alloc | apply pw_below_drewN | apply below_drew1 | apply bytes_step))).now.2.2 HC.out (bytes_at _ _ s _ (by simp) (by omega)) (grownCap_ge _ _ _ _) _) (Nat.le_refl _) HT.out).mono ?_; rintro e w1 ⟨rfl, hd⟩; have hb := hd.below; clear hd; have m_ := Aside0.mk (HS.out.call (by repeat (first | exact Below.refl _ _ | apply below_alloc | apply pw_below_drewN | apply below_drew1 | apply bytes_step)) hb); clear HS hb ; have HS := m_; clear m_; have n1 := blk_lt HS.out.now.1; have n2 := blk_lt HS.out.now.2.1; have c0 : w1.cell? ⟨w.heap.size, 0, none⟩ = some (.bool false) := HS.out.now.1.cell 0; have c0a := cell_alloc1 c0; have c1 : w1.cell? ⟨w.heap.size, 1, none⟩ = some (.int .i64 x0) := HS.out.now.1.cell 1; have c1a := cell_alloc1 c1; have c2 : w1.cell? ⟨w.heap.size, 2, none⟩ = some (.int .i64 x1) := HS.out.now.1.cell 2; have c2a := cell_alloc1 c2; have c3 : w1.cell? ⟨w.heap.size, 3, none⟩ = some (.int .i64 x2) := HS.out.now.1.cell 3; have c3a := cell_alloc1 c3; have c4 : w1.cell? ⟨w.heap.size, 4, none⟩ = some (.int .i64 x3) := HS.out.now.1.cell 4; have c4a := cell_alloc1 c4; have c5 : w1.cell? ⟨w.heap.size, 5, none⟩ = some (.string s) := HS.out.now.1.cell 5; have c5a := cell_alloc1 c5; have k0 : w1.cell? ⟨w.heap.size + 1, 0, none⟩ = some (.int .i64 0) := HS.out.now.2.1.cell 0; have f0 := HS.out.now.2.1.frozen 0; have k0a := cell_alloc1 k0; have f0a := froz_alloc1 k0 f0; have k1 : w1.cell? ⟨w.heap.size + 1, 1, none⟩ = some (.int .i64 0) := HS.out.now.2.1.cell 1; have f1 := HS.out.now.2.1.frozen 1; have k1a := cell_alloc1 k1; have f1a := froz_alloc1 k1 f1; have HGE := Aside0.mk n2) | (go_at_call 25; refine (MNew_ok _ A c l _ _ (HS.out.step (by repeat (first | exact Below.refl _ _ | apply below_alloc | apply pw_below_drewN | apply below_drew1 | apply bytes_step))).now.2.2 HC.out hn HK.out hs).mono ?_; rintro e w2 ⟨m, rfl, hM, hb⟩; have hbx := IsBlk.below (blk_new w1 (.cells #[.int .i64 0, .int .i64 l.length] 44)) hb; have m_ := Aside0.mk (((HS.out.call (by repeat (first | exact Below.refl _ _ | apply below_alloc | apply pw_below_drewN | apply below_drew1 | apply bytes_step)) hb).add hbx (keeps_blk _ _)).add hM (keeps_map _ _)); clear HS hb hbx hM; have HS := m_; clear m_; have n1 := blk_lt HS.out.now.2.2.1; have n2 := blk_lt HS.out.now.2.2.2.1; have c0 : w2.cell? ⟨w.heap.size, 0, none⟩ = some (.bool false) := HS.out.now.2.2.1.cell 0; have c1 : w2.cell? ⟨w.heap.size, 1, none⟩ = some (.int .i64 x0) := HS.out.now.2.2.1.cell 1; have c2 : w2.cell? ⟨w.heap.size, 2, none⟩ = some (.int .i64 x1) := HS.out.now.2.2.1.cell 2; have c3 : w2.cell? ⟨w.heap.size, 3, none⟩ = some (.int .i64 x2) := HS.out.now.2.2.1.cell 3; have c4 : w2.cell? ⟨w.heap.size, 4, none⟩ = some (.int .i64 x3) := HS.out.now.2.2.1.cell 4; have c5 : w2.cell? ⟨w.heap.size, 5, none⟩ = some (.string s) := HS.out.now.2.2.1.cell 5; have k0 : w2.cell? ⟨w.heap.size + 1, 0, none⟩ = some (.int .i64 0) := HS.out.now.2.2.2.1.cell 0; have f0 := HS.out.now.2.2.2.1.frozen 0; have k1 : w2.cell? ⟨w.heap.size + 1, 1, none⟩ = some (.int .i64 0) := HS.out.now.2.2.2.1.cell 1; have f1 := HS.out.now.2.2.2.1.frozen 1) | (go_at_call 26; refine (MSpan_is m l x0 x1 x2 x3 _ (HS.out.step (by repeat (first | exact Below.refl _ _ | apply below_alloc | apply pw_below_drewN | apply below_drew1 | apply bytes_step))).now.1 hs HBY.out HV.out hx1 hx3).mono ?_; rintro e w3 ⟨rfl, hb⟩; rw [HMA.out, HMB.out, HME.out]; have m_ := Aside0.mk (HS.out.call (by repeat (first | exact Below.refl _ _ | apply below_alloc | apply pw_below_drewN | apply below_drew1 | apply bytes_step)) hb); clear HS hb ; have HS := m_; clear m_; have n1 := blk_lt HS.out.now.2.2.1; have n2 := blk_lt HS.out.now.2.2.2.1; have c0 : w3.cell? ⟨w.heap.size, 0, none⟩ = some (.bool false) := HS.out.now.2.2.1.cell 0; have c1 : w3.cell? ⟨w.heap.size, 1, none⟩ = some (.int .i64 x0) := HS.out.now.2.2.1.cell 1; have c2 : w3.cell? ⟨w.heap.size, 2, none⟩ = some (.int .i64 x1) := HS.out.now.2.2.1.cell 2; have c3 : w3.cell? ⟨w.heap.size, 3, none⟩ = some (.int .i64 x2) := HS.out.now.2.2.1.cell 3; have c4 : w3.cell? ⟨w.heap.size, 4, none⟩ = some (.int .i64 x3) := HS.out.now.2.2.1.cell 4; have c5 : w3.cell? ⟨w.heap.size, 5, none⟩ = some (.string s) := HS.out.now.2.2.1.cell 5; have k0 : w3.cell? ⟨w.heap.size + 1, 0, none⟩ = some (.int .i64 0) := HS.out.now.2.2.2.1.cell 0; have f0 := HS.out.now.2.2.2.1.frozen 0; have k1 : w3.cell? ⟨w.heap.size + 1, 1, none⟩ = some (.int .i64 0) := HS.out.now.2.2.2.1.cell 1; have f1 := HS.out.now.2.2.2.1.frozen 1; have z0 : w3.cell? ⟨w1.heap.size, 0, none⟩ = some (.int .i64 0) := HS.out.now.2.1.cell 0; have z1 : w3.cell? ⟨w1.heap.size, 1, none⟩ = some (.int .i64 l.length) := HS.out.now.2.1.cell 1; have zf0 := HS.out.now.2.1.frozen 0; have zf1 := HS.out.now.2.1.frozen 1))
  have ge8 : w.heap.size + 1 < w1.heap.size := HGE.out
  have ge9 : w.heap.size < w1.heap.size := Nat.lt_of_succ_lt ge8
  have q9 : Below w.heap.size w ((w3.setCell ⟨w1.heap.size, 0, none⟩ (.int .i64 a)).setCell ⟨w1.heap.size, 1, none⟩ (.int .i64 b)) := (HS.out.bel.setCell (Nat.le_of_lt ge9) _).setCell (Nat.le_of_lt ge9) _
  have HS9 : Aside0 (Sta w ((w3.setCell ⟨w1.heap.size, 0, none⟩ (.int .i64 a)).setCell ⟨w1.heap.size, 1, none⟩ (.int .i64 b)) (fun W => IsBlk W w.heap.size (.cells #[.bool false, .int .i64 x0, .int .i64 x1, .int .i64 x2, .int .i64 x3, .string s] 29) ∧ IsBlk W (w.heap.size + 1) (.cells #[.int .i64 0, .int .i64 0] 44) ∧ Kd.C (Kd.int .u8) W A l.length l ∧ IsBlk W w1.heap.size (.cells #[.int .i64 a, .int .i64 b] 44 (0, 0)))) := ⟨⟨q9, ⟨(HS.out.now.2.2.1.other (Nat.ne_of_lt ge9) _).other (Nat.ne_of_lt ge9) _, (HS.out.now.2.2.2.1.other (Nat.ne_of_lt ge8) _).other (Nat.ne_of_lt ge8) _, Kd.C_below HRW.out q9, blk2 HS.out.now.2.1 _ _⟩, keeps_and (keeps_blk _ _) (keeps_and (keeps_blk _ _) (keeps_and (keeps_C _ _ _ _) (keeps_blk _ _)))⟩⟩
  clear HS q9 HT
  clear c0 c1 c2 c3 c4 c5 k0 k1 f0 f1 n1 n2 z0 z1 zf0 zf1 HRW HGE
  generalize ((w3.setCell ⟨w1.heap.size, 0, none⟩ (.int .i64 a)).setCell ⟨w1.heap.size, 1, none⟩ (.int .i64 b)) = W9 at HS9 ⊢
  generalize w1.heap.size = b8 at HS9 ge8 ge9 ⊢
  have HS := HS9
  clear HS9
  have n1 := blk_lt HS.out.now.1
  have n2 := blk_lt HS.out.now.2.1
  have c0 : W9.cell? ⟨w.heap.size, 0, none⟩ = some (.bool false) := HS.out.now.1.cell 0
  have c1 : W9.cell? ⟨w.heap.size, 1, none⟩ = some (.int .i64 x0) := HS.out.now.1.cell 1
  have c2 : W9.cell? ⟨w.heap.size, 2, none⟩ = some (.int .i64 x1) := HS.out.now.1.cell 2
  have c3 : W9.cell? ⟨w.heap.size, 3, none⟩ = some (.int .i64 x2) := HS.out.now.1.cell 3
  have c4 : W9.cell? ⟨w.heap.size, 4, none⟩ = some (.int .i64 x3) := HS.out.now.1.cell 4
  have c5 : W9.cell? ⟨w.heap.size, 5, none⟩ = some (.string s) := HS.out.now.1.cell 5
  have k0 : W9.cell? ⟨w.heap.size + 1, 0, none⟩ = some (.int .i64 0) := HS.out.now.2.1.cell 0
  have f0 := HS.out.now.2.1.frozen 0
  have k1 : W9.cell? ⟨w.heap.size + 1, 1, none⟩ = some (.int .i64 0) := HS.out.now.2.1.cell 1
  have f1 := HS.out.now.2.1.frozen 1
  by_cases h2 : er = 2
  · obtain rfl : ew = 150 := by rw [hew, if_pos h2]
    subst h2
    clear hew
    go_wp2
    all_goals try (go_step3; go_wp2)
    first | rw [Exit.noGoto_ret] | skip
    refine bodyPost_ret (v := .tuple #[.agg #[.int .i64 0, .int .i64 0], .slice none 0 0, .int .i64 150]) (by simp [results, Try.results59, go_sem, *]) rfl ⟨_, rfl, Kd.R_nil _ _ _ _ _, ?_⟩
    have hS := HS.out.bel
    repeat (first | exact hS | apply below_alloc | apply pw_below_drewN | apply below_drew1 | refine Below.setCell ?_ (by simp) _)
  · obtain rfl : ew = er := by rw [hew, if_neg h2]
    have z2 : (ew == 2) = false := beq_eq_false_iff_ne.mpr h2
    clear hew h2
    go_wp2
    all_goals try (go_step3; go_wp2)
    first | rw [Exit.noGoto_ret] | skip
    refine bodyPost_ret (v := .tuple #[.agg #[.int .i64 0, .int .i64 0], .slice none 0 0, .int .i64 ew]) (by simp [results, Try.results59, go_sem, *]) rfl ⟨_, rfl, Kd.R_nil _ _ _ _ _, ?_⟩
    have hS := HS.out.bel
    repeat (first | exact hS | apply below_alloc | apply pw_below_drewN | apply below_drew1 | refine Below.setCell ?_ (by simp) _)

set_option maxRecDepth 100000 in
set_option maxHeartbeats 2000000 in
theorem change_range_no (A : Option Addr) (c : Nat) (l : List Int) (x0 x1 x2 x3 : Int) (s : ByteArray) (w : World) (hr : Kd.C (Kd.int .u8) w A l.length l) (hc : l.length ≤ c) (hB : Bytes l) (hs : l.length ≤ 1048576) (hs2 : s.size ≤ 140737488351232) (hn : A = none → c = 0) (hx1 : x1 ≤ 9223372036854775807) (hx3 : x3 ≤ 9223372036854775807) (hl : (chk l).2 = 0) (ht : (chk (bytesOf s)).2 = 0) (a b : Int) (hma : (msp l x0 x1 x2 x3).1 = a) (hmb : (msp l x0 x1 x2 x3).2.1 = b) (hme : (msp l x0 x1 x2 x3).2.2 = 0) (ha0 : 0 ≤ a) (hab : a ≤ b) (hbl : b ≤ l.length) (hlim : 8192 < (l.length : Int) - (b - a) + s.size) :
    Calls Try.prog 59 #[.slice A l.length c, .agg #[.bool false, .int .i64 x0, .int .i64 x1, .int .i64 x2, .int .i64 x3, .string s]] w fun e w' => ∃ v : Value, e = .returned (.tuple #[.agg #[.int .i64 0, .int .i64 0], v, .int .i64 5]) ∧ Kd.R (Kd.int .u8) 5 w' w.heap.size (fun _ => True) v [] ∧ Below w.heap.size w w' := by
  have HRW := Aside0.mk hr
  have hb1 := below_alloc (Below.refl _ w) (.cells #[.bool false, .int .i64 x0, .int .i64 x1, .int .i64 x2, .int .i64 x3, .string s] 29)
  have hb2 : Below (w.alloc (.cells #[.bool false, .int .i64 x0, .int .i64 x1, .int .i64 x2, .int .i64 x3, .string s] 29)).heap.size (w.alloc (.cells #[.bool false, .int .i64 x0, .int .i64 x1, .int .i64 x2, .int .i64 x3, .string s] 29)) ((w.alloc (.cells #[.bool false, .int .i64 x0, .int .i64 x1, .int .i64 x2, .int .i64 x3, .string s] 29)).alloc (.cells #[.int .i64 0, .int .i64 0] 44)) := below_alloc (Below.refl _ _) _
  have hg : IsBlk ((w.alloc (.cells #[.bool false, .int .i64 x0, .int .i64 x1, .int .i64 x2, .int .i64 x3, .string s] 29)).alloc (.cells #[.int .i64 0, .int .i64 0] 44)) (w.alloc (.cells #[.bool false, .int .i64 x0, .int .i64 x1, .int .i64 x2, .int .i64 x3, .string s] 29)).heap.size (.cells #[.int .i64 0, .int .i64 0] 44) := blk_new _ _
  rw [World.size_alloc] at hg
  have HS : Aside0 (Sta w ((w.alloc (.cells #[.bool false, .int .i64 x0, .int .i64 x1, .int .i64 x2, .int .i64 x3, .string s] 29)).alloc (.cells #[.int .i64 0, .int .i64 0] 44)) (fun W => IsBlk W w.heap.size (.cells #[.bool false, .int .i64 x0, .int .i64 x1, .int .i64 x2, .int .i64 x3, .string s] 29) ∧ IsBlk W (w.heap.size + 1) (.cells #[.int .i64 0, .int .i64 0] 44) ∧ Kd.C (Kd.int .u8) W A l.length l)) := ⟨⟨below_step hb1 hb2, ⟨IsBlk.below (blk_new w _) hb2, hg, Kd.C_below (Kd.C_below hr hb1) hb2⟩, keeps_and (keeps_blk _ _) (keeps_and (keeps_blk _ _) (keeps_C _ _ _ _))⟩⟩
  clear hb1 hb2 hg hr
  have n1 := blk_lt HS.out.now.1
  have n2 := blk_lt HS.out.now.2.1
  have c0 : ((w.alloc (.cells #[.bool false, .int .i64 x0, .int .i64 x1, .int .i64 x2, .int .i64 x3, .string s] 29)).alloc (.cells #[.int .i64 0, .int .i64 0] 44)).cell? ⟨w.heap.size, 0, none⟩ = some (.bool false) := HS.out.now.1.cell 0
  have c1 : ((w.alloc (.cells #[.bool false, .int .i64 x0, .int .i64 x1, .int .i64 x2, .int .i64 x3, .string s] 29)).alloc (.cells #[.int .i64 0, .int .i64 0] 44)).cell? ⟨w.heap.size, 1, none⟩ = some (.int .i64 x0) := HS.out.now.1.cell 1
  have c2 : ((w.alloc (.cells #[.bool false, .int .i64 x0, .int .i64 x1, .int .i64 x2, .int .i64 x3, .string s] 29)).alloc (.cells #[.int .i64 0, .int .i64 0] 44)).cell? ⟨w.heap.size, 2, none⟩ = some (.int .i64 x1) := HS.out.now.1.cell 2
  have c3 : ((w.alloc (.cells #[.bool false, .int .i64 x0, .int .i64 x1, .int .i64 x2, .int .i64 x3, .string s] 29)).alloc (.cells #[.int .i64 0, .int .i64 0] 44)).cell? ⟨w.heap.size, 3, none⟩ = some (.int .i64 x2) := HS.out.now.1.cell 3
  have c4 : ((w.alloc (.cells #[.bool false, .int .i64 x0, .int .i64 x1, .int .i64 x2, .int .i64 x3, .string s] 29)).alloc (.cells #[.int .i64 0, .int .i64 0] 44)).cell? ⟨w.heap.size, 4, none⟩ = some (.int .i64 x3) := HS.out.now.1.cell 4
  have c5 : ((w.alloc (.cells #[.bool false, .int .i64 x0, .int .i64 x1, .int .i64 x2, .int .i64 x3, .string s] 29)).alloc (.cells #[.int .i64 0, .int .i64 0] 44)).cell? ⟨w.heap.size, 5, none⟩ = some (.string s) := HS.out.now.1.cell 5
  have k0 : ((w.alloc (.cells #[.bool false, .int .i64 x0, .int .i64 x1, .int .i64 x2, .int .i64 x3, .string s] 29)).alloc (.cells #[.int .i64 0, .int .i64 0] 44)).cell? ⟨w.heap.size + 1, 0, none⟩ = some (.int .i64 0) := HS.out.now.2.1.cell 0
  have f0 := HS.out.now.2.1.frozen 0
  have k1 : ((w.alloc (.cells #[.bool false, .int .i64 x0, .int .i64 x1, .int .i64 x2, .int .i64 x3, .string s] 29)).alloc (.cells #[.int .i64 0, .int .i64 0] 44)).cell? ⟨w.heap.size + 1, 1, none⟩ = some (.int .i64 0) := HS.out.now.2.1.cell 1
  have f1 := HS.out.now.2.1.frozen 1
  have kb := fun W : World => print_bytes (P := Try.prog) 9 22 5 Try.underlying9 Try.underlying22 Try.underlying5 s W
  have HT := Aside0.mk (texts2_f l (bytesOf s) hB (bytesOf_B s) hs (by rw [bytesOf_length]; exact hs2))
  have HC := Aside0.mk hc
  have HBY := Aside0.mk hB
  clear hc hB
  have hkk := Check_f l HBY.out hs (Nat.lt_succ_self _)
  have hv := (chk_V HBY.out).1 hl
  rw [show chk l = ((chk l).1, 0) from Prod.ext rfl hl] at hkk
  rw [hl, ht, if_neg (by simp)] at HT
  have HV := Aside0.mk hv
  have HK := Aside0.mk hkk
  have HMA := Aside0.mk hma
  have HMB := Aside0.mk hmb
  have HME := Aside0.mk hme
  clear hkk hv hma hmb hme hl ht
  go_enter Try.func59, Try.ntmps59
  go_upto_region 9 with (first | (go_at_call 51; refine (edit_texts.calls _ _ _ [l, bytesOf s] _ _ (row2_Cm _ _ _ _ _ l (bytesOf s) s.size (bytesOf_length s) (HS.out.step (by repeat (first | exact Below.refl _ _ | apply below_alloc | apply pw_below_drewN | apply below_drew1 | apply bytes_step))).now.2.2 HC.out (bytes_at _ _ s _ (by simp) (by omega)) (grownCap_ge _ _ _ _) _) (Nat.le_refl _) HT.out).mono ?_; rintro e w1 ⟨rfl, hd⟩; have hb := hd.below; clear hd; have m_ := Aside0.mk (HS.out.call (by repeat (first | exact Below.refl _ _ | apply below_alloc | apply pw_below_drewN | apply below_drew1 | apply bytes_step)) hb); clear HS hb ; have HS := m_; clear m_; have n1 := blk_lt HS.out.now.1; have n2 := blk_lt HS.out.now.2.1; have c0 : w1.cell? ⟨w.heap.size, 0, none⟩ = some (.bool false) := HS.out.now.1.cell 0; have c0a := cell_alloc1 c0; have c1 : w1.cell? ⟨w.heap.size, 1, none⟩ = some (.int .i64 x0) := HS.out.now.1.cell 1; have c1a := cell_alloc1 c1; have c2 : w1.cell? ⟨w.heap.size, 2, none⟩ = some (.int .i64 x1) := HS.out.now.1.cell 2; have c2a := cell_alloc1 c2; have c3 : w1.cell? ⟨w.heap.size, 3, none⟩ = some (.int .i64 x2) := HS.out.now.1.cell 3; have c3a := cell_alloc1 c3; have c4 : w1.cell? ⟨w.heap.size, 4, none⟩ = some (.int .i64 x3) := HS.out.now.1.cell 4; have c4a := cell_alloc1 c4; have c5 : w1.cell? ⟨w.heap.size, 5, none⟩ = some (.string s) := HS.out.now.1.cell 5; have c5a := cell_alloc1 c5; have k0 : w1.cell? ⟨w.heap.size + 1, 0, none⟩ = some (.int .i64 0) := HS.out.now.2.1.cell 0; have f0 := HS.out.now.2.1.frozen 0; have k0a := cell_alloc1 k0; have f0a := froz_alloc1 k0 f0; have k1 : w1.cell? ⟨w.heap.size + 1, 1, none⟩ = some (.int .i64 0) := HS.out.now.2.1.cell 1; have f1 := HS.out.now.2.1.frozen 1; have k1a := cell_alloc1 k1; have f1a := froz_alloc1 k1 f1; have HGE := Aside0.mk n2) | (go_at_call 25; refine (MNew_ok _ A c l _ _ (HS.out.step (by repeat (first | exact Below.refl _ _ | apply below_alloc | apply pw_below_drewN | apply below_drew1 | apply bytes_step))).now.2.2 HC.out hn HK.out hs).mono ?_; rintro e w2 ⟨m, rfl, hM, hb⟩; have hbx := IsBlk.below (blk_new w1 (.cells #[.int .i64 0, .int .i64 l.length] 44)) hb; have m_ := Aside0.mk (((HS.out.call (by repeat (first | exact Below.refl _ _ | apply below_alloc | apply pw_below_drewN | apply below_drew1 | apply bytes_step)) hb).add hbx (keeps_blk _ _)).add hM (keeps_map _ _)); clear HS hb hbx hM; have HS := m_; clear m_; have n1 := blk_lt HS.out.now.2.2.1; have n2 := blk_lt HS.out.now.2.2.2.1; have c0 : w2.cell? ⟨w.heap.size, 0, none⟩ = some (.bool false) := HS.out.now.2.2.1.cell 0; have c1 : w2.cell? ⟨w.heap.size, 1, none⟩ = some (.int .i64 x0) := HS.out.now.2.2.1.cell 1; have c2 : w2.cell? ⟨w.heap.size, 2, none⟩ = some (.int .i64 x1) := HS.out.now.2.2.1.cell 2; have c3 : w2.cell? ⟨w.heap.size, 3, none⟩ = some (.int .i64 x2) := HS.out.now.2.2.1.cell 3; have c4 : w2.cell? ⟨w.heap.size, 4, none⟩ = some (.int .i64 x3) := HS.out.now.2.2.1.cell 4; have c5 : w2.cell? ⟨w.heap.size, 5, none⟩ = some (.string s) := HS.out.now.2.2.1.cell 5; have k0 : w2.cell? ⟨w.heap.size + 1, 0, none⟩ = some (.int .i64 0) := HS.out.now.2.2.2.1.cell 0; have f0 := HS.out.now.2.2.2.1.frozen 0; have k1 : w2.cell? ⟨w.heap.size + 1, 1, none⟩ = some (.int .i64 0) := HS.out.now.2.2.2.1.cell 1; have f1 := HS.out.now.2.2.2.1.frozen 1) | (go_at_call 26; refine (MSpan_is m l x0 x1 x2 x3 _ (HS.out.step (by repeat (first | exact Below.refl _ _ | apply below_alloc | apply pw_below_drewN | apply below_drew1 | apply bytes_step))).now.1 hs HBY.out HV.out hx1 hx3).mono ?_; rintro e w3 ⟨rfl, hb⟩; rw [HMA.out, HMB.out, HME.out]; have m_ := Aside0.mk (HS.out.call (by repeat (first | exact Below.refl _ _ | apply below_alloc | apply pw_below_drewN | apply below_drew1 | apply bytes_step)) hb); clear HS hb ; have HS := m_; clear m_; have n1 := blk_lt HS.out.now.2.2.1; have n2 := blk_lt HS.out.now.2.2.2.1; have c0 : w3.cell? ⟨w.heap.size, 0, none⟩ = some (.bool false) := HS.out.now.2.2.1.cell 0; have c1 : w3.cell? ⟨w.heap.size, 1, none⟩ = some (.int .i64 x0) := HS.out.now.2.2.1.cell 1; have c2 : w3.cell? ⟨w.heap.size, 2, none⟩ = some (.int .i64 x1) := HS.out.now.2.2.1.cell 2; have c3 : w3.cell? ⟨w.heap.size, 3, none⟩ = some (.int .i64 x2) := HS.out.now.2.2.1.cell 3; have c4 : w3.cell? ⟨w.heap.size, 4, none⟩ = some (.int .i64 x3) := HS.out.now.2.2.1.cell 4; have c5 : w3.cell? ⟨w.heap.size, 5, none⟩ = some (.string s) := HS.out.now.2.2.1.cell 5; have k0 : w3.cell? ⟨w.heap.size + 1, 0, none⟩ = some (.int .i64 0) := HS.out.now.2.2.2.1.cell 0; have f0 := HS.out.now.2.2.2.1.frozen 0; have k1 : w3.cell? ⟨w.heap.size + 1, 1, none⟩ = some (.int .i64 0) := HS.out.now.2.2.2.1.cell 1; have f1 := HS.out.now.2.2.2.1.frozen 1; have z0 : w3.cell? ⟨w1.heap.size, 0, none⟩ = some (.int .i64 0) := HS.out.now.2.1.cell 0; have z1 : w3.cell? ⟨w1.heap.size, 1, none⟩ = some (.int .i64 l.length) := HS.out.now.2.1.cell 1; have zf0 := HS.out.now.2.1.frozen 0; have zf1 := HS.out.now.2.1.frozen 1))
  have ge8 : w.heap.size + 1 < w1.heap.size := HGE.out
  have ge9 : w.heap.size < w1.heap.size := Nat.lt_of_succ_lt ge8
  have q9 : Below w.heap.size w ((w3.setCell ⟨w1.heap.size, 0, none⟩ (.int .i64 a)).setCell ⟨w1.heap.size, 1, none⟩ (.int .i64 b)) := (HS.out.bel.setCell (Nat.le_of_lt ge9) _).setCell (Nat.le_of_lt ge9) _
  have HS9 : Aside0 (Sta w ((w3.setCell ⟨w1.heap.size, 0, none⟩ (.int .i64 a)).setCell ⟨w1.heap.size, 1, none⟩ (.int .i64 b)) (fun W => IsBlk W w.heap.size (.cells #[.bool false, .int .i64 x0, .int .i64 x1, .int .i64 x2, .int .i64 x3, .string s] 29) ∧ IsBlk W (w.heap.size + 1) (.cells #[.int .i64 0, .int .i64 0] 44) ∧ Kd.C (Kd.int .u8) W A l.length l ∧ IsBlk W w1.heap.size (.cells #[.int .i64 a, .int .i64 b] 44 (0, 0)))) := ⟨⟨q9, ⟨(HS.out.now.2.2.1.other (Nat.ne_of_lt ge9) _).other (Nat.ne_of_lt ge9) _, (HS.out.now.2.2.2.1.other (Nat.ne_of_lt ge8) _).other (Nat.ne_of_lt ge8) _, Kd.C_below HRW.out q9, blk2 HS.out.now.2.1 _ _⟩, keeps_and (keeps_blk _ _) (keeps_and (keeps_blk _ _) (keeps_and (keeps_C _ _ _ _) (keeps_blk _ _)))⟩⟩
  clear HS q9 HT
  clear c0 c1 c2 c3 c4 c5 k0 k1 f0 f1 n1 n2 z0 z1 zf0 zf1 HRW HGE
  generalize ((w3.setCell ⟨w1.heap.size, 0, none⟩ (.int .i64 a)).setCell ⟨w1.heap.size, 1, none⟩ (.int .i64 b)) = W9 at HS9 ⊢
  generalize w1.heap.size = b8 at HS9 ge8 ge9 ⊢
  have HS := HS9
  clear HS9
  have n1 := blk_lt HS.out.now.1
  have n2 := blk_lt HS.out.now.2.1
  have c0 : W9.cell? ⟨w.heap.size, 0, none⟩ = some (.bool false) := HS.out.now.1.cell 0
  have c1 : W9.cell? ⟨w.heap.size, 1, none⟩ = some (.int .i64 x0) := HS.out.now.1.cell 1
  have c2 : W9.cell? ⟨w.heap.size, 2, none⟩ = some (.int .i64 x1) := HS.out.now.1.cell 2
  have c3 : W9.cell? ⟨w.heap.size, 3, none⟩ = some (.int .i64 x2) := HS.out.now.1.cell 3
  have c4 : W9.cell? ⟨w.heap.size, 4, none⟩ = some (.int .i64 x3) := HS.out.now.1.cell 4
  have c5 : W9.cell? ⟨w.heap.size, 5, none⟩ = some (.string s) := HS.out.now.1.cell 5
  have k0 : W9.cell? ⟨w.heap.size + 1, 0, none⟩ = some (.int .i64 0) := HS.out.now.2.1.cell 0
  have f0 := HS.out.now.2.1.frozen 0
  have k1 : W9.cell? ⟨w.heap.size + 1, 1, none⟩ = some (.int .i64 0) := HS.out.now.2.1.cell 1
  have f1 := HS.out.now.2.1.frozen 1
  have q0 : W9.cell? ⟨b8, 0, none⟩ = some (.int .i64 a) := HS.out.now.2.2.2.cell 0
  have q1 : W9.cell? ⟨b8, 1, none⟩ = some (.int .i64 b) := HS.out.now.2.2.2.cell 1
  have g9 : decide (8192 < (l.length : Int) - (b - a) + s.size) = true := decide_eq_true (by omega)
  go_wp2
  all_goals try (go_step3; go_wp2)
  first | rw [Exit.noGoto_ret] | skip
  refine bodyPost_ret (v := .tuple #[.agg #[.int .i64 0, .int .i64 0], .slice none 0 0, .int .i64 5]) (by simp [results, Try.results59, go_sem, *]) rfl ⟨_, rfl, Kd.R_nil _ _ _ _ _, ?_⟩
  have hS := HS.out.bel
  repeat (first | exact hS | apply below_alloc | apply pw_below_drewN | apply below_drew1 | refine Below.setCell ?_ (by simp) _)

set_option maxRecDepth 100000 in
set_option maxHeartbeats 2000000 in
theorem change_range_ok (A : Option Addr) (c : Nat) (l : List Int) (x0 x1 x2 x3 : Int) (s : ByteArray) (w : World) (hr : Kd.C (Kd.int .u8) w A l.length l) (hc : l.length ≤ c) (hB : Bytes l) (hs : l.length ≤ 1048576) (hs2 : s.size ≤ 140737488351232) (hn : A = none → c = 0) (hx1 : x1 ≤ 9223372036854775807) (hx3 : x3 ≤ 9223372036854775807) (hl : (chk l).2 = 0) (ht : (chk (bytesOf s)).2 = 0) (a b : Int) (hma : (msp l x0 x1 x2 x3).1 = a) (hmb : (msp l x0 x1 x2 x3).2.1 = b) (hme : (msp l x0 x1 x2 x3).2.2 = 0) (ha0 : 0 ≤ a) (hab : a ≤ b) (hbl : b ≤ l.length) (hlim : ¬ 8192 < (l.length : Int) - (b - a) + s.size) :
    Calls Try.prog 59 #[.slice A l.length c, .agg #[.bool false, .int .i64 x0, .int .i64 x1, .int .i64 x2, .int .i64 x3, .string s]] w fun e w' => ∃ v : Value, e = .returned (.tuple #[.agg #[.int .i64 a, .int .i64 b], v, .int .i64 0]) ∧ Kd.R (Kd.int .u8) 5 w' w.heap.size (fun _ => True) v (l.take a.toNat ++ bytesOf s ++ l.drop b.toNat) ∧ Below w.heap.size w w' := by
  have HRW := Aside0.mk hr
  have hb1 := below_alloc (Below.refl _ w) (.cells #[.bool false, .int .i64 x0, .int .i64 x1, .int .i64 x2, .int .i64 x3, .string s] 29)
  have hb2 : Below (w.alloc (.cells #[.bool false, .int .i64 x0, .int .i64 x1, .int .i64 x2, .int .i64 x3, .string s] 29)).heap.size (w.alloc (.cells #[.bool false, .int .i64 x0, .int .i64 x1, .int .i64 x2, .int .i64 x3, .string s] 29)) ((w.alloc (.cells #[.bool false, .int .i64 x0, .int .i64 x1, .int .i64 x2, .int .i64 x3, .string s] 29)).alloc (.cells #[.int .i64 0, .int .i64 0] 44)) := below_alloc (Below.refl _ _) _
  have hg : IsBlk ((w.alloc (.cells #[.bool false, .int .i64 x0, .int .i64 x1, .int .i64 x2, .int .i64 x3, .string s] 29)).alloc (.cells #[.int .i64 0, .int .i64 0] 44)) (w.alloc (.cells #[.bool false, .int .i64 x0, .int .i64 x1, .int .i64 x2, .int .i64 x3, .string s] 29)).heap.size (.cells #[.int .i64 0, .int .i64 0] 44) := blk_new _ _
  rw [World.size_alloc] at hg
  have HS : Aside0 (Sta w ((w.alloc (.cells #[.bool false, .int .i64 x0, .int .i64 x1, .int .i64 x2, .int .i64 x3, .string s] 29)).alloc (.cells #[.int .i64 0, .int .i64 0] 44)) (fun W => IsBlk W w.heap.size (.cells #[.bool false, .int .i64 x0, .int .i64 x1, .int .i64 x2, .int .i64 x3, .string s] 29) ∧ IsBlk W (w.heap.size + 1) (.cells #[.int .i64 0, .int .i64 0] 44) ∧ Kd.C (Kd.int .u8) W A l.length l)) := ⟨⟨below_step hb1 hb2, ⟨IsBlk.below (blk_new w _) hb2, hg, Kd.C_below (Kd.C_below hr hb1) hb2⟩, keeps_and (keeps_blk _ _) (keeps_and (keeps_blk _ _) (keeps_C _ _ _ _))⟩⟩
  clear hb1 hb2 hg hr
  have n1 := blk_lt HS.out.now.1
  have n2 := blk_lt HS.out.now.2.1
  have c0 : ((w.alloc (.cells #[.bool false, .int .i64 x0, .int .i64 x1, .int .i64 x2, .int .i64 x3, .string s] 29)).alloc (.cells #[.int .i64 0, .int .i64 0] 44)).cell? ⟨w.heap.size, 0, none⟩ = some (.bool false) := HS.out.now.1.cell 0
  have c1 : ((w.alloc (.cells #[.bool false, .int .i64 x0, .int .i64 x1, .int .i64 x2, .int .i64 x3, .string s] 29)).alloc (.cells #[.int .i64 0, .int .i64 0] 44)).cell? ⟨w.heap.size, 1, none⟩ = some (.int .i64 x0) := HS.out.now.1.cell 1
  have c2 : ((w.alloc (.cells #[.bool false, .int .i64 x0, .int .i64 x1, .int .i64 x2, .int .i64 x3, .string s] 29)).alloc (.cells #[.int .i64 0, .int .i64 0] 44)).cell? ⟨w.heap.size, 2, none⟩ = some (.int .i64 x1) := HS.out.now.1.cell 2
  have c3 : ((w.alloc (.cells #[.bool false, .int .i64 x0, .int .i64 x1, .int .i64 x2, .int .i64 x3, .string s] 29)).alloc (.cells #[.int .i64 0, .int .i64 0] 44)).cell? ⟨w.heap.size, 3, none⟩ = some (.int .i64 x2) := HS.out.now.1.cell 3
  have c4 : ((w.alloc (.cells #[.bool false, .int .i64 x0, .int .i64 x1, .int .i64 x2, .int .i64 x3, .string s] 29)).alloc (.cells #[.int .i64 0, .int .i64 0] 44)).cell? ⟨w.heap.size, 4, none⟩ = some (.int .i64 x3) := HS.out.now.1.cell 4
  have c5 : ((w.alloc (.cells #[.bool false, .int .i64 x0, .int .i64 x1, .int .i64 x2, .int .i64 x3, .string s] 29)).alloc (.cells #[.int .i64 0, .int .i64 0] 44)).cell? ⟨w.heap.size, 5, none⟩ = some (.string s) := HS.out.now.1.cell 5
  have k0 : ((w.alloc (.cells #[.bool false, .int .i64 x0, .int .i64 x1, .int .i64 x2, .int .i64 x3, .string s] 29)).alloc (.cells #[.int .i64 0, .int .i64 0] 44)).cell? ⟨w.heap.size + 1, 0, none⟩ = some (.int .i64 0) := HS.out.now.2.1.cell 0
  have f0 := HS.out.now.2.1.frozen 0
  have k1 : ((w.alloc (.cells #[.bool false, .int .i64 x0, .int .i64 x1, .int .i64 x2, .int .i64 x3, .string s] 29)).alloc (.cells #[.int .i64 0, .int .i64 0] 44)).cell? ⟨w.heap.size + 1, 1, none⟩ = some (.int .i64 0) := HS.out.now.2.1.cell 1
  have f1 := HS.out.now.2.1.frozen 1
  have kb := fun W : World => print_bytes (P := Try.prog) 9 22 5 Try.underlying9 Try.underlying22 Try.underlying5 s W
  have HT := Aside0.mk (texts2_f l (bytesOf s) hB (bytesOf_B s) hs (by rw [bytesOf_length]; exact hs2))
  have HC := Aside0.mk hc
  have HBY := Aside0.mk hB
  clear hc hB
  have hkk := Check_f l HBY.out hs (Nat.lt_succ_self _)
  have hv := (chk_V HBY.out).1 hl
  rw [show chk l = ((chk l).1, 0) from Prod.ext rfl hl] at hkk
  rw [hl, ht, if_neg (by simp)] at HT
  have HV := Aside0.mk hv
  have HK := Aside0.mk hkk
  have HMA := Aside0.mk hma
  have HMB := Aside0.mk hmb
  have HME := Aside0.mk hme
  clear hkk hv hma hmb hme hl ht
  go_enter Try.func59, Try.ntmps59
  go_upto_region 9 with (first | (go_at_call 51; refine (edit_texts.calls _ _ _ [l, bytesOf s] _ _ (row2_Cm _ _ _ _ _ l (bytesOf s) s.size (bytesOf_length s) (HS.out.step (by repeat (first | exact Below.refl _ _ | apply below_alloc | apply pw_below_drewN | apply below_drew1 | apply bytes_step))).now.2.2 HC.out (bytes_at _ _ s _ (by simp) (by omega)) (grownCap_ge _ _ _ _) _) (Nat.le_refl _) HT.out).mono ?_; rintro e w1 ⟨rfl, hd⟩; have hb := hd.below; clear hd; have m_ := Aside0.mk (HS.out.call (by repeat (first | exact Below.refl _ _ | apply below_alloc | apply pw_below_drewN | apply below_drew1 | apply bytes_step)) hb); clear HS hb ; have HS := m_; clear m_; have n1 := blk_lt HS.out.now.1; have n2 := blk_lt HS.out.now.2.1; have c0 : w1.cell? ⟨w.heap.size, 0, none⟩ = some (.bool false) := HS.out.now.1.cell 0; have c0a := cell_alloc1 c0; have c1 : w1.cell? ⟨w.heap.size, 1, none⟩ = some (.int .i64 x0) := HS.out.now.1.cell 1; have c1a := cell_alloc1 c1; have c2 : w1.cell? ⟨w.heap.size, 2, none⟩ = some (.int .i64 x1) := HS.out.now.1.cell 2; have c2a := cell_alloc1 c2; have c3 : w1.cell? ⟨w.heap.size, 3, none⟩ = some (.int .i64 x2) := HS.out.now.1.cell 3; have c3a := cell_alloc1 c3; have c4 : w1.cell? ⟨w.heap.size, 4, none⟩ = some (.int .i64 x3) := HS.out.now.1.cell 4; have c4a := cell_alloc1 c4; have c5 : w1.cell? ⟨w.heap.size, 5, none⟩ = some (.string s) := HS.out.now.1.cell 5; have c5a := cell_alloc1 c5; have k0 : w1.cell? ⟨w.heap.size + 1, 0, none⟩ = some (.int .i64 0) := HS.out.now.2.1.cell 0; have f0 := HS.out.now.2.1.frozen 0; have k0a := cell_alloc1 k0; have f0a := froz_alloc1 k0 f0; have k1 : w1.cell? ⟨w.heap.size + 1, 1, none⟩ = some (.int .i64 0) := HS.out.now.2.1.cell 1; have f1 := HS.out.now.2.1.frozen 1; have k1a := cell_alloc1 k1; have f1a := froz_alloc1 k1 f1; have HGE := Aside0.mk n2) | (go_at_call 25; refine (MNew_ok _ A c l _ _ (HS.out.step (by repeat (first | exact Below.refl _ _ | apply below_alloc | apply pw_below_drewN | apply below_drew1 | apply bytes_step))).now.2.2 HC.out hn HK.out hs).mono ?_; rintro e w2 ⟨m, rfl, hM, hb⟩; have hbx := IsBlk.below (blk_new w1 (.cells #[.int .i64 0, .int .i64 l.length] 44)) hb; have m_ := Aside0.mk (((HS.out.call (by repeat (first | exact Below.refl _ _ | apply below_alloc | apply pw_below_drewN | apply below_drew1 | apply bytes_step)) hb).add hbx (keeps_blk _ _)).add hM (keeps_map _ _)); clear HS hb hbx hM; have HS := m_; clear m_; have n1 := blk_lt HS.out.now.2.2.1; have n2 := blk_lt HS.out.now.2.2.2.1; have c0 : w2.cell? ⟨w.heap.size, 0, none⟩ = some (.bool false) := HS.out.now.2.2.1.cell 0; have c1 : w2.cell? ⟨w.heap.size, 1, none⟩ = some (.int .i64 x0) := HS.out.now.2.2.1.cell 1; have c2 : w2.cell? ⟨w.heap.size, 2, none⟩ = some (.int .i64 x1) := HS.out.now.2.2.1.cell 2; have c3 : w2.cell? ⟨w.heap.size, 3, none⟩ = some (.int .i64 x2) := HS.out.now.2.2.1.cell 3; have c4 : w2.cell? ⟨w.heap.size, 4, none⟩ = some (.int .i64 x3) := HS.out.now.2.2.1.cell 4; have c5 : w2.cell? ⟨w.heap.size, 5, none⟩ = some (.string s) := HS.out.now.2.2.1.cell 5; have k0 : w2.cell? ⟨w.heap.size + 1, 0, none⟩ = some (.int .i64 0) := HS.out.now.2.2.2.1.cell 0; have f0 := HS.out.now.2.2.2.1.frozen 0; have k1 : w2.cell? ⟨w.heap.size + 1, 1, none⟩ = some (.int .i64 0) := HS.out.now.2.2.2.1.cell 1; have f1 := HS.out.now.2.2.2.1.frozen 1) | (go_at_call 26; refine (MSpan_is m l x0 x1 x2 x3 _ (HS.out.step (by repeat (first | exact Below.refl _ _ | apply below_alloc | apply pw_below_drewN | apply below_drew1 | apply bytes_step))).now.1 hs HBY.out HV.out hx1 hx3).mono ?_; rintro e w3 ⟨rfl, hb⟩; rw [HMA.out, HMB.out, HME.out]; have m_ := Aside0.mk (HS.out.call (by repeat (first | exact Below.refl _ _ | apply below_alloc | apply pw_below_drewN | apply below_drew1 | apply bytes_step)) hb); clear HS hb ; have HS := m_; clear m_; have n1 := blk_lt HS.out.now.2.2.1; have n2 := blk_lt HS.out.now.2.2.2.1; have c0 : w3.cell? ⟨w.heap.size, 0, none⟩ = some (.bool false) := HS.out.now.2.2.1.cell 0; have c1 : w3.cell? ⟨w.heap.size, 1, none⟩ = some (.int .i64 x0) := HS.out.now.2.2.1.cell 1; have c2 : w3.cell? ⟨w.heap.size, 2, none⟩ = some (.int .i64 x1) := HS.out.now.2.2.1.cell 2; have c3 : w3.cell? ⟨w.heap.size, 3, none⟩ = some (.int .i64 x2) := HS.out.now.2.2.1.cell 3; have c4 : w3.cell? ⟨w.heap.size, 4, none⟩ = some (.int .i64 x3) := HS.out.now.2.2.1.cell 4; have c5 : w3.cell? ⟨w.heap.size, 5, none⟩ = some (.string s) := HS.out.now.2.2.1.cell 5; have k0 : w3.cell? ⟨w.heap.size + 1, 0, none⟩ = some (.int .i64 0) := HS.out.now.2.2.2.1.cell 0; have f0 := HS.out.now.2.2.2.1.frozen 0; have k1 : w3.cell? ⟨w.heap.size + 1, 1, none⟩ = some (.int .i64 0) := HS.out.now.2.2.2.1.cell 1; have f1 := HS.out.now.2.2.2.1.frozen 1; have z0 : w3.cell? ⟨w1.heap.size, 0, none⟩ = some (.int .i64 0) := HS.out.now.2.1.cell 0; have z1 : w3.cell? ⟨w1.heap.size, 1, none⟩ = some (.int .i64 l.length) := HS.out.now.2.1.cell 1; have zf0 := HS.out.now.2.1.frozen 0; have zf1 := HS.out.now.2.1.frozen 1))
  have ge8 : w.heap.size + 1 < w1.heap.size := HGE.out
  have ge9 : w.heap.size < w1.heap.size := Nat.lt_of_succ_lt ge8
  have q9 : Below w.heap.size w ((w3.setCell ⟨w1.heap.size, 0, none⟩ (.int .i64 a)).setCell ⟨w1.heap.size, 1, none⟩ (.int .i64 b)) := (HS.out.bel.setCell (Nat.le_of_lt ge9) _).setCell (Nat.le_of_lt ge9) _
  have HS9 : Aside0 (Sta w ((w3.setCell ⟨w1.heap.size, 0, none⟩ (.int .i64 a)).setCell ⟨w1.heap.size, 1, none⟩ (.int .i64 b)) (fun W => IsBlk W w.heap.size (.cells #[.bool false, .int .i64 x0, .int .i64 x1, .int .i64 x2, .int .i64 x3, .string s] 29) ∧ IsBlk W (w.heap.size + 1) (.cells #[.int .i64 0, .int .i64 0] 44) ∧ Kd.C (Kd.int .u8) W A l.length l ∧ IsBlk W w1.heap.size (.cells #[.int .i64 a, .int .i64 b] 44 (0, 0)))) := ⟨⟨q9, ⟨(HS.out.now.2.2.1.other (Nat.ne_of_lt ge9) _).other (Nat.ne_of_lt ge9) _, (HS.out.now.2.2.2.1.other (Nat.ne_of_lt ge8) _).other (Nat.ne_of_lt ge8) _, Kd.C_below HRW.out q9, blk2 HS.out.now.2.1 _ _⟩, keeps_and (keeps_blk _ _) (keeps_and (keeps_blk _ _) (keeps_and (keeps_C _ _ _ _) (keeps_blk _ _)))⟩⟩
  clear HS q9 HT
  clear c0 c1 c2 c3 c4 c5 k0 k1 f0 f1 n1 n2 z0 z1 zf0 zf1 HRW HGE
  generalize ((w3.setCell ⟨w1.heap.size, 0, none⟩ (.int .i64 a)).setCell ⟨w1.heap.size, 1, none⟩ (.int .i64 b)) = W9 at HS9 ⊢
  generalize w1.heap.size = b8 at HS9 ge8 ge9 ⊢
  have HS := HS9
  clear HS9
  have n1 := blk_lt HS.out.now.1
  have n2 := blk_lt HS.out.now.2.1
  have c0 : W9.cell? ⟨w.heap.size, 0, none⟩ = some (.bool false) := HS.out.now.1.cell 0
  have c1 : W9.cell? ⟨w.heap.size, 1, none⟩ = some (.int .i64 x0) := HS.out.now.1.cell 1
  have c2 : W9.cell? ⟨w.heap.size, 2, none⟩ = some (.int .i64 x1) := HS.out.now.1.cell 2
  have c3 : W9.cell? ⟨w.heap.size, 3, none⟩ = some (.int .i64 x2) := HS.out.now.1.cell 3
  have c4 : W9.cell? ⟨w.heap.size, 4, none⟩ = some (.int .i64 x3) := HS.out.now.1.cell 4
  have c5 : W9.cell? ⟨w.heap.size, 5, none⟩ = some (.string s) := HS.out.now.1.cell 5
  have k0 : W9.cell? ⟨w.heap.size + 1, 0, none⟩ = some (.int .i64 0) := HS.out.now.2.1.cell 0
  have f0 := HS.out.now.2.1.frozen 0
  have k1 : W9.cell? ⟨w.heap.size + 1, 1, none⟩ = some (.int .i64 0) := HS.out.now.2.1.cell 1
  have f1 := HS.out.now.2.1.frozen 1
  have q0 : W9.cell? ⟨b8, 0, none⟩ = some (.int .i64 a) := HS.out.now.2.2.2.cell 0
  have q1 : W9.cell? ⟨b8, 1, none⟩ = some (.int .i64 b) := HS.out.now.2.2.2.cell 1
  have g9 : decide (8192 < (l.length : Int) - (b - a) + s.size) = false := decide_eq_false (by omega)
  have e1 := Nat.ne_of_lt ge8
  have e2 := Ne.symm e1
  have e3 := Nat.ne_of_lt ge9
  have e4 := Ne.symm e3
  go_upto_region 16 with (fail)
  go_region_held3 (fun wx => wx.cell? ⟨b8, 0, none⟩ = some (.int .i64 a) ∧ wx.cell? ⟨b8, 1, none⟩ = some (.int .i64 b) ∧ wx.cell? ⟨w.heap.size, 5, none⟩ = some (.string s)) (go_keep) ((go_at_call 86; refine (joined_ok A c l a b s _ (HS.out.step (by repeat (first | exact Below.refl _ _ | apply below_alloc | apply pw_below_drewN | apply below_drew1 | apply bytes_step))).now.2.2.1 HC.out ha0 hab hbl (by omega)).mono ?_; rintro e w5 ⟨v, rfl, hR, hb⟩; have HRR := Aside0.mk (Kd.R_lower hR (blk_lt (HS.out.step (by repeat (first | exact Below.refl _ _ | apply below_alloc | apply pw_below_drewN | apply below_drew1 | apply bytes_step))).now.2.1)); clear hR; have m_ := Aside0.mk (HS.out.call (by repeat (first | exact Below.refl _ _ | apply below_alloc | apply pw_below_drewN | apply below_drew1 | apply bytes_step)) hb); clear HS hb ; have HS := m_; clear m_; have n1 := blk_lt HS.out.now.1; have n2 := blk_lt HS.out.now.2.1; have c0 : w5.cell? ⟨w.heap.size, 0, none⟩ = some (.bool false) := HS.out.now.1.cell 0; have c1 : w5.cell? ⟨w.heap.size, 1, none⟩ = some (.int .i64 x0) := HS.out.now.1.cell 1; have c2 : w5.cell? ⟨w.heap.size, 2, none⟩ = some (.int .i64 x1) := HS.out.now.1.cell 2; have c3 : w5.cell? ⟨w.heap.size, 3, none⟩ = some (.int .i64 x2) := HS.out.now.1.cell 3; have c4 : w5.cell? ⟨w.heap.size, 4, none⟩ = some (.int .i64 x3) := HS.out.now.1.cell 4; have c5 : w5.cell? ⟨w.heap.size, 5, none⟩ = some (.string s) := HS.out.now.1.cell 5; have k0 : w5.cell? ⟨w.heap.size + 1, 0, none⟩ = some (.int .i64 0) := HS.out.now.2.1.cell 0; have f0 := HS.out.now.2.1.frozen 0; have k1 : w5.cell? ⟨w.heap.size + 1, 1, none⟩ = some (.int .i64 0) := HS.out.now.2.1.cell 1; have f1 := HS.out.now.2.1.frozen 1; have q0 : w5.cell? ⟨b8, 0, none⟩ = some (.int .i64 a) := HS.out.now.2.2.2.cell 0; have q1 : w5.cell? ⟨b8, 1, none⟩ = some (.int .i64 b) := HS.out.now.2.2.2.cell 1))
  all_goals
    go_wp2
    first | rw [Exit.noGoto_ret] | skip
    refine bodyPost_ret (v := .tuple #[.agg #[.int .i64 a, .int .i64 b], v, .int .i64 0]) (by simp [results, Try.results59, go_sem, *]) rfl ⟨v, rfl, Kd.R_lower (r_set (r_set HRR.out (by simp) _) (by simp) _) (by omega), ?_⟩
    have hS := HS.out.bel
    repeat (first | exact hS | apply below_alloc | apply pw_below_drewN | apply below_drew1 | refine Below.setCell ?_ (by simp) _)

end Go.Proofs.Ytjebkpcekkkbkaa.B

/-
  edit: change and One, in one.
-/
namespace Go.Proofs.Ytjebkpcekkkbkaa.B
open Go.RowKit Go.Shelf Go.Proofs Go.Proofs.YtjebkpcekkkbkaaW.PrintWords Go.Proofs.YtjebkpcekkkbkaaW.PrintLast Go.Proofs.YtjebkpcekkkbkaaW.PrintMore Go.Proofs.Ytjebkpcekkkbkaa.FBase
set_option linter.unusedVariables false
set_option linter.unusedSimpArgs false

theorem change_is (A : Option Addr) (c : Nat) (l : List Int) (wh : Bool) (x0 x1 x2 x3 : Int) (s : ByteArray) (w : World) (hr : Kd.C (Kd.int .u8) w A l.length l) (hc : l.length ≤ c) (hn : A = none → c = 0) (hB : Bytes l) (hs : l.length ≤ 1048576) (hs2 : s.size ≤ 140737488351232) (hx1 : x1 ≤ 9223372036854775807) (hx3 : x3 ≤ 9223372036854775807) :
    Calls Try.prog 59 #[.slice A l.length c, .agg #[.bool wh, .int .i64 x0, .int .i64 x1, .int .i64 x2, .int .i64 x3, .string s]] w fun e w' => ∃ v : Value, e = .returned (.tuple #[.agg #[.int .i64 (ech l (bytesOf s) wh x0 x1 x2 x3).1, .int .i64 (ech l (bytesOf s) wh x0 x1 x2 x3).2.1], v, .int .i64 (ech l (bytesOf s) wh x0 x1 x2 x3).2.2.2]) ∧ Kd.R (Kd.int .u8) 5 w' w.heap.size (fun _ => True) v (ech l (bytesOf s) wh x0 x1 x2 x3).2.2.1 ∧ Below w.heap.size w w' := by
  have hT := bytesOf_B s
  have hts := bytesOf_length s
  by_cases c1 : (chk l).2 ≠ 0
  · have e1 : (ech l (bytesOf s) wh x0 x1 x2 x3) = (0, 0, [], (chk l).2) := by unfold ech; rw [if_pos c1]
    rw [e1]
    exact change_bad A c l wh x0 x1 x2 x3 s w hr hc hB hs hs2 _ (if_pos c1) c1
  · have hl : (chk l).2 = 0 := by omega
    have hv := (chk_V hB).1 hl
    by_cases c2 : (chk (bytesOf s)).2 ≠ 0
    · have e1 : (ech l (bytesOf s) wh x0 x1 x2 x3) = (0, 0, [], (chk (bytesOf s)).2) := by unfold ech; rw [if_neg c1, if_pos c2]
      rw [e1]
      exact change_bad A c l wh x0 x1 x2 x3 s w hr hc hB hs hs2 _ (if_neg c1) c2
    · have ht : (chk (bytesOf s)).2 = 0 := by omega
      have e0 : (ech l (bytesOf s) wh x0 x1 x2 x3) = if (esp l wh x0 x1 x2 x3).2.2 ≠ 0 then (0, 0, [], (esp l wh x0 x1 x2 x3).2.2)
          else if 8192 < l.length - ((esp l wh x0 x1 x2 x3).2.1 - (esp l wh x0 x1 x2 x3).1) + (bytesOf s).length then (0, 0, [], 5)
          else ((esp l wh x0 x1 x2 x3).1, (esp l wh x0 x1 x2 x3).2.1, l.take (esp l wh x0 x1 x2 x3).1.toNat ++ bytesOf s ++ l.drop (esp l wh x0 x1 x2 x3).2.1.toNat, 0) := by
        unfold ech; rw [if_neg c1, if_neg c2]
      rw [e0]
      cases wh with
      | true =>
        have e2 : esp l true x0 x1 x2 x3 = (0, (l.length : Int), 0) := rfl
        rw [e2, if_neg (by simp)]
        by_cases c3 : 8192 < s.size
        · rw [if_pos (by simp only []; omega)]
          exact change_whole_no A c l x0 x1 x2 x3 s w hr hc hB hs hs2 hl ht c3
        · rw [if_neg (by simp only []; omega)]
          exact change_whole_ok A c l x0 x1 x2 x3 s w hr hc hB hs hs2 hl ht c3 0 l.length rfl rfl
      | false =>
        obtain ⟨m1, m2, m3⟩ := esp_msp l x0 x1 x2 x3
        have hrg := esp_range hB hv false x0 x1 x2 x3
        by_cases c3 : (msp l x0 x1 x2 x3).2.2 = 0
        · rw [m2 (by omega)] at hrg ⊢
          rw [if_neg (by omega)]
          by_cases c4 : 8192 < (l.length : Int) - ((msp l x0 x1 x2 x3).2.1 - (msp l x0 x1 x2 x3).1) + s.size
          · rw [if_pos (by omega)]
            exact change_range_no A c l x0 x1 x2 x3 s w hr hc hB hs hs2 hn hx1 hx3 hl ht _ _ rfl rfl c3 hrg.1 hrg.2.1 hrg.2.2 c4
          · rw [if_neg (by omega)]
            exact change_range_ok A c l x0 x1 x2 x3 s w hr hc hB hs hs2 hn hx1 hx3 hl ht _ _ rfl rfl c3 hrg.1 hrg.2.1 hrg.2.2 c4
        · by_cases c4 : (msp l x0 x1 x2 x3).2.2 = 2
          · rw [m1 c4, if_pos (by simp)]
            exact change_span_bad A c l x0 x1 x2 x3 s w hr hc hB hs hs2 hn hx1 hx3 hl ht _ _ _ rfl rfl rfl c3 150 (by rw [if_pos c4])
          · rw [m2 c4, if_pos c3]
            exact change_span_bad A c l x0 x1 x2 x3 s w hr hc hB hs hs2 hn hx1 hx3 hl ht _ _ _ rfl rfl rfl c3 _ (by rw [if_neg c4])

set_option maxRecDepth 100000 in
set_option maxHeartbeats 1000000 in
theorem One_is (A : Option Addr) (c : Nat) (l : List Int) (wh : Bool) (x0 x1 x2 x3 : Int) (s : ByteArray) (w : World) (hr : Kd.C (Kd.int .u8) w A l.length l) (hc : l.length ≤ c) (hn : A = none → c = 0) (hB : Bytes l) (hs : l.length ≤ 1048576) (hs2 : s.size ≤ 140737488351232) (hx1 : x1 ≤ 9223372036854775807) (hx3 : x3 ≤ 9223372036854775807) :
    Calls Try.prog 23 #[.slice A l.length c, .agg #[.bool wh, .int .i64 x0, .int .i64 x1, .int .i64 x2, .int .i64 x3, .string s]] w fun e w' => ∃ v : Value, e = .returned (.tuple #[v, .int .i64 (ech l (bytesOf s) wh x0 x1 x2 x3).2.2.2]) ∧ Kd.R (Kd.int .u8) 5 w' w.heap.size (fun _ => True) v (ech l (bytesOf s) wh x0 x1 x2 x3).2.2.1 ∧ Below w.heap.size w w' := by
  have hrb : Kd.C (Kd.int .u8) (w.alloc (.cells #[.bool wh, .int .i64 x0, .int .i64 x1, .int .i64 x2, .int .i64 x3, .string s] 29)) A l.length l := Kd.C_below hr (below_alloc (Below.refl _ _) _)
  have c0 : (w.alloc (.cells #[.bool wh, .int .i64 x0, .int .i64 x1, .int .i64 x2, .int .i64 x3, .string s] 29)).cell? ⟨w.heap.size, 0, none⟩ = some (.bool wh) := (blk_cell (blk_new w _) 0).trans rfl
  have c1 : (w.alloc (.cells #[.bool wh, .int .i64 x0, .int .i64 x1, .int .i64 x2, .int .i64 x3, .string s] 29)).cell? ⟨w.heap.size, 1, none⟩ = some (.int .i64 x0) := (blk_cell (blk_new w _) 1).trans rfl
  have c2 : (w.alloc (.cells #[.bool wh, .int .i64 x0, .int .i64 x1, .int .i64 x2, .int .i64 x3, .string s] 29)).cell? ⟨w.heap.size, 2, none⟩ = some (.int .i64 x1) := (blk_cell (blk_new w _) 2).trans rfl
  have c3 : (w.alloc (.cells #[.bool wh, .int .i64 x0, .int .i64 x1, .int .i64 x2, .int .i64 x3, .string s] 29)).cell? ⟨w.heap.size, 3, none⟩ = some (.int .i64 x2) := (blk_cell (blk_new w _) 3).trans rfl
  have c4 : (w.alloc (.cells #[.bool wh, .int .i64 x0, .int .i64 x1, .int .i64 x2, .int .i64 x3, .string s] 29)).cell? ⟨w.heap.size, 4, none⟩ = some (.int .i64 x3) := (blk_cell (blk_new w _) 4).trans rfl
  have c5 : (w.alloc (.cells #[.bool wh, .int .i64 x0, .int .i64 x1, .int .i64 x2, .int .i64 x3, .string s] 29)).cell? ⟨w.heap.size, 5, none⟩ = some (.string s) := (blk_cell (blk_new w _) 5).trans rfl
  have HR := Aside0.mk hrb
  have HC := Aside0.mk hc
  have HBY := Aside0.mk hB
  obtain ⟨a, hea⟩ : ∃ a, (ech l (bytesOf s) wh x0 x1 x2 x3).1 = a := ⟨_, rfl⟩
  obtain ⟨b, heb⟩ : ∃ a, (ech l (bytesOf s) wh x0 x1 x2 x3).2.1 = a := ⟨_, rfl⟩
  obtain ⟨out, heo⟩ : ∃ a, (ech l (bytesOf s) wh x0 x1 x2 x3).2.2.1 = a := ⟨_, rfl⟩
  obtain ⟨er, hee⟩ : ∃ a, (ech l (bytesOf s) wh x0 x1 x2 x3).2.2.2 = a := ⟨_, rfl⟩
  rw [heo, hee]
  have HEA := Aside0.mk hea
  have HEB := Aside0.mk heb
  have HEO := Aside0.mk heo
  have HEE := Aside0.mk hee
  clear hr hrb hc hB hea heb heo hee
  go_enter Try.func23, Try.ntmps23
  go_wp2_with (go_at_call 59; refine (change_is A c l wh x0 x1 x2 x3 s _ HR.out HC.out hn HBY.out hs hs2 hx1 hx3).mono ?_; rintro e w1 ⟨v, rfl, hR, hb⟩; rw [HEA.out, HEB.out, HEE.out]; rw [HEO.out] at hR; have HRR := Aside0.mk hR; have HB1 := Aside0.mk hb; clear hR hb)
  go_ret2
  have hB2 : Below w.heap.size w w1 := below_step (below_alloc (Below.refl _ _) _) HB1.out
  exact ⟨_, rfl, Kd.R_below (Kd.R_lower HRR.out (by simp)) (below_alloc (Below.refl _ _) _), below_alloc hB2 _⟩
end Go.Proofs.Ytjebkpcekkkbkaa.B
