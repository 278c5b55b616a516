/-
  The statements of lines: their helpers 'spans' and 'works', walked.
-/
import Derived.Test.YtogfaahdbecdnaaP0
namespace Go.Proofs.Ytogfaahdbecdnaa.B
open Go.RowKit Go.Proofs.YtogfaahdbecdnaaW.PrintWords Go.Proofs.YtogfaahdbecdnaaW.PrintLast Go.Proofs.YtogfaahdbecdnaaW.PrintMore Go.Proofs.Ytogfaahdbecdnaa.FBase
set_option linter.unusedVariables false

/-- A literal of bytes, in a block of its own. -/
theorem lit_bytes (W : World) (l : List Int) (cs : Array Value) (t : TypeId) (hcs : cs.toList = l.map (Value.int .u8)) (hn : l.length ≤ 9223372036854775807) : Kd.C (Kd.int .u8) (W.alloc (.cells cs t)) (some ⟨W.heap.size, 0, none⟩) l.length l := by
  refine Kd.C_of_reads (d := 0) ⟨rfl, hn, fun _ => ⟨_, rfl, fun j hj => ?_⟩⟩
  rw [show (⟨W.heap.size, 0, none⟩ : Addr).add j = ⟨W.heap.size, j, none⟩ by simp [Addr.add]; omega, blk_cell (blk_new W _) j, ← Array.getElem?_toList, hcs]
  simp [List.getD, hj]

set_option maxHeartbeats 1000000 in
/-- spans: of the line that it names. -/
theorem spans_ok (a : Nat) (L : List Ln) (i x0 x1 x2 : Int) (w : World) (hI : IsIdx w a L) (h0 : 0 ≤ i) (h1 : i < L.length) (hs : L.length ≤ 2097152) (hx : rdLn L i = ⟨x0, x1, x2⟩) :
    Calls Try.prog 33 #[.pointer (some ⟨a, 0, none⟩), .int .i64 i, .int .i64 x0, .int .i64 x1, .int .i64 x2] w fun e w' => e = .returned (.bool true) ∧ Below w.heap.size w w' := by
  have hl := Line_ok a L i w hI h0 h1 hs
  rw [hx] at hl
  have HL := Aside0.mk hl
  clear hl hx hI
  go_enter Try.func33, Try.ntmps33
  go_wp2_with (go_at_call 27; refine HL.out.mono ?_; rintro e w' ⟨rfl, hb⟩; have HB := Aside0.mk hb; clear hb)
  go_ret
  refine ⟨rfl, ?_⟩
  repeat (first | exact HB.out | apply below_alloc | apply pw_below_drewN | apply below_drew1)

theorem works_chk : runes_Check.f 30 [97, 10, 98, 13, 10, 13, 99] = some (7, 0) := by decide +kernel
theorem works_lns : lns [97, 10, 98, 13, 10, 13, 99] 0 0 = [⟨0, 1, 2⟩, ⟨2, 3, 5⟩, ⟨5, 5, 6⟩, ⟨6, 7, 7⟩] := by simp [lns]
theorem works_find : FindAt [⟨0, 1, 2⟩, ⟨2, 3, 5⟩, ⟨5, 5, 6⟩, ⟨6, 7, 7⟩] 4 1 := by
  refine ⟨by decide, fun t ht => ?_, fun _ => by decide⟩
  obtain rfl : t = 0 := by omega
  decide

set_option maxHeartbeats 2000000 in
/-- works. -/
theorem works_ok (w : World) : Calls Try.prog 24 #[] w fun e w' => e = .returned (.bool true) ∧ Below w.heap.size w w' := by
  have HB0 := Aside0.mk (Below.refl w.heap.size w)
  go_enter Try.func24, Try.ntmps24
  have hc4 : Chain [⟨0, 1, 2⟩, ⟨2, 3, 5⟩, ⟨5, 5, 6⟩, ⟨6, 7, 7⟩] 0 7 := by simp [Chain]
  have HCH := Aside0.mk hc4
  have HF := Aside0.mk works_find
  clear hc4
  have t0 := True.intro
  have t1 := True.intro
  have t2 := True.intro
  have t3 := True.intro
  go_wp2_with (first | (go_at_call 21; refine (New_ok 30 (some ⟨w.heap.size, 0, none⟩) 7 [97, 10, 98, 13, 10, 13, 99] 7 _ (lit_bytes w _ _ _ rfl (by decide)) (by decide) works_chk (by decide)).mono ?_; rintro e w1 ⟨a, rfl, hle, hI, hb⟩; rw [works_lns] at hI; have HI := Aside0.mk hI; have HB := Aside0.mk (below_step (below_alloc (Below.refl _ _) _) hb); clear hI hb) | (go_at_call 26; refine (Count_ok a _ _ (by repeat (first | exact HI.out | apply IsIdx.alloc | apply IsIdx.drewN)) (by decide) (by decide)).mono ?_; rintro e w' ⟨rfl, hb⟩; have n_ := Aside0.mk (IsIdx.below (by repeat (first | exact HI.out | apply IsIdx.alloc | apply IsIdx.drewN)) hb); have m_ := Aside0.mk (below_step (by repeat (first | exact HB.out | apply below_alloc | apply pw_below_drewN | apply below_drew1)) hb); clear HI HB; have HI := n_; have HB := m_; clear n_ m_ hb) | (go_at_call 31; refine (Find_is a _ 0 7 4 1 _ (by repeat (first | exact HI.out | apply IsIdx.alloc | apply IsIdx.drewN)) HCH.out (by decide) (by decide) (by decide) HF.out).mono ?_; rintro e w' ⟨rfl, hb⟩; have n_ := Aside0.mk (IsIdx.below (by repeat (first | exact HI.out | apply IsIdx.alloc | apply IsIdx.drewN)) hb); have m_ := Aside0.mk (below_step (by repeat (first | exact HB.out | apply below_alloc | apply pw_below_drewN | apply below_drew1)) hb); clear HI HB; have HI := n_; have HB := m_; clear n_ m_ hb) | (have _t := t0; go_at_call 33; refine (spans_ok a _ 0 0 1 2 _ (by repeat (first | exact HI.out | apply IsIdx.alloc | apply IsIdx.drewN)) (by decide) (by decide) (by decide) rfl).mono ?_; rintro e w' ⟨rfl, hb⟩; clear t0 _t; have n_ := Aside0.mk (IsIdx.below (by repeat (first | exact HI.out | apply IsIdx.alloc | apply IsIdx.drewN)) hb); have m_ := Aside0.mk (below_step (by repeat (first | exact HB.out | apply below_alloc | apply pw_below_drewN | apply below_drew1)) hb); clear HI HB; have HI := n_; have HB := m_; clear n_ m_ hb) | (have _t := t1; go_at_call 33; refine (spans_ok a _ 1 2 3 5 _ (by repeat (first | exact HI.out | apply IsIdx.alloc | apply IsIdx.drewN)) (by decide) (by decide) (by decide) rfl).mono ?_; rintro e w' ⟨rfl, hb⟩; clear t1 _t; have n_ := Aside0.mk (IsIdx.below (by repeat (first | exact HI.out | apply IsIdx.alloc | apply IsIdx.drewN)) hb); have m_ := Aside0.mk (below_step (by repeat (first | exact HB.out | apply below_alloc | apply pw_below_drewN | apply below_drew1)) hb); clear HI HB; have HI := n_; have HB := m_; clear n_ m_ hb) | (have _t := t2; go_at_call 33; refine (spans_ok a _ 2 5 5 6 _ (by repeat (first | exact HI.out | apply IsIdx.alloc | apply IsIdx.drewN)) (by decide) (by decide) (by decide) rfl).mono ?_; rintro e w' ⟨rfl, hb⟩; clear t2 _t; have n_ := Aside0.mk (IsIdx.below (by repeat (first | exact HI.out | apply IsIdx.alloc | apply IsIdx.drewN)) hb); have m_ := Aside0.mk (below_step (by repeat (first | exact HB.out | apply below_alloc | apply pw_below_drewN | apply below_drew1)) hb); clear HI HB; have HI := n_; have HB := m_; clear n_ m_ hb) | (have _t := t3; go_at_call 33; refine (spans_ok a _ 3 6 7 7 _ (by repeat (first | exact HI.out | apply IsIdx.alloc | apply IsIdx.drewN)) (by decide) (by decide) (by decide) rfl).mono ?_; rintro e w' ⟨rfl, hb⟩; clear t3 _t; have n_ := Aside0.mk (IsIdx.below (by repeat (first | exact HI.out | apply IsIdx.alloc | apply IsIdx.drewN)) hb); have m_ := Aside0.mk (below_step (by repeat (first | exact HB.out | apply below_alloc | apply pw_below_drewN | apply below_drew1)) hb); clear HI HB; have HI := n_; have HB := m_; clear n_ m_ hb))
  go_ret
  refine ⟨rfl, ?_⟩
  repeat (first | exact HB.out | apply below_alloc | apply pw_below_drewN | apply below_drew1)
end Go.Proofs.Ytogfaahdbecdnaa.B
