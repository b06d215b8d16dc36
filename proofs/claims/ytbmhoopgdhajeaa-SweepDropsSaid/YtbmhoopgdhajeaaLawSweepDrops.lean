/- SweepDrops returns true for every list of versions, every floor and every list of pins, and leaves its arguments as they were; no condition beyond the row's own. -/
import Derived.Test.YtbmhoopgdhajeaaRows
import Derived.Test.YtbmhoopgdhajeaaWo
import Derived.Test.YtbmhoopgdhajeaaD4
namespace Go.Proofs.Ytbmhoopgdhajeaa.sweepDrops
open Go Go.Wk Go.Proofs.Ytbmhoopgdhajeaa.W
open Go.ChangeShapes Go.WideShapes Go.ChangeAt Go.RowKit
open Go.ChangeMaps (open_string shut_string)
set_option linter.unusedVariables false
theorem own : ownKnob Try.prog.godebug = none := by kernel_rfl
theorem laidOut : laidOutB Try.prog = true := by kernel_rfl
theorem decI {H : Type} {encH : TypeId × Value → H} {w : World} {base : Nat} {spare : Nat → Bool} {held : Bool} {P : Program} {t : TypeId} (ht : P.underlying t = some (.int .i64)) : Dec encH P w base spare held t (fun cs => ∃ y : Int, cs = encI y ∧ (Lit.int .i64 y).wf = true) := Dec.int ht
theorem decB {H : Type} {encH : TypeId × Value → H} {w : World} {base : Nat} {spare : Nat → Bool} {held : Bool} {P : Program} {t : TypeId} (ht : P.underlying t = some .bool) : Dec encH P w base spare held t (fun cs => ∃ y : Bool, cs = encB y ∧ True) := fun n cs x h => let ⟨b, h⟩ := Dec.bool ht n cs x h; ⟨b, h, trivial⟩

def WfCell (x : Cell) : Prop := (Lit.int .i64 x.value).wf = true
theorem dec25 {H : Type} {encH : TypeId × Value → H} {w : World} {base : Nat} {spare : Nat → Bool} {held : Bool} : Dec encH Try.prog w base spare held 25 (fun cs => ∃ y : Cell, cs = encCell y ∧ WfCell y) := fun n cs x h => by
  obtain ⟨hl, hf⟩ := Dec.fields Try.underlying25 h
  have c0 : Try.prog.cellsOf 4 = 1 := by kernel_rfl
  obtain ⟨y0, e0⟩ := hf 0 _ _ rfl (Dec.bool Try.underlying4)
  replace e0 : (cs.drop 0).take (Try.prog.cellsOf 4) = _ := e0
  rw [c0] at e0
  have c1 : Try.prog.cellsOf 2 = 1 := by kernel_rfl
  obtain ⟨y1, e1, w1⟩ := hf 1 _ _ rfl (Dec.int Try.underlying2)
  replace e1 : (cs.drop 1).take (Try.prog.cellsOf 2) = _ := e1
  rw [c1] at e1
  have hl2 : cs.length = 2 := hl.trans (by kernel_rfl)
  obtain ⟨q0, q1, rfl⟩ : ∃ q0 q1, cs = [q0, q1] := by match cs, hl2 with | [q0, q1], _ => exact ⟨_, _, rfl⟩
  simp at e0 e1
  subst e0
  subst e1
  exact ⟨⟨y0, y1⟩, rfl, w1⟩
def WfVer (x : Ver) : Prop := (Lit.int .i64 x.batch).wf = true ∧ (Lit.int .i64 x.index).wf = true ∧ WfCell x.cell
theorem dec27 {H : Type} {encH : TypeId × Value → H} {w : World} {base : Nat} {spare : Nat → Bool} {held : Bool} : Dec encH Try.prog w base spare held 27 (fun cs => ∃ y : Ver, cs = encVer y ∧ WfVer y) := fun n cs x h => by
  obtain ⟨hl, hf⟩ := Dec.fields Try.underlying27 h
  have c0 : Try.prog.cellsOf 3 = 1 := by kernel_rfl
  obtain ⟨y0, e0, w0⟩ := hf 0 _ _ rfl (Dec.int Try.underlying3)
  replace e0 : (cs.drop 0).take (Try.prog.cellsOf 3) = _ := e0
  rw [c0] at e0
  have c1 : Try.prog.cellsOf 3 = 1 := by kernel_rfl
  obtain ⟨y1, e1, w1⟩ := hf 1 _ _ rfl (Dec.int Try.underlying3)
  replace e1 : (cs.drop 1).take (Try.prog.cellsOf 3) = _ := e1
  rw [c1] at e1
  have c2 : Try.prog.cellsOf 4 = 1 := by kernel_rfl
  obtain ⟨y2, e2⟩ := hf 2 _ _ rfl (Dec.bool Try.underlying4)
  replace e2 : (cs.drop 2).take (Try.prog.cellsOf 4) = _ := e2
  rw [c2] at e2
  have c3 : Try.prog.cellsOf 25 = 2 := by kernel_rfl
  obtain ⟨y3, e3, w3⟩ := hf 3 _ _ rfl dec25
  replace e3 : (cs.drop 3).take (Try.prog.cellsOf 25) = _ := e3
  rw [c3] at e3
  have hl2 : cs.length = 5 := hl.trans (by kernel_rfl)
  obtain ⟨q0, q1, q2, q3, q4, rfl⟩ : ∃ q0 q1 q2 q3 q4, cs = [q0, q1, q2, q3, q4] := by match cs, hl2 with | [q0, q1, q2, q3, q4], _ => exact ⟨_, _, _, _, _, rfl⟩
  simp [encCell] at e0 e1 e2 e3
  subst e0
  subst e1
  subst e2
  obtain ⟨rfl, rfl⟩ := e3
  exact ⟨⟨y0, y1, y2, y3⟩, rfl, ⟨w0, w1, w3⟩⟩

set_option maxRecDepth 100000 in
theorem lifted (os : Os) (started : os.Started) (H : Type) (enc : TypeId × Value → H) :
    ReturnsInHanded {} Try.checked os 3 .any (Rows.sweepDropsSpec.pre6 enc Try.prog Try.f3 Rows.sweepDropsRow.domain false) (Rows.sweepDropsSpec.post enc Try.prog Try.f3 false true false false) := by
  refine returnsInHanded_of_change_sized (C := Try.checked) own started (by kernel_rfl) Try.func3
    (ChangeSpec.witness6 (enc := enc) (C := Try.checked) false ⟨#[], #[.slice none 0 0, .int .i64 0, .slice none 0 0], []⟩ 8 (by kernel_rfl) (by kernel_rfl) (by kernel_rfl) (by kernel_rfl)) ?_
  intro W base args ds gs before hval0 hW hcnd hsz0 _
  have hsz : (DataW.weightsEach Try.prog (Try.f3.params.toList ++ Rows.sweepDropsSpec.plain.varTypes Try.prog) (ds ++ gs)).all (· ≤ reachBytes) = true := hsz0
  have hval : ∀ (j : Nat) t v, Try.f3.params[j]? = some t → args[j]? = some v → Value.okWide Try.prog W .any base t v := hval0
  have hW' := hW
  obtain ⟨p, q, hA0, hV, rfl, hfz, hnd⟩ := hW
  have hA : DataW.TrodAll enc Try.prog W 0 (fun _ => true) true Try.f3.params.toList args.toList ds p := hA0
  rw [Try.params3] at hA hval hsz
  obtain ⟨v0, vs0, d0, ds0, p0, q0, hargs, rfl, rfl, h0, r0⟩ := trodAll_cons hA
  obtain ⟨v1, vs1, d1, ds1, p1, q1, rfl, rfl, rfl, h1, r1⟩ := trodAll_cons r0
  obtain ⟨v2, vs2, d2, ds2, p2, q2, rfl, rfl, rfl, h2, r2⟩ := trodAll_cons r1
  obtain ⟨rfl, rfl, rfl⟩ := trodAll_nil r2
  obtain rfl : args = #[v0, v1, v2] := by cases args; simp_all
  obtain ⟨rfl, rfl⟩ := trodVars_none hV
  obtain ⟨x0, len0, cap0, rfl⟩ := okWide_slice Try.underlying22 (hval 0 22 v0 rfl rfl)
  have lt0 : ∀ x ∈ p0, x.block < W.heap.size := by obtain ⟨m, hm⟩ := h0; exact DataW.trod_lt m _ _ _ hm
  obtain ⟨v0, l0, hc0, hr0, hq0, hm0⟩ := (Dec.slice (enc := encVer) (sz := 5) (Q := fun y => WfVer y) Try.underlying22 (by kernel_rfl) (by decide) encVer_len dec27).arg h0
  have hc0' : Value.slice x0 len0 cap0 = v0 := by simpa [Value.cells] using hc0
  obtain ⟨x0', cap0', hf0, _⟩ := hr0.form
  have hl0 : len0 = l0.length := by rw [← hc0'] at hf0; cases hf0; rfl
  have hy0 : l0.length * 40 ≤ 140737488351232 := by rw [← hl0]; exact slice_fit hsz (j := 0) (t := 22) rfl rfl Try.underlying22 (by kernel_rfl) h0
  rw [← hc0'] at hr0
  obtain ⟨a1, rfl, rfl, rfl, w1⟩ := open_int Try.underlying3 (hval 1 3 v1 rfl rfl) h1
  obtain ⟨x2, len2, cap2, rfl⟩ := okWide_slice Try.underlying23 (hval 2 23 v2 rfl rfl)
  have lt2 : ∀ x ∈ p2, x.block < W.heap.size := by obtain ⟨m, hm⟩ := h2; exact DataW.trod_lt m _ _ _ hm
  obtain ⟨v2, l2, hc2, hr2, hq2, hm2⟩ := (Dec.slice (enc := encI) (sz := 1) (Q := fun y => (Lit.int .i64 y).wf = true) Try.underlying23 (by kernel_rfl) (by decide) encI_len (decI Try.underlying3)).arg h2
  have hc2' : Value.slice x2 len2 cap2 = v2 := by simpa [Value.cells] using hc2
  obtain ⟨x2', cap2', hf2, _⟩ := hr2.form
  have hl2 : len2 = l2.length := by rw [← hc2'] at hf2; cases hf2; rfl
  have hy2 : l2.length * 8 ≤ 140737488351232 := by rw [← hl2]; exact slice_fit hsz (j := 2) (t := 23) rfl rfl Try.underlying23 (by kernel_rfl) h2
  rw [← hc2'] at hr2
  clear hA0 hval0 hsz0 hsz
  refine Calls.mono (law_ret _ _ a1 _ l0 l2 W hy0 hy2 hr0 hr2 (fun b h => h)) fun e W' ⟨v, he, hv, hk⟩ => ?_
  subst he hv
  have bel := hk.below (Nat.le_refl _) (fun b h => h.elim)
  exact ⟨_, rfl, _, _, _, [], _, [], hW', trodAll_mk1 (shut_bool Try.underlying4 _), (trodAll_cons_mk (Below.trod laidOut (by kernel_rfl) (of_decide_eq_true (by kernel_rfl)) h0 bel lt0) (trodAll_cons_mk (shut_int Try.underlying3 w1) (trodAll_cons_mk (Below.trod laidOut (by kernel_rfl) (of_decide_eq_true (by kernel_rfl)) h2 bel lt2) trodAll_mk0))), rfl, bel.frame _, fun h => by cases h⟩
theorem over : Rows.sweepDropsRow.holds Try.pinned (OpenSpec.ofChange Rows.sweepDropsSpec) :=
  OpenClaim.holds_of_wide 3 Try.f3 rfl rfl rfl rfl rfl rfl rfl ⟨rfl, rfl, rfl, rfl, rfl⟩ rfl rfl rfl rfl rfl (by kernel_rfl) Try.func3 (by kernel_rfl)
    (of_decide_eq_true (by kernel_rfl)) (by unfold Func.isWrapper; first | (rw [if_pos (by decide +kernel)]; kernel_rfl) | (rw [if_neg (by decide +kernel)]; exact ⟨rfl, rfl⟩))
    (fun os started H enc _ => lifted os started H enc)
theorem proved : Rows.SweepDropsSaid := over
end Go.Proofs.Ytbmhoopgdhajeaa.sweepDrops
namespace Go.Proofs.Ytbmhoopgdhajeaa
/-- The row, under a short name, for the claim. -/
theorem sweepDrops_holds : Rows.SweepDropsSaid := sweepDrops.proved
end Go.Proofs.Ytbmhoopgdhajeaa
