/- ExecMakes returns true for every shape and every library, and leaves its arguments as they were. -/
import Derived.Test.YtphllgfbjfajfaaRows
import Derived.Test.YtphllgfbjfajfaaWo
import Derived.Test.YtphllgfbjfajfaaM3
namespace Go.Proofs.Ytphllgfbjfajfaa.execMakes
open Go Go.Wk Go.Proofs.Ytphllgfbjfajfaa.W
open Go.ChangeShapes Go.WideShapes Go.ChangeAt Go.RowKit
open Go.ChangeMaps (open_string shut_string)
set_option linter.unusedVariables false
set_option maxRecDepth 100000
theorem own : ownKnob Try.prog.godebug = none := by kernel_rfl
theorem laidOut : laidOutB Try.prog = true := by kernel_rfl
abbrev LEN : Nat → Prop := fun _ => True
theorem decI {P : Program} {t : TypeId} {H : Type} {B : DataW H → Prop} {encH : TypeId × Value → H} {w : World} {base : Nat} {spare : Nat → Bool} {held : Bool} (ht : P.underlying t = some (.int .i64)) : Dec B encH P w base spare held t (fun cs => ∃ y : Int, cs = W.encI y ∧ (Lit.int .i64 y).wf = true) := Dec.int ht
theorem decB {P : Program} {t : TypeId} {H : Type} {B : DataW H → Prop} {encH : TypeId × Value → H} {w : World} {base : Nat} {spare : Nat → Bool} {held : Bool} (ht : P.underlying t = some .bool) : Dec B encH P w base spare held t (fun cs => ∃ y : Bool, cs = W.encB y ∧ True) := fun n cs x h hB hW => let ⟨b, h⟩ := Dec.bool ht n cs x h hB hW; ⟨b, h, trivial⟩

def WfShpR (x : ShpR) : Prop := (Lit.int .i64 x.parts).wf = true ∧ (Lit.int .i64 x.cap).wf = true ∧ (Lit.int .i64 x.workers).wf = true ∧ (Lit.int .i64 x.ahead).wf = true ∧ (Lit.int .i64 x.hands).wf = true
theorem dec23 {H : Type} {B : DataW H → Prop} {encH : TypeId × Value → H} {w : World} {base : Nat} {spare : Nat → Bool} {held : Bool} (her : Her B LEN) : Dec B encH Try.prog w base spare held 23 (fun cs => ∃ y : ShpR, cs = encShp y ∧ WfShpR y) := fun n cs x h hB hW => by
  obtain ⟨hl, hf⟩ := Dec.fields her Try.underlying23 h hB hW
  have c0 : Try.prog.cellsOf 3 = 1 := by kernel_rfl
  obtain ⟨y0, e0, w0⟩ := hf 0 _ _ rfl (Dec.int Try.underlying3)
  replace e0 : (cs.drop 0).take (Try.prog.cellsOf 3) = _ := e0
  rw [c0] at e0
  have c1 : Try.prog.cellsOf 3 = 1 := by kernel_rfl
  obtain ⟨y1, e1, w1⟩ := hf 1 _ _ rfl (Dec.int Try.underlying3)
  replace e1 : (cs.drop 1).take (Try.prog.cellsOf 3) = _ := e1
  rw [c1] at e1
  have c2 : Try.prog.cellsOf 3 = 1 := by kernel_rfl
  obtain ⟨y2, e2, w2⟩ := hf 2 _ _ rfl (Dec.int Try.underlying3)
  replace e2 : (cs.drop 2).take (Try.prog.cellsOf 3) = _ := e2
  rw [c2] at e2
  have c3 : Try.prog.cellsOf 3 = 1 := by kernel_rfl
  obtain ⟨y3, e3, w3⟩ := hf 3 _ _ rfl (Dec.int Try.underlying3)
  replace e3 : (cs.drop 3).take (Try.prog.cellsOf 3) = _ := e3
  rw [c3] at e3
  have c4 : Try.prog.cellsOf 3 = 1 := by kernel_rfl
  obtain ⟨y4, e4, w4⟩ := hf 4 _ _ rfl (Dec.int Try.underlying3)
  replace e4 : (cs.drop 4).take (Try.prog.cellsOf 3) = _ := e4
  rw [c4] at e4
  have hl2 : cs.length = 5 := hl.trans (by kernel_rfl)
  obtain ⟨q0, q1, q2, q3, q4, rfl⟩ : ∃ q0 q1 q2 q3 q4, cs = [q0, q1, q2, q3, q4] := by match cs, hl2 with | [q0, q1, q2, q3, q4], _ => exact ⟨_, _, _, _, _, rfl⟩
  simp at e0 e1 e2 e3 e4
  subst e0
  subst e1
  subst e2
  subst e3
  subst e4
  exact ⟨⟨y0, y1, y2, y3, y4⟩, rfl, ⟨w0, w1, w2, w3, w4⟩⟩
def WfInsR (x : InsR) : Prop := (Lit.int .i64 x.op).wf = true ∧ (Lit.int .i64 x.a).wf = true
theorem dec87 {H : Type} {B : DataW H → Prop} {encH : TypeId × Value → H} {w : World} {base : Nat} {spare : Nat → Bool} {held : Bool} (her : Her B LEN) : Dec B encH Try.prog w base spare held 87 (fun cs => ∃ y : InsR, cs = encIns y ∧ WfInsR y) := fun n cs x h hB hW => by
  obtain ⟨hl, hf⟩ := Dec.fields her Try.underlying87 h hB hW
  have c0 : Try.prog.cellsOf 3 = 1 := by kernel_rfl
  obtain ⟨y0, e0, w0⟩ := hf 0 _ _ rfl (Dec.int Try.underlying3)
  replace e0 : (cs.drop 0).take (Try.prog.cellsOf 3) = _ := e0
  rw [c0] at e0
  have c1 : Try.prog.cellsOf 2 = 1 := by kernel_rfl
  obtain ⟨y1, e1, w1⟩ := hf 1 _ _ rfl (Dec.int Try.underlying2)
  replace e1 : (cs.drop 1).take (Try.prog.cellsOf 2) = _ := e1
  rw [c1] at e1
  have hl2 : cs.length = 2 := hl.trans (by kernel_rfl)
  obtain ⟨q0, q1, rfl⟩ : ∃ q0 q1, cs = [q0, q1] := by match cs, hl2 with | [q0, q1], _ => exact ⟨_, _, rfl⟩
  simp at e0 e1
  subst e0
  subst e1
  exact ⟨⟨y0, y1⟩, rfl, ⟨w0, w1⟩⟩
def WfProgR (w : World) (x : ProgR) : Prop := (Lit.int .i64 x.args).wf = true ∧ (Lit.int .i64 x.reads).wf = true ∧ (Lit.int .i64 x.writes).wf = true ∧ (Lit.int .i64 x.locals).wf = true ∧ (Rd encIns 2 w (fun b => b < w.heap.size) (.slice x.code.a x.code.n x.code.c) x.cl ∧ (∀ y ∈ x.cl, WfInsR y) ∧ x.cl.length ≤ maxLen ∧ LEN x.cl.length ∧ x.cl.length * 16 ≤ 140737488351232)
theorem dec32 {H : Type} {B : DataW H → Prop} {encH : TypeId × Value → H} {w : World} {base : Nat} {spare : Nat → Bool} {held : Bool} (her : Her B LEN) : Dec B encH Try.prog w base spare held 32 (fun cs => ∃ y : ProgR, cs = encProg y ∧ WfProgR w y) := fun n cs x h hB hW => by
  obtain ⟨hl, hf⟩ := Dec.fields her Try.underlying32 h hB hW
  have c0 : Try.prog.cellsOf 3 = 1 := by kernel_rfl
  obtain ⟨y0, e0, w0⟩ := hf 0 _ _ rfl (Dec.int Try.underlying3)
  replace e0 : (cs.drop 0).take (Try.prog.cellsOf 3) = _ := e0
  rw [c0] at e0
  have c1 : Try.prog.cellsOf 3 = 1 := by kernel_rfl
  obtain ⟨y1, e1, w1⟩ := hf 1 _ _ rfl (Dec.int Try.underlying3)
  replace e1 : (cs.drop 1).take (Try.prog.cellsOf 3) = _ := e1
  rw [c1] at e1
  have c2 : Try.prog.cellsOf 3 = 1 := by kernel_rfl
  obtain ⟨y2, e2, w2⟩ := hf 2 _ _ rfl (Dec.int Try.underlying3)
  replace e2 : (cs.drop 2).take (Try.prog.cellsOf 3) = _ := e2
  rw [c2] at e2
  have c3 : Try.prog.cellsOf 3 = 1 := by kernel_rfl
  obtain ⟨y3, e3, w3⟩ := hf 3 _ _ rfl (Dec.int Try.underlying3)
  replace e3 : (cs.drop 3).take (Try.prog.cellsOf 3) = _ := e3
  rw [c3] at e3
  have c4 : Try.prog.cellsOf 30 = 1 := by kernel_rfl
  obtain ⟨v4, y4, e4, w4⟩ := hf 4 _ _ rfl (Dec.slice her (enc := encIns) (sz := 2) (Q := fun y => WfInsR y) Try.underlying30 (by kernel_rfl) (by decide) encIns_len (bytes := 16) (by kernel_rfl) (dec87 her))
  obtain ⟨av4, cv4, hv4, _⟩ := w4.1.form
  subst hv4
  replace e4 : (cs.drop 4).take (Try.prog.cellsOf 30) = _ := e4
  rw [c4] at e4
  have hl2 : cs.length = 5 := hl.trans (by kernel_rfl)
  obtain ⟨q0, q1, q2, q3, q4, rfl⟩ : ∃ q0 q1 q2 q3 q4, cs = [q0, q1, q2, q3, q4] := by match cs, hl2 with | [q0, q1, q2, q3, q4], _ => exact ⟨_, _, _, _, _, rfl⟩
  simp at e0 e1 e2 e3 e4
  subst e0
  subst e1
  subst e2
  subst e3
  subst e4
  exact ⟨⟨y0, y1, y2, y3, ⟨av4, y4.length, cv4⟩, y4⟩, rfl, ⟨w0, w1, w2, w3, w4⟩⟩
def WfProcR (w : World) (x : ProcR) : Prop := (x.name.size ≤ maxLen ∧ x.name.size ≤ 140737488351232) ∧ WfProgR w x.prog
theorem dec34 {H : Type} {B : DataW H → Prop} {encH : TypeId × Value → H} {w : World} {base : Nat} {spare : Nat → Bool} {held : Bool} (her : Her B LEN) : Dec B encH Try.prog w base spare held 34 (fun cs => ∃ y : ProcR, cs = encProc y ∧ WfProcR w y) := fun n cs x h hB hW => by
  obtain ⟨hl, hf⟩ := Dec.fields her Try.underlying34 h hB hW
  have c0 : Try.prog.cellsOf 9 = 1 := by kernel_rfl
  obtain ⟨y0, e0, w0⟩ := hf 0 _ _ rfl (Dec.string Try.underlying9)
  replace e0 : (cs.drop 0).take (Try.prog.cellsOf 9) = _ := e0
  rw [c0] at e0
  have c1 : Try.prog.cellsOf 32 = 5 := by kernel_rfl
  obtain ⟨y1, e1, w1⟩ := hf 1 _ _ rfl (dec32 her)
  replace e1 : (cs.drop 1).take (Try.prog.cellsOf 32) = _ := e1
  rw [c1] at e1
  have hl2 : cs.length = 6 := hl.trans (by kernel_rfl)
  obtain ⟨q0, q1, q2, q3, q4, q5, rfl⟩ : ∃ q0 q1 q2 q3 q4 q5, cs = [q0, q1, q2, q3, q4, q5] := by match cs, hl2 with | [q0, q1, q2, q3, q4, q5], _ => exact ⟨_, _, _, _, _, _, rfl⟩
  simp [encProg] at e0 e1
  subst e0
  obtain ⟨rfl, rfl, rfl, rfl, rfl⟩ := e1
  exact ⟨⟨y0, y1⟩, rfl, ⟨w0, w1⟩⟩

theorem her {H : Type} : Her (fun _ : DataW H => True) LEN := ⟨fun _ _ _ _ => trivial, fun _ _ _ => ⟨fun _ _ => trivial, trivial⟩, trivial⟩
set_option maxRecDepth 100000 in
theorem lifted (os : Os) (started : os.Started) (H : Type) (enc : TypeId × Value → H) :
    ReturnsInHanded {} Try.checked os 3 .any (Rows.execMakesSpec.pre6 enc Try.prog Try.f3 Rows.execMakesRow.domain false) (Rows.execMakesSpec.post enc Try.prog Try.f3 false true false false) := by
  refine returnsInHanded_of_change_sized (C := Try.checked) own started (by kernel_rfl) Try.func3
    (ChangeSpec.witness6 (enc := enc) (C := Try.checked) false ⟨#[], #[.agg #[.int .i64 0, .int .i64 0, .int .i64 0, .int .i64 0, .int .i64 0], .slice none 0 0], []⟩ 8 (by kernel_rfl) (by kernel_rfl) (by kernel_rfl) (by kernel_rfl)) ?_
  intro W base args ds gs before hval0 hW hcnd hsz0 _
  have hsz : (DataW.weightsEach Try.prog (Try.f3.params.toList ++ Rows.execMakesSpec.plain.varTypes Try.prog) (ds ++ gs)).all (· ≤ reachBytes) = true := hsz0
  have hval : ∀ (j : Nat) t v, Try.f3.params[j]? = some t → args[j]? = some v → Value.okWide Try.prog W .any base t v := hval0
  have hW' := hW
  obtain ⟨p, q, hA0, hV, rfl, hfz, hnd⟩ := hW
  have hA : DataW.TrodAll enc Try.prog W 0 (fun _ => true) true Try.f3.params.toList args.toList ds p := hA0
  rw [Try.params3] at hA hval hsz
  obtain ⟨v0, vs0, d0, ds0, p0, q0, hargs, rfl, rfl, h0, r0⟩ := trodAll_cons hA
  obtain ⟨v1, vs1, d1, ds1, p1, q1, rfl, rfl, rfl, h1, r1⟩ := trodAll_cons r0
  obtain ⟨rfl, rfl, rfl⟩ := trodAll_nil r1
  obtain rfl : args = #[v0, v1] := by cases args; simp_all
  obtain ⟨rfl, rfl⟩ := trodVars_none hV
  have lt0 : ∀ x ∈ p0, x.block < W.heap.size := by obtain ⟨m, hm⟩ := h0; exact DataW.trod_lt m _ _ _ hm
  obtain ⟨cs0, rfl, _⟩ := okWide_struct Try.underlying23 (hval 0 23 v0 rfl rfl)
  obtain ⟨a0, hc0, w0⟩ := (dec23 her).arg h0 trivial (wt_each hsz (j := 0) (t := 23) rfl rfl)
  obtain rfl : cs0 = (encShp a0).toArray := by apply Array.ext'; simpa [Value.cells] using hc0
  have lt1 : ∀ x ∈ p1, x.block < W.heap.size := by obtain ⟨m, hm⟩ := h1; exact DataW.trod_lt m _ _ _ hm
  obtain ⟨x1, len1, cap1, rfl⟩ := okWide_slice Try.underlying24 (hval 1 24 v1 rfl rfl)
  obtain ⟨v1, l1, hc1, hr1, hq1, hm1, hb1⟩ := (Dec.slice her (enc := encProc) (sz := 6) (Q := fun y => WfProcR W y) Try.underlying24 (by kernel_rfl) (by decide) encProc_len (bytes := 72) (by kernel_rfl) (dec34 her)).arg h1 trivial (wt_each hsz (j := 1) (t := 24) rfl rfl)
  have hc1' : Value.slice x1 len1 cap1 = v1 := by simpa [Value.cells] using hc1
  obtain ⟨x1', cap1', hf1, _⟩ := hr1.form
  have hl1 : len1 = l1.length := by rw [← hc1'] at hf1; cases hf1; rfl
  have hy1 : l1.length * 72 ≤ 140737488351232 := by rw [← hl1]; exact slice_fit hsz (j := 1) (t := 24) rfl rfl Try.underlying24 (by kernel_rfl) h1
  rw [← hc1'] at hr1
  clear hA0 hval0 hsz0 hsz
  refine Calls.mono (Tr.top (makes_tr a0.parts a0.cap a0.workers a0.ahead a0.hands x1 len1 cap1 l1 (by omega) (fun y hy => by have h1 := hq1 y hy; exact ⟨h1.1.2, by rw [(rd_len (rdH_of h1.2.2.2.2.2.1)).1]; have := h1.2.2.2.2.2.2.2.2.2; omega⟩)) (getH_cons (rdH_of hr1) (getH_cons (shH_map fun y hy => rdH_of (hq1 y hy).2.2.2.2.2.1) getH_nil))) fun e W' ⟨v, he, hv, hk⟩ => ?_
  subst he hv
  have bel := hk.below (Nat.le_refl _) (fun b h => h.elim)
  exact ⟨_, rfl, _, _, _, [], _, [], hW', trodAll_mk1 (shut_bool Try.underlying4 _), (trodAll_cons_mk (Below.trod laidOut (by kernel_rfl) (of_decide_eq_true (by kernel_rfl)) h0 bel lt0) (trodAll_cons_mk (Below.trod laidOut (by kernel_rfl) (of_decide_eq_true (by kernel_rfl)) h1 bel lt1) trodAll_mk0)), rfl, bel.frame _, fun h => by cases h⟩
theorem over : Rows.execMakesRow.holds Try.pinned (OpenSpec.ofChange Rows.execMakesSpec) :=
  OpenClaim.holds_of_wide 3 Try.f3 rfl rfl rfl rfl rfl rfl rfl ⟨rfl, rfl, rfl, rfl, rfl⟩ rfl rfl rfl rfl rfl (by kernel_rfl) Try.func3 (by kernel_rfl)
    (of_decide_eq_true (by kernel_rfl)) (by unfold Func.isWrapper; first | (rw [if_pos (by decide +kernel)]; kernel_rfl) | (rw [if_neg (by decide +kernel)]; exact ⟨rfl, rfl⟩))
    (fun os started H enc _ => lifted os started H enc)
theorem proved : Rows.ExecMakesSaid := over
end Go.Proofs.Ytphllgfbjfajfaa.execMakes
namespace Go.Proofs.Ytphllgfbjfajfaa
/-- The row, under a short name, for the claim. -/
theorem execMakes_holds : Rows.ExecMakesSaid := execMakes.proved
end Go.Proofs.Ytphllgfbjfajfaa
