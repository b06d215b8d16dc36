/- DictPlays returns true for every two numbers of parts and every list of calls; its arguments stay as they were. -/
import Derived.Test.YtenhbogebfdjjaaRows
import Derived.Test.YtenhbogebfdjjaaWo
import Derived.Test.YtenhbogebfdjjaaL4
namespace Go.Proofs.Ytenhbogebfdjjaa.dictPlays
open Go Go.Wk Go.Proofs.Ytenhbogebfdjjaa.W
open Go.ChangeShapes Go.WideShapes Go.ChangeAt Go.RowKit
open Go.ChangeMaps (open_string shut_string)
set_option linter.unusedVariables false
theorem own : ownKnob Try.prog.godebug = none := by kernel_rfl
theorem laidOut : laidOutB Try.prog = true := by kernel_rfl
abbrev LEN : Nat → Prop := fun _ => True
theorem decI {P : Program} {t : TypeId} {H : Type} {B : DataW H → Prop} {encH : TypeId × Value → H} {w : World} {base : Nat} {spare : Nat → Bool} {held : Bool} (ht : P.underlying t = some (.int .i64)) : Dec B encH P w base spare held t (fun cs => ∃ y : Int, cs = W.encI y ∧ (Lit.int .i64 y).wf = true) := Dec.int ht
theorem decB {P : Program} {t : TypeId} {H : Type} {B : DataW H → Prop} {encH : TypeId × Value → H} {w : World} {base : Nat} {spare : Nat → Bool} {held : Bool} (ht : P.underlying t = some .bool) : Dec B encH P w base spare held t (fun cs => ∃ y : Bool, cs = W.encB y ∧ True) := fun n cs x h hB => let ⟨b, h⟩ := Dec.bool ht n cs x h hB; ⟨b, h, trivial⟩

def WfKey (x : Key) : Prop := (Lit.int .i64 x.table).wf = true ∧ (Lit.int .i64 x.row).wf = true
theorem dec28 {H : Type} {B : DataW H → Prop} {encH : TypeId × Value → H} {w : World} {base : Nat} {spare : Nat → Bool} {held : Bool} (her : Her B LEN) : Dec B encH Try.prog w base spare held 28 (fun cs => ∃ y : Key, cs = encKey y ∧ WfKey y) := fun n cs x h hB => by
  obtain ⟨hl, hf⟩ := Dec.fields her Try.underlying28 h hB
  have c0 : Try.prog.cellsOf 3 = 1 := by kernel_rfl
  obtain ⟨y0, e0, w0⟩ := hf 0 _ _ rfl (Dec.int Try.underlying3)
  replace e0 : (cs.drop 0).take (Try.prog.cellsOf 3) = _ := e0
  rw [c0] at e0
  have c1 : Try.prog.cellsOf 2 = 1 := by kernel_rfl
  obtain ⟨y1, e1, w1⟩ := hf 1 _ _ rfl (Dec.int Try.underlying2)
  replace e1 : (cs.drop 1).take (Try.prog.cellsOf 2) = _ := e1
  rw [c1] at e1
  have hl2 : cs.length = 2 := hl.trans (by kernel_rfl)
  obtain ⟨q0, q1, rfl⟩ : ∃ q0 q1, cs = [q0, q1] := by match cs, hl2 with | [q0, q1], _ => exact ⟨_, _, rfl⟩
  simp at e0 e1
  subst e0
  subst e1
  exact ⟨⟨y0, y1⟩, rfl, ⟨w0, w1⟩⟩
def WfOpR (x : OpR) : Prop := (Lit.int .i64 x.kind).wf = true ∧ WfKey x.key ∧ (Lit.int .i64 x.v).wf = true ∧ (Lit.int .i64 x.num).wf = true
theorem dec34 {H : Type} {B : DataW H → Prop} {encH : TypeId × Value → H} {w : World} {base : Nat} {spare : Nat → Bool} {held : Bool} (her : Her B LEN) : Dec B encH Try.prog w base spare held 34 (fun cs => ∃ y : OpR, cs = encOp y ∧ WfOpR y) := fun n cs x h hB => by
  obtain ⟨hl, hf⟩ := Dec.fields her Try.underlying34 h hB
  have c0 : Try.prog.cellsOf 3 = 1 := by kernel_rfl
  obtain ⟨y0, e0, w0⟩ := hf 0 _ _ rfl (Dec.int Try.underlying3)
  replace e0 : (cs.drop 0).take (Try.prog.cellsOf 3) = _ := e0
  rw [c0] at e0
  have c1 : Try.prog.cellsOf 28 = 2 := by kernel_rfl
  obtain ⟨y1, e1, w1⟩ := hf 1 _ _ rfl (dec28 her)
  replace e1 : (cs.drop 1).take (Try.prog.cellsOf 28) = _ := e1
  rw [c1] at e1
  have c2 : Try.prog.cellsOf 2 = 1 := by kernel_rfl
  obtain ⟨y2, e2, w2⟩ := hf 2 _ _ rfl (Dec.int Try.underlying2)
  replace e2 : (cs.drop 3).take (Try.prog.cellsOf 2) = _ := e2
  rw [c2] at e2
  have c3 : Try.prog.cellsOf 3 = 1 := by kernel_rfl
  obtain ⟨y3, e3, w3⟩ := hf 3 _ _ rfl (Dec.int Try.underlying3)
  replace e3 : (cs.drop 4).take (Try.prog.cellsOf 3) = _ := e3
  rw [c3] at e3
  have c4 : Try.prog.cellsOf 4 = 1 := by kernel_rfl
  obtain ⟨y4, e4⟩ := hf 4 _ _ rfl (Dec.bool Try.underlying4)
  replace e4 : (cs.drop 5).take (Try.prog.cellsOf 4) = _ := e4
  rw [c4] at e4
  have hl2 : cs.length = 6 := hl.trans (by kernel_rfl)
  obtain ⟨q0, q1, q2, q3, q4, q5, rfl⟩ : ∃ q0 q1 q2 q3 q4 q5, cs = [q0, q1, q2, q3, q4, q5] := by match cs, hl2 with | [q0, q1, q2, q3, q4, q5], _ => exact ⟨_, _, _, _, _, _, rfl⟩
  simp [encKey] at e0 e1 e2 e3 e4
  subst e0
  obtain ⟨rfl, rfl⟩ := e1
  subst e2
  subst e3
  subst e4
  exact ⟨⟨y0, y1, y2, y3, y4⟩, rfl, ⟨w0, w1, w2, w3⟩⟩

theorem her {H : Type} : Her (fun _ : DataW H => True) LEN := ⟨fun _ _ _ _ => trivial, fun _ _ _ => ⟨fun _ _ => trivial, trivial⟩, trivial⟩
set_option maxRecDepth 100000 in
theorem lifted (os : Os) (started : os.Started) (H : Type) (enc : TypeId × Value → H) :
    ReturnsInHanded {} Try.checked os 3 .any (Rows.dictPlaysSpec.pre6 enc Try.prog Try.f3 Rows.dictPlaysRow.domain false) (Rows.dictPlaysSpec.post enc Try.prog Try.f3 false true false false) := by
  refine returnsInHanded_of_change_sized (C := Try.checked) own started (by kernel_rfl) Try.func3
    (ChangeSpec.witness6 (enc := enc) (C := Try.checked) false ⟨#[], #[.int .i64 0, .int .i64 0, .slice none 0 0], []⟩ 8 (by kernel_rfl) (by kernel_rfl) (by kernel_rfl) (by kernel_rfl)) ?_
  intro W base args ds gs before hval0 hW hcnd hsz0 _
  have hsz : (DataW.weightsEach Try.prog (Try.f3.params.toList ++ Rows.dictPlaysSpec.plain.varTypes Try.prog) (ds ++ gs)).all (· ≤ reachBytes) = true := hsz0
  have hval : ∀ (j : Nat) t v, Try.f3.params[j]? = some t → args[j]? = some v → Value.okWide Try.prog W .any base t v := hval0
  have hW' := hW
  obtain ⟨p, q, hA0, hV, rfl, hfz, hnd⟩ := hW
  have hA : DataW.TrodAll enc Try.prog W 0 (fun _ => true) true Try.f3.params.toList args.toList ds p := hA0
  rw [Try.params3] at hA hval hsz
  obtain ⟨v0, vs0, d0, ds0, p0, q0, hargs, rfl, rfl, h0, r0⟩ := trodAll_cons hA
  obtain ⟨v1, vs1, d1, ds1, p1, q1, rfl, rfl, rfl, h1, r1⟩ := trodAll_cons r0
  obtain ⟨v2, vs2, d2, ds2, p2, q2, rfl, rfl, rfl, h2, r2⟩ := trodAll_cons r1
  obtain ⟨rfl, rfl, rfl⟩ := trodAll_nil r2
  obtain rfl : args = #[v0, v1, v2] := by cases args; simp_all
  obtain ⟨rfl, rfl⟩ := trodVars_none hV
  obtain ⟨a0, rfl, rfl, rfl, w0⟩ := open_int Try.underlying3 (hval 0 3 v0 rfl rfl) h0
  obtain ⟨a1, rfl, rfl, rfl, w1⟩ := open_int Try.underlying3 (hval 1 3 v1 rfl rfl) h1
  have lt2 : ∀ x ∈ p2, x.block < W.heap.size := by obtain ⟨m, hm⟩ := h2; exact DataW.trod_lt m _ _ _ hm
  obtain ⟨x2, len2, cap2, rfl⟩ := okWide_slice Try.underlying22 (hval 2 22 v2 rfl rfl)
  obtain ⟨v2, l2, hc2, hr2, hq2, hm2, hb2⟩ := (Dec.slice her (enc := encOp) (sz := 6) (Q := fun y => WfOpR y) Try.underlying22 (by kernel_rfl) (by decide) encOp_len (dec34 her)).arg h2 trivial
  have hc2' : Value.slice x2 len2 cap2 = v2 := by simpa [Value.cells] using hc2
  obtain ⟨x2', cap2', hf2, _⟩ := hr2.form
  have hl2 : len2 = l2.length := by rw [← hc2'] at hf2; cases hf2; rfl
  have hy2 : l2.length * 48 ≤ 140737488351232 := by rw [← hl2]; exact slice_fit hsz (j := 2) (t := 22) rfl rfl Try.underlying22 (by kernel_rfl) h2
  rw [← hc2'] at hr2
  clear hA0 hval0 hsz0 hsz
  refine Calls.mono (lawPlays_ret a0 a1 _ _ l2 W (by omega) hr2 (fun b h => h)) fun e W' ⟨v, he, hv, hk⟩ => ?_
  subst he hv
  have bel := hk.below (Nat.le_refl _) (fun b h => h.elim)
  exact ⟨_, rfl, _, _, _, [], _, [], hW', trodAll_mk1 (shut_bool Try.underlying4 _), (trodAll_cons_mk (shut_int Try.underlying3 w0) (trodAll_cons_mk (shut_int Try.underlying3 w1) (trodAll_cons_mk (Below.trod laidOut (by kernel_rfl) (of_decide_eq_true (by kernel_rfl)) h2 bel lt2) trodAll_mk0))), rfl, bel.frame _, fun h => by cases h⟩
theorem over : Rows.dictPlaysRow.holds Try.pinned (OpenSpec.ofChange Rows.dictPlaysSpec) :=
  OpenClaim.holds_of_wide 3 Try.f3 rfl rfl rfl rfl rfl rfl rfl ⟨rfl, rfl, rfl, rfl, rfl⟩ rfl rfl rfl rfl rfl (by kernel_rfl) Try.func3 (by kernel_rfl)
    (of_decide_eq_true (by kernel_rfl)) (by unfold Func.isWrapper; first | (rw [if_pos (by decide +kernel)]; kernel_rfl) | (rw [if_neg (by decide +kernel)]; exact ⟨rfl, rfl⟩))
    (fun os started H enc _ => lifted os started H enc)
theorem proved : Rows.DictPlaysSaid := over
end Go.Proofs.Ytenhbogebfdjjaa.dictPlays
namespace Go.Proofs.Ytenhbogebfdjjaa
/-- The row, under a short name, for the claim. -/
theorem dictPlays_holds : Rows.DictPlaysSaid := dictPlays.proved
end Go.Proofs.Ytenhbogebfdjjaa
