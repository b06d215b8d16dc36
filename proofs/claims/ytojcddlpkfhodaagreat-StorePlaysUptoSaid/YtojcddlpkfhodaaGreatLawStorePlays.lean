/- StorePlays returns true for every two shapes and every script, where the arguments hold together at most 1048576 values; its arguments stay as they were. -/
import Derived.Test.YtojcddlpkfhodaaGreatRows
import Derived.Test.YtojcddlpkfhodaaGreatWo
import Derived.Test.YtojcddlpkfhodaaGreatLP
import Derived.JoinedCond
namespace Go.Proofs.YtojcddlpkfhodaaGreat.storePlays
open Go Go.Wk Go.Proofs.YtojcddlpkfhodaaGreat.W
open Go.ChangeShapes Go.WideShapes Go.ChangeAt Go.RowKit
open Go.ChangeMaps (open_string shut_string)
set_option linter.unusedVariables false
set_option maxRecDepth 100000
theorem own : ownKnob Tryz.prog.godebug = none := by kernel_rfl
theorem laidOut : laidOutB Tryz.prog = true := by kernel_rfl
abbrev LEN : Nat → Prop := fun n => n ≤ 1048576
theorem decI {P : Program} {t : TypeId} {H : Type} {B : DataW H → Prop} {encH : TypeId × Value → H} {w : World} {base : Nat} {spare : Nat → Bool} {held : Bool} (ht : P.underlying t = some (.int .i64)) : Dec B encH P w base spare held t (fun cs => ∃ y : Int, cs = W.encI y ∧ (Lit.int .i64 y).wf = true) := Dec.int ht
theorem decB {P : Program} {t : TypeId} {H : Type} {B : DataW H → Prop} {encH : TypeId × Value → H} {w : World} {base : Nat} {spare : Nat → Bool} {held : Bool} (ht : P.underlying t = some .bool) : Dec B encH P w base spare held t (fun cs => ∃ y : Bool, cs = W.encB y ∧ True) := fun n cs x h hB => let ⟨b, h⟩ := Dec.bool ht n cs x h hB; ⟨b, h, trivial⟩

theorem one_le {H : Type} (d : DataW H) : 1 ≤ Rows.uptoBulk d := by
  cases d with
  | lit l => cases l <;> simp [Rows.uptoBulk]
  | _ => simp [Rows.uptoBulk]
theorem part_le {H : Type} {d : DataW H} {l : List (DataW H)} (h : d ∈ l) : Rows.uptoBulk d ≤ Rows.uptoBulkAll l := by
  induction l with
  | nil => cases h
  | cons x r ih =>
    simp only [Rows.uptoBulkAll]
    cases List.mem_cons.1 h with
    | inl e => subst e; omega
    | inr e => have := ih e; omega
theorem length_le {H : Type} (l : List (DataW H)) : l.length ≤ Rows.uptoBulkAll l := by
  induction l with
  | nil => simp [Rows.uptoBulkAll]
  | cons x r ih => have := one_le x; simp only [Rows.uptoBulkAll, List.length_cons]; omega
theorem her {H : Type} : Her (fun d : DataW H => Rows.uptoBulk d ≤ 1048576) LEN where
  agg l h d hd := by
    have h1 := part_le hd
    have h2 : Rows.uptoBulkAll l + 1 ≤ 1048576 := by simpa only [Rows.uptoBulk] using h
    show Rows.uptoBulk d ≤ 1048576
    omega
  sl l sp h := by
    have h2 : Rows.uptoBulkAll l + Rows.uptoBulkAll sp + 1 ≤ 1048576 := by simpa only [Rows.uptoBulk] using h
    refine ⟨fun d hd => ?_, ?_⟩
    · have h1 := part_le hd
      show Rows.uptoBulk d ≤ 1048576
      omega
    · have := length_le l
      show l.length ≤ 1048576
      omega
  nil := Nat.zero_le _
theorem bound {H : Type} {l : List (DataW H)} (hk : Rows.uptoSmall H l = true) : Rows.uptoBulkAll l ≤ 1048576 := of_decide_eq_true hk

def WfShapeR (x : ShapeR) : Prop := (Lit.int .i64 x.parts).wf = true ∧ (Lit.int .i64 x.cap).wf = true
theorem dec23 {H : Type} {B : DataW H → Prop} {encH : TypeId × Value → H} {w : World} {base : Nat} {spare : Nat → Bool} {held : Bool} (her : Her B LEN) : Dec B encH Tryz.prog w base spare held 23 (fun cs => ∃ y : ShapeR, cs = encShape y ∧ WfShapeR y) := fun n cs x h hB => by
  obtain ⟨hl, hf⟩ := Dec.fields her Tryz.underlying23 h hB
  have c0 : Tryz.prog.cellsOf 3 = 1 := by kernel_rfl
  obtain ⟨y0, e0, w0⟩ := hf 0 _ _ rfl (Dec.int Tryz.underlying3)
  replace e0 : (cs.drop 0).take (Tryz.prog.cellsOf 3) = _ := e0
  rw [c0] at e0
  have c1 : Tryz.prog.cellsOf 3 = 1 := by kernel_rfl
  obtain ⟨y1, e1, w1⟩ := hf 1 _ _ rfl (Dec.int Tryz.underlying3)
  replace e1 : (cs.drop 1).take (Tryz.prog.cellsOf 3) = _ := e1
  rw [c1] at e1
  have hl2 : cs.length = 2 := hl.trans (by kernel_rfl)
  obtain ⟨q0, q1, rfl⟩ : ∃ q0 q1, cs = [q0, q1] := by match cs, hl2 with | [q0, q1], _ => exact ⟨_, _, rfl⟩
  simp at e0 e1
  subst e0
  subst e1
  exact ⟨⟨y0, y1⟩, rfl, ⟨w0, w1⟩⟩
def WfKey (x : Key) : Prop := (Lit.int .i64 x.table).wf = true ∧ (Lit.int .i64 x.row).wf = true
theorem dec41 {H : Type} {B : DataW H → Prop} {encH : TypeId × Value → H} {w : World} {base : Nat} {spare : Nat → Bool} {held : Bool} (her : Her B LEN) : Dec B encH Tryz.prog w base spare held 41 (fun cs => ∃ y : Key, cs = encKey y ∧ WfKey y) := fun n cs x h hB => by
  obtain ⟨hl, hf⟩ := Dec.fields her Tryz.underlying41 h hB
  have c0 : Tryz.prog.cellsOf 3 = 1 := by kernel_rfl
  obtain ⟨y0, e0, w0⟩ := hf 0 _ _ rfl (Dec.int Tryz.underlying3)
  replace e0 : (cs.drop 0).take (Tryz.prog.cellsOf 3) = _ := e0
  rw [c0] at e0
  have c1 : Tryz.prog.cellsOf 2 = 1 := by kernel_rfl
  obtain ⟨y1, e1, w1⟩ := hf 1 _ _ rfl (Dec.int Tryz.underlying2)
  replace e1 : (cs.drop 1).take (Tryz.prog.cellsOf 2) = _ := e1
  rw [c1] at e1
  have hl2 : cs.length = 2 := hl.trans (by kernel_rfl)
  obtain ⟨q0, q1, rfl⟩ : ∃ q0 q1, cs = [q0, q1] := by match cs, hl2 with | [q0, q1], _ => exact ⟨_, _, rfl⟩
  simp at e0 e1
  subst e0
  subst e1
  exact ⟨⟨y0, y1⟩, rfl, ⟨w0, w1⟩⟩
def WfCell (x : Cell) : Prop := (Lit.int .i64 x.value).wf = true
theorem dec43 {H : Type} {B : DataW H → Prop} {encH : TypeId × Value → H} {w : World} {base : Nat} {spare : Nat → Bool} {held : Bool} (her : Her B LEN) : Dec B encH Tryz.prog w base spare held 43 (fun cs => ∃ y : Cell, cs = encCell y ∧ WfCell y) := fun n cs x h hB => by
  obtain ⟨hl, hf⟩ := Dec.fields her Tryz.underlying43 h hB
  have c0 : Tryz.prog.cellsOf 4 = 1 := by kernel_rfl
  obtain ⟨y0, e0⟩ := hf 0 _ _ rfl (Dec.bool Tryz.underlying4)
  replace e0 : (cs.drop 0).take (Tryz.prog.cellsOf 4) = _ := e0
  rw [c0] at e0
  have c1 : Tryz.prog.cellsOf 2 = 1 := by kernel_rfl
  obtain ⟨y1, e1, w1⟩ := hf 1 _ _ rfl (Dec.int Tryz.underlying2)
  replace e1 : (cs.drop 1).take (Tryz.prog.cellsOf 2) = _ := e1
  rw [c1] at e1
  have hl2 : cs.length = 2 := hl.trans (by kernel_rfl)
  obtain ⟨q0, q1, rfl⟩ : ∃ q0 q1, cs = [q0, q1] := by match cs, hl2 with | [q0, q1], _ => exact ⟨_, _, rfl⟩
  simp at e0 e1
  subst e0
  subst e1
  exact ⟨⟨y0, y1⟩, rfl, w1⟩
def WfOpR (x : OpR) : Prop := (Lit.int .i64 x.kind).wf = true ∧ WfKey x.key ∧ (Lit.int .i64 x.batch).wf = true ∧ (Lit.int .i64 x.index).wf = true ∧ (Lit.int .i64 x.v).wf = true ∧ (Lit.int .i64 x.n).wf = true ∧ WfCell x.cell
theorem dec45 {H : Type} {B : DataW H → Prop} {encH : TypeId × Value → H} {w : World} {base : Nat} {spare : Nat → Bool} {held : Bool} (her : Her B LEN) : Dec B encH Tryz.prog w base spare held 45 (fun cs => ∃ y : OpR, cs = encOpR y ∧ WfOpR y) := fun n cs x h hB => by
  obtain ⟨hl, hf⟩ := Dec.fields her Tryz.underlying45 h hB
  have c0 : Tryz.prog.cellsOf 3 = 1 := by kernel_rfl
  obtain ⟨y0, e0, w0⟩ := hf 0 _ _ rfl (Dec.int Tryz.underlying3)
  replace e0 : (cs.drop 0).take (Tryz.prog.cellsOf 3) = _ := e0
  rw [c0] at e0
  have c1 : Tryz.prog.cellsOf 41 = 2 := by kernel_rfl
  obtain ⟨y1, e1, w1⟩ := hf 1 _ _ rfl (dec41 her)
  replace e1 : (cs.drop 1).take (Tryz.prog.cellsOf 41) = _ := e1
  rw [c1] at e1
  have c2 : Tryz.prog.cellsOf 3 = 1 := by kernel_rfl
  obtain ⟨y2, e2, w2⟩ := hf 2 _ _ rfl (Dec.int Tryz.underlying3)
  replace e2 : (cs.drop 3).take (Tryz.prog.cellsOf 3) = _ := e2
  rw [c2] at e2
  have c3 : Tryz.prog.cellsOf 3 = 1 := by kernel_rfl
  obtain ⟨y3, e3, w3⟩ := hf 3 _ _ rfl (Dec.int Tryz.underlying3)
  replace e3 : (cs.drop 4).take (Tryz.prog.cellsOf 3) = _ := e3
  rw [c3] at e3
  have c4 : Tryz.prog.cellsOf 3 = 1 := by kernel_rfl
  obtain ⟨y4, e4, w4⟩ := hf 4 _ _ rfl (Dec.int Tryz.underlying3)
  replace e4 : (cs.drop 5).take (Tryz.prog.cellsOf 3) = _ := e4
  rw [c4] at e4
  have c5 : Tryz.prog.cellsOf 3 = 1 := by kernel_rfl
  obtain ⟨y5, e5, w5⟩ := hf 5 _ _ rfl (Dec.int Tryz.underlying3)
  replace e5 : (cs.drop 6).take (Tryz.prog.cellsOf 3) = _ := e5
  rw [c5] at e5
  have c6 : Tryz.prog.cellsOf 43 = 2 := by kernel_rfl
  obtain ⟨y6, e6, w6⟩ := hf 6 _ _ rfl (dec43 her)
  replace e6 : (cs.drop 7).take (Tryz.prog.cellsOf 43) = _ := e6
  rw [c6] at e6
  have c7 : Tryz.prog.cellsOf 4 = 1 := by kernel_rfl
  obtain ⟨y7, e7⟩ := hf 7 _ _ rfl (Dec.bool Tryz.underlying4)
  replace e7 : (cs.drop 9).take (Tryz.prog.cellsOf 4) = _ := e7
  rw [c7] at e7
  have hl2 : cs.length = 10 := hl.trans (by kernel_rfl)
  obtain ⟨q0, q1, q2, q3, q4, q5, q6, q7, q8, q9, rfl⟩ : ∃ q0 q1 q2 q3 q4 q5 q6 q7 q8 q9, cs = [q0, q1, q2, q3, q4, q5, q6, q7, q8, q9] := by match cs, hl2 with | [q0, q1, q2, q3, q4, q5, q6, q7, q8, q9], _ => exact ⟨_, _, _, _, _, _, _, _, _, _, rfl⟩
  simp [encKey, encCell] at e0 e1 e2 e3 e4 e5 e6 e7
  subst e0
  obtain ⟨rfl, rfl⟩ := e1
  subst e2
  subst e3
  subst e4
  subst e5
  obtain ⟨rfl, rfl⟩ := e6
  subst e7
  exact ⟨⟨y0, y1, y2, y3, y4, y5, y6, y7⟩, rfl, ⟨w0, w1, w2, w3, w4, w5, w6⟩⟩

set_option maxRecDepth 100000 in
theorem contract (H : Type) (enc : TypeId × Value → H) (W : World) (base : Nat) (args : Array Value) (ds gs : List (DataW H)) (before : List MemPlace)
    (hval0 : ∀ (j : Nat) t v, Tryz.f3.params[j]? = some t → args[j]? = some v → Value.okWide Tryz.prog W .any base t v)
    (hW : DataW.Whole enc Tryz.prog Tryz.f3.params.toList Rows.storePlaysSpec.vars false W args.toList ds gs before) (hsm : Rows.uptoSmall H (ds ++ gs) = true) :
    Calls Tryz.prog 3 args W fun e W' => ∃ v, e = .returned v ∧ Rows.storePlaysSpec.post enc Tryz.prog Tryz.f3 false true false false W args v W' := by
  have hW' := hW
  obtain ⟨p, q, hA0, hV, rfl, hfz, hnd⟩ := hW
  have hval : ∀ (j : Nat) t v, Tryz.f3.params[j]? = some t → args[j]? = some v → Value.okWide Tryz.prog W .any base t v := hval0
  have hA : DataW.TrodAll enc Tryz.prog W 0 (fun _ => true) true Tryz.f3.params.toList args.toList ds p := hA0
  rw [Tryz.params3] at hA hval
  obtain ⟨v0, vs0, d0, ds0, p0, q0, hargs, rfl, rfl, h0, r0⟩ := trodAll_cons hA
  obtain ⟨v1, vs1, d1, ds1, p1, q1, rfl, rfl, rfl, h1, r1⟩ := trodAll_cons r0
  obtain ⟨v2, vs2, d2, ds2, p2, q2, rfl, rfl, rfl, h2, r2⟩ := trodAll_cons r1
  obtain ⟨rfl, rfl, rfl⟩ := trodAll_nil r2
  obtain rfl : args = #[v0, v1, v2] := by cases args; simp_all
  obtain ⟨rfl, rfl⟩ := trodVars_none hV
  have hbd := bound hsm
  have lt0 : ∀ x ∈ p0, x.block < W.heap.size := by obtain ⟨m, hm⟩ := h0; exact DataW.trod_lt m _ _ _ hm
  obtain ⟨cs0, rfl, _⟩ := okWide_struct Tryz.underlying23 (hval 0 23 v0 rfl rfl)
  obtain ⟨a0, hc0, w0⟩ := (dec23 her).arg h0 (Nat.le_trans (part_le (by simp)) hbd)
  obtain rfl : cs0 = (encShape a0).toArray := by apply Array.ext'; simpa [Value.cells] using hc0
  have lt1 : ∀ x ∈ p1, x.block < W.heap.size := by obtain ⟨m, hm⟩ := h1; exact DataW.trod_lt m _ _ _ hm
  obtain ⟨cs1, rfl, _⟩ := okWide_struct Tryz.underlying23 (hval 1 23 v1 rfl rfl)
  obtain ⟨a1, hc1, w1⟩ := (dec23 her).arg h1 (Nat.le_trans (part_le (by simp)) hbd)
  obtain rfl : cs1 = (encShape a1).toArray := by apply Array.ext'; simpa [Value.cells] using hc1
  have lt2 : ∀ x ∈ p2, x.block < W.heap.size := by obtain ⟨m, hm⟩ := h2; exact DataW.trod_lt m _ _ _ hm
  obtain ⟨x2, len2, cap2, rfl⟩ := okWide_slice Tryz.underlying24 (hval 2 24 v2 rfl rfl)
  obtain ⟨v2, l2, hc2, hr2, hq2, hm2, hb2⟩ := (Dec.slice her (enc := encOpR) (sz := 10) (Q := fun y => WfOpR y) Tryz.underlying24 (by kernel_rfl) (by decide) encOpR_len (dec45 her)).arg h2 (Nat.le_trans (part_le (by simp)) hbd)
  have hc2' : Value.slice x2 len2 cap2 = v2 := by simpa [Value.cells] using hc2
  obtain ⟨x2', cap2', hf2, _⟩ := hr2.form
  have hl2 : len2 = l2.length := by rw [← hc2'] at hf2; cases hf2; rfl
  rw [← hc2'] at hr2
  clear hA0 hval0 hsm
  refine Calls.mono (Tr.top (plays_tr a0.parts a0.cap a1.parts a1.cap x2 len2 cap2 l2 (by rw [hl2]; exact hb2)) (getH_cons (rdH_of hr2) getH_nil)) fun e W' ⟨v, he, hv, hk⟩ => ?_
  subst he hv
  have bel := hk.below (Nat.le_refl _) (fun b h => h.elim)
  exact ⟨_, rfl, _, _, _, [], _, [], hW', trodAll_mk1 (shut_bool Tryz.underlying4 _), (trodAll_cons_mk (Below.trod laidOut (by kernel_rfl) (of_decide_eq_true (by kernel_rfl)) h0 bel lt0) (trodAll_cons_mk (Below.trod laidOut (by kernel_rfl) (of_decide_eq_true (by kernel_rfl)) h1 bel lt1) (trodAll_cons_mk (Below.trod laidOut (by kernel_rfl) (of_decide_eq_true (by kernel_rfl)) h2 bel lt2) trodAll_mk0))), rfl, bel.frame _, fun h => by cases h⟩
set_option maxRecDepth 100000 in
theorem lifted (os : Os) (started : os.Started) (H : Type) (enc : TypeId × Value → H) (F : Stop.Interp) :
    ReturnsInHanded {} Tryz.checked os 3 .any ((Rows.OpenSpec.upto Rows.storePlaysSpec).pre6 enc Tryz.prog Tryz.f3 Rows.storePlaysUptoRow.domain false) (((Rows.OpenSpec.upto Rows.storePlaysSpec).at F).post enc Tryz.prog Tryz.f3 false true false false) := by
  refine returnsInHanded_of_cond (C := Tryz.checked) (s := Rows.OpenSpec.upto Rows.storePlaysSpec) (k := Rows.uptoSmall) rfl own started (by kernel_rfl) Tryz.func3
    (OpenSpec.witness (enc := enc) (C := Tryz.checked) (s := Rows.OpenSpec.upto Rows.storePlaysSpec) (k := Rows.uptoSmall) rfl false ⟨#[], #[.agg #[.int .i64 0, .int .i64 0], .agg #[.int .i64 0, .int .i64 0], .slice none 0 0], []⟩ 8 (by kernel_rfl) (by kernel_rfl) (by kernel_rfl)
      (x := ([.agg [.lit (.int .i64 0), .lit (.int .i64 0)], .agg [.lit (.int .i64 0), .lit (.int .i64 0)], .nil], [], [])) (by kernel_rfl) rfl (by kernel_rfl)) ?_
  intro W base args ds gs before hval hW _ hk _
  exact contract H enc W base args ds gs before hval hW hk
theorem over : Rows.storePlaysUptoRow.holds Tryz.pinned (Rows.OpenSpec.upto Rows.storePlaysSpec) :=
  OpenClaim.holds_of_cond 3 Tryz.f3 rfl rfl rfl rfl rfl rfl rfl ⟨rfl, rfl, rfl, rfl, rfl⟩ rfl rfl rfl rfl rfl (by kernel_rfl) Tryz.func3 (by kernel_rfl)
    (of_decide_eq_true (by kernel_rfl)) (by unfold Func.isWrapper; first | (rw [if_pos (by decide +kernel)]; kernel_rfl) | (rw [if_neg (by decide +kernel)]; exact ⟨rfl, rfl⟩))
    (fun os started H enc _ F => lifted os started H enc F)
theorem proved : Rows.StorePlaysUptoSaid := over
end Go.Proofs.YtojcddlpkfhodaaGreat.storePlays
namespace Go.Proofs.YtojcddlpkfhodaaGreat
/-- The row, under a short name, for the claim. -/
theorem storePlays_holds : Rows.StorePlaysUptoSaid := storePlays.proved
end Go.Proofs.YtojcddlpkfhodaaGreat
