/- StoreChains returns true for every number of parts and every list of writes, where the arguments hold together at most 1048576 values; its arguments stay as they were. -/
import Derived.Test.YtojcddlpkfhodaaRows
import Derived.Test.YtojcddlpkfhodaaWo
import Derived.Test.YtojcddlpkfhodaaLC
import Derived.JoinedCond
namespace Go.Proofs.Ytojcddlpkfhodaa.storeChains
open Go Go.Wk Go.Proofs.Ytojcddlpkfhodaa.W
open Go.ChangeShapes Go.WideShapes Go.ChangeAt Go.RowKit
open Go.ChangeMaps (open_string shut_string)
set_option linter.unusedVariables false
set_option maxRecDepth 100000
theorem own : ownKnob Try.prog.godebug = none := by kernel_rfl
theorem laidOut : laidOutB Try.prog = true := by kernel_rfl
abbrev LEN : Nat → Prop := fun n => n ≤ 1048576
theorem decI {P : Program} {t : TypeId} {H : Type} {B : DataW H → Prop} {encH : TypeId × Value → H} {w : World} {base : Nat} {spare : Nat → Bool} {held : Bool} (ht : P.underlying t = some (.int .i64)) : Dec B encH P w base spare held t (fun cs => ∃ y : Int, cs = W.encI y ∧ (Lit.int .i64 y).wf = true) := Dec.int ht
theorem decB {P : Program} {t : TypeId} {H : Type} {B : DataW H → Prop} {encH : TypeId × Value → H} {w : World} {base : Nat} {spare : Nat → Bool} {held : Bool} (ht : P.underlying t = some .bool) : Dec B encH P w base spare held t (fun cs => ∃ y : Bool, cs = W.encB y ∧ True) := fun n cs x h hB => let ⟨b, h⟩ := Dec.bool ht n cs x h hB; ⟨b, h, trivial⟩

theorem one_le {H : Type} (d : DataW H) : 1 ≤ Rows.uptoBulk d := by
  cases d with
  | lit l => cases l <;> simp [Rows.uptoBulk]
  | _ => simp [Rows.uptoBulk]
theorem part_le {H : Type} {d : DataW H} {l : List (DataW H)} (h : d ∈ l) : Rows.uptoBulk d ≤ Rows.uptoBulkAll l := by
  induction l with
  | nil => cases h
  | cons x r ih =>
    simp only [Rows.uptoBulkAll]
    cases List.mem_cons.1 h with
    | inl e => subst e; omega
    | inr e => have := ih e; omega
theorem length_le {H : Type} (l : List (DataW H)) : l.length ≤ Rows.uptoBulkAll l := by
  induction l with
  | nil => simp [Rows.uptoBulkAll]
  | cons x r ih => have := one_le x; simp only [Rows.uptoBulkAll, List.length_cons]; omega
theorem her {H : Type} : Her (fun d : DataW H => Rows.uptoBulk d ≤ 1048576) LEN where
  agg l h d hd := by
    have h1 := part_le hd
    have h2 : Rows.uptoBulkAll l + 1 ≤ 1048576 := by simpa only [Rows.uptoBulk] using h
    show Rows.uptoBulk d ≤ 1048576
    omega
  sl l sp h := by
    have h2 : Rows.uptoBulkAll l + Rows.uptoBulkAll sp + 1 ≤ 1048576 := by simpa only [Rows.uptoBulk] using h
    refine ⟨fun d hd => ?_, ?_⟩
    · have h1 := part_le hd
      show Rows.uptoBulk d ≤ 1048576
      omega
    · have := length_le l
      show l.length ≤ 1048576
      omega
  nil := Nat.zero_le _
theorem bound {H : Type} {l : List (DataW H)} (hk : Rows.uptoSmall H l = true) : Rows.uptoBulkAll l ≤ 1048576 := of_decide_eq_true hk

def WfKey (x : Key) : Prop := (Lit.int .i64 x.table).wf = true ∧ (Lit.int .i64 x.row).wf = true
theorem dec28 {H : Type} {B : DataW H → Prop} {encH : TypeId × Value → H} {w : World} {base : Nat} {spare : Nat → Bool} {held : Bool} (her : Her B LEN) : Dec B encH Try.prog w base spare held 28 (fun cs => ∃ y : Key, cs = encKey y ∧ WfKey y) := fun n cs x h hB => by
  obtain ⟨hl, hf⟩ := Dec.fields her Try.underlying28 h hB
  have c0 : Try.prog.cellsOf 3 = 1 := by kernel_rfl
  obtain ⟨y0, e0, w0⟩ := hf 0 _ _ rfl (Dec.int Try.underlying3)
  replace e0 : (cs.drop 0).take (Try.prog.cellsOf 3) = _ := e0
  rw [c0] at e0
  have c1 : Try.prog.cellsOf 2 = 1 := by kernel_rfl
  obtain ⟨y1, e1, w1⟩ := hf 1 _ _ rfl (Dec.int Try.underlying2)
  replace e1 : (cs.drop 1).take (Try.prog.cellsOf 2) = _ := e1
  rw [c1] at e1
  have hl2 : cs.length = 2 := hl.trans (by kernel_rfl)
  obtain ⟨q0, q1, rfl⟩ : ∃ q0 q1, cs = [q0, q1] := by match cs, hl2 with | [q0, q1], _ => exact ⟨_, _, rfl⟩
  simp at e0 e1
  subst e0
  subst e1
  exact ⟨⟨y0, y1⟩, rfl, ⟨w0, w1⟩⟩
def WfCell (x : Cell) : Prop := (Lit.int .i64 x.value).wf = true
theorem dec30 {H : Type} {B : DataW H → Prop} {encH : TypeId × Value → H} {w : World} {base : Nat} {spare : Nat → Bool} {held : Bool} (her : Her B LEN) : Dec B encH Try.prog w base spare held 30 (fun cs => ∃ y : Cell, cs = encCell y ∧ WfCell y) := fun n cs x h hB => by
  obtain ⟨hl, hf⟩ := Dec.fields her Try.underlying30 h hB
  have c0 : Try.prog.cellsOf 4 = 1 := by kernel_rfl
  obtain ⟨y0, e0⟩ := hf 0 _ _ rfl (Dec.bool Try.underlying4)
  replace e0 : (cs.drop 0).take (Try.prog.cellsOf 4) = _ := e0
  rw [c0] at e0
  have c1 : Try.prog.cellsOf 2 = 1 := by kernel_rfl
  obtain ⟨y1, e1, w1⟩ := hf 1 _ _ rfl (Dec.int Try.underlying2)
  replace e1 : (cs.drop 1).take (Try.prog.cellsOf 2) = _ := e1
  rw [c1] at e1
  have hl2 : cs.length = 2 := hl.trans (by kernel_rfl)
  obtain ⟨q0, q1, rfl⟩ : ∃ q0 q1, cs = [q0, q1] := by match cs, hl2 with | [q0, q1], _ => exact ⟨_, _, rfl⟩
  simp at e0 e1
  subst e0
  subst e1
  exact ⟨⟨y0, y1⟩, rfl, w1⟩
def WfWriteR (x : WriteR) : Prop := WfKey x.key ∧ (Lit.int .i64 x.later).wf = true ∧ (Lit.int .i64 x.index).wf = true ∧ WfCell x.cell ∧ (Lit.int .i64 x.drop).wf = true
theorem dec32 {H : Type} {B : DataW H → Prop} {encH : TypeId × Value → H} {w : World} {base : Nat} {spare : Nat → Bool} {held : Bool} (her : Her B LEN) : Dec B encH Try.prog w base spare held 32 (fun cs => ∃ y : WriteR, cs = encWrite y ∧ WfWriteR y) := fun n cs x h hB => by
  obtain ⟨hl, hf⟩ := Dec.fields her Try.underlying32 h hB
  have c0 : Try.prog.cellsOf 28 = 2 := by kernel_rfl
  obtain ⟨y0, e0, w0⟩ := hf 0 _ _ rfl (dec28 her)
  replace e0 : (cs.drop 0).take (Try.prog.cellsOf 28) = _ := e0
  rw [c0] at e0
  have c1 : Try.prog.cellsOf 3 = 1 := by kernel_rfl
  obtain ⟨y1, e1, w1⟩ := hf 1 _ _ rfl (Dec.int Try.underlying3)
  replace e1 : (cs.drop 2).take (Try.prog.cellsOf 3) = _ := e1
  rw [c1] at e1
  have c2 : Try.prog.cellsOf 3 = 1 := by kernel_rfl
  obtain ⟨y2, e2, w2⟩ := hf 2 _ _ rfl (Dec.int Try.underlying3)
  replace e2 : (cs.drop 3).take (Try.prog.cellsOf 3) = _ := e2
  rw [c2] at e2
  have c3 : Try.prog.cellsOf 4 = 1 := by kernel_rfl
  obtain ⟨y3, e3⟩ := hf 3 _ _ rfl (Dec.bool Try.underlying4)
  replace e3 : (cs.drop 4).take (Try.prog.cellsOf 4) = _ := e3
  rw [c3] at e3
  have c4 : Try.prog.cellsOf 30 = 2 := by kernel_rfl
  obtain ⟨y4, e4, w4⟩ := hf 4 _ _ rfl (dec30 her)
  replace e4 : (cs.drop 5).take (Try.prog.cellsOf 30) = _ := e4
  rw [c4] at e4
  have c5 : Try.prog.cellsOf 3 = 1 := by kernel_rfl
  obtain ⟨y5, e5, w5⟩ := hf 5 _ _ rfl (Dec.int Try.underlying3)
  replace e5 : (cs.drop 7).take (Try.prog.cellsOf 3) = _ := e5
  rw [c5] at e5
  have hl2 : cs.length = 8 := hl.trans (by kernel_rfl)
  obtain ⟨q0, q1, q2, q3, q4, q5, q6, q7, rfl⟩ : ∃ q0 q1 q2 q3 q4 q5 q6 q7, cs = [q0, q1, q2, q3, q4, q5, q6, q7] := by match cs, hl2 with | [q0, q1, q2, q3, q4, q5, q6, q7], _ => exact ⟨_, _, _, _, _, _, _, _, rfl⟩
  simp [encKey, encCell] at e0 e1 e2 e3 e4 e5
  obtain ⟨rfl, rfl⟩ := e0
  subst e1
  subst e2
  subst e3
  obtain ⟨rfl, rfl⟩ := e4
  subst e5
  exact ⟨⟨y0, y1, y2, y3, y4, y5⟩, rfl, ⟨w0, w1, w2, w4, w5⟩⟩

set_option maxRecDepth 100000 in
theorem contract (H : Type) (enc : TypeId × Value → H) (W : World) (base : Nat) (args : Array Value) (ds gs : List (DataW H)) (before : List MemPlace)
    (hval0 : ∀ (j : Nat) t v, Try.f3.params[j]? = some t → args[j]? = some v → Value.okWide Try.prog W .any base t v)
    (hW : DataW.Whole enc Try.prog Try.f3.params.toList Rows.storeChainsSpec.vars false W args.toList ds gs before) (hsm : Rows.uptoSmall H (ds ++ gs) = true) :
    Calls Try.prog 3 args W fun e W' => ∃ v, e = .returned v ∧ Rows.storeChainsSpec.post enc Try.prog Try.f3 false true false false W args v W' := by
  have hW' := hW
  obtain ⟨p, q, hA0, hV, rfl, hfz, hnd⟩ := hW
  have hval : ∀ (j : Nat) t v, Try.f3.params[j]? = some t → args[j]? = some v → Value.okWide Try.prog W .any base t v := hval0
  have hA : DataW.TrodAll enc Try.prog W 0 (fun _ => true) true Try.f3.params.toList args.toList ds p := hA0
  rw [Try.params3] at hA hval
  obtain ⟨v0, vs0, d0, ds0, p0, q0, hargs, rfl, rfl, h0, r0⟩ := trodAll_cons hA
  obtain ⟨v1, vs1, d1, ds1, p1, q1, rfl, rfl, rfl, h1, r1⟩ := trodAll_cons r0
  obtain ⟨rfl, rfl, rfl⟩ := trodAll_nil r1
  obtain rfl : args = #[v0, v1] := by cases args; simp_all
  obtain ⟨rfl, rfl⟩ := trodVars_none hV
  have hbd := bound hsm
  obtain ⟨a0, rfl, rfl, rfl, w0⟩ := open_int Try.underlying3 (hval 0 3 v0 rfl rfl) h0
  have lt1 : ∀ x ∈ p1, x.block < W.heap.size := by obtain ⟨m, hm⟩ := h1; exact DataW.trod_lt m _ _ _ hm
  obtain ⟨x1, len1, cap1, rfl⟩ := okWide_slice Try.underlying22 (hval 1 22 v1 rfl rfl)
  obtain ⟨v1, l1, hc1, hr1, hq1, hm1, hb1⟩ := (Dec.slice her (enc := encWrite) (sz := 8) (Q := fun y => WfWriteR y) Try.underlying22 (by kernel_rfl) (by decide) encWrite_len (dec32 her)).arg h1 (Nat.le_trans (part_le (by simp)) hbd)
  have hc1' : Value.slice x1 len1 cap1 = v1 := by simpa [Value.cells] using hc1
  obtain ⟨x1', cap1', hf1, _⟩ := hr1.form
  have hl1 : len1 = l1.length := by rw [← hc1'] at hf1; cases hf1; rfl
  rw [← hc1'] at hr1
  clear hA0 hval0 hsm
  refine Calls.mono (Tr.top (chains_tr a0 x1 len1 cap1 l1 (by rw [hl1]; exact hb1)) (getH_cons (rdH_of hr1) getH_nil)) fun e W' ⟨v, he, hv, hk⟩ => ?_
  subst he hv
  have bel := hk.below (Nat.le_refl _) (fun b h => h.elim)
  exact ⟨_, rfl, _, _, _, [], _, [], hW', trodAll_mk1 (shut_bool Try.underlying4 _), (trodAll_cons_mk (shut_int Try.underlying3 w0) (trodAll_cons_mk (Below.trod laidOut (by kernel_rfl) (of_decide_eq_true (by kernel_rfl)) h1 bel lt1) trodAll_mk0)), rfl, bel.frame _, fun h => by cases h⟩
set_option maxRecDepth 100000 in
theorem lifted (os : Os) (started : os.Started) (H : Type) (enc : TypeId × Value → H) (F : Stop.Interp) :
    ReturnsInHanded {} Try.checked os 3 .any ((Rows.OpenSpec.upto Rows.storeChainsSpec).pre6 enc Try.prog Try.f3 Rows.storeChainsUptoRow.domain false) (((Rows.OpenSpec.upto Rows.storeChainsSpec).at F).post enc Try.prog Try.f3 false true false false) := by
  refine returnsInHanded_of_cond (C := Try.checked) (s := Rows.OpenSpec.upto Rows.storeChainsSpec) (k := Rows.uptoSmall) rfl own started (by kernel_rfl) Try.func3
    (OpenSpec.witness (enc := enc) (C := Try.checked) (s := Rows.OpenSpec.upto Rows.storeChainsSpec) (k := Rows.uptoSmall) rfl false ⟨#[], #[.int .i64 0, .slice none 0 0], []⟩ 8 (by kernel_rfl) (by kernel_rfl) (by kernel_rfl)
      (x := ([.lit (.int .i64 0), .nil], [], [])) (by kernel_rfl) rfl (by kernel_rfl)) ?_
  intro W base args ds gs before hval hW _ hk _
  exact contract H enc W base args ds gs before hval hW hk
theorem over : Rows.storeChainsUptoRow.holds Try.pinned (Rows.OpenSpec.upto Rows.storeChainsSpec) :=
  OpenClaim.holds_of_cond 3 Try.f3 rfl rfl rfl rfl rfl rfl rfl ⟨rfl, rfl, rfl, rfl, rfl⟩ rfl rfl rfl rfl rfl (by kernel_rfl) Try.func3 (by kernel_rfl)
    (of_decide_eq_true (by kernel_rfl)) (by unfold Func.isWrapper; first | (rw [if_pos (by decide +kernel)]; kernel_rfl) | (rw [if_neg (by decide +kernel)]; exact ⟨rfl, rfl⟩))
    (fun os started H enc _ F => lifted os started H enc F)
theorem proved : Rows.StoreChainsUptoSaid := over
end Go.Proofs.Ytojcddlpkfhodaa.storeChains
namespace Go.Proofs.Ytojcddlpkfhodaa
/-- The row, under a short name, for the claim. -/
theorem storeChains_holds : Rows.StoreChainsUptoSaid := storeChains.proved
end Go.Proofs.Ytojcddlpkfhodaa
