/- DictWalks returns true for every two lists of keys that hold together at most 1048576 values; its arguments stay as they were. -/
import Derived.Test.YtlpigppmbnaabaaRows
import Derived.Test.YtlpigppmbnaabaaWo
import Derived.Test.YtlpigppmbnaabaaLWalks
import Derived.JoinedCond
namespace Go.Proofs.Ytlpigppmbnaabaa.dictWalks
open Go Go.Wk Go.Proofs.Ytlpigppmbnaabaa.W
open Go.ChangeShapes Go.WideShapes Go.ChangeAt Go.RowKit
open Go.ChangeMaps (open_string shut_string)
set_option linter.unusedVariables false
theorem own : ownKnob Try.prog.godebug = none := by kernel_rfl
theorem laidOut : laidOutB Try.prog = true := by kernel_rfl
abbrev LEN : Nat → Prop := fun n => n ≤ 1048576
theorem decI {P : Program} {t : TypeId} {H : Type} {B : DataW H → Prop} {encH : TypeId × Value → H} {w : World} {base : Nat} {spare : Nat → Bool} {held : Bool} (ht : P.underlying t = some (.int .i64)) : Dec B encH P w base spare held t (fun cs => ∃ y : Int, cs = W.encI y ∧ (Lit.int .i64 y).wf = true) := Dec.int ht
theorem decB {P : Program} {t : TypeId} {H : Type} {B : DataW H → Prop} {encH : TypeId × Value → H} {w : World} {base : Nat} {spare : Nat → Bool} {held : Bool} (ht : P.underlying t = some .bool) : Dec B encH P w base spare held t (fun cs => ∃ y : Bool, cs = W.encB y ∧ True) := fun n cs x h hB => let ⟨b, h⟩ := Dec.bool ht n cs x h hB; ⟨b, h, trivial⟩

theorem one_le {H : Type} (d : DataW H) : 1 ≤ Rows.uptoBulk d := by
  cases d with
  | lit l => cases l <;> simp [Rows.uptoBulk]
  | _ => simp [Rows.uptoBulk]
theorem part_le {H : Type} {d : DataW H} {l : List (DataW H)} (h : d ∈ l) : Rows.uptoBulk d ≤ Rows.uptoBulkAll l := by
  induction l with
  | nil => cases h
  | cons x r ih =>
    simp only [Rows.uptoBulkAll]
    cases List.mem_cons.1 h with
    | inl e => subst e; omega
    | inr e => have := ih e; omega
theorem length_le {H : Type} (l : List (DataW H)) : l.length ≤ Rows.uptoBulkAll l := by
  induction l with
  | nil => simp [Rows.uptoBulkAll]
  | cons x r ih => have := one_le x; simp only [Rows.uptoBulkAll, List.length_cons]; omega
theorem her {H : Type} : Her (fun d : DataW H => Rows.uptoBulk d ≤ 1048576) LEN where
  agg l h d hd := by
    have h1 := part_le hd
    have h2 : Rows.uptoBulkAll l + 1 ≤ 1048576 := by simpa only [Rows.uptoBulk] using h
    show Rows.uptoBulk d ≤ 1048576
    omega
  sl l sp h := by
    have h2 : Rows.uptoBulkAll l + Rows.uptoBulkAll sp + 1 ≤ 1048576 := by simpa only [Rows.uptoBulk] using h
    refine ⟨fun d hd => ?_, ?_⟩
    · have h1 := part_le hd
      show Rows.uptoBulk d ≤ 1048576
      omega
    · have := length_le l
      show l.length ≤ 1048576
      omega
  nil := Nat.zero_le _
theorem bound {H : Type} {l : List (DataW H)} (hk : Rows.uptoSmall H l = true) : Rows.uptoBulkAll l ≤ 1048576 := of_decide_eq_true hk

def WfKey (x : Key) : Prop := (Lit.int .i64 x.table).wf = true ∧ (Lit.int .i64 x.row).wf = true
theorem dec28 {H : Type} {B : DataW H → Prop} {encH : TypeId × Value → H} {w : World} {base : Nat} {spare : Nat → Bool} {held : Bool} (her : Her B LEN) : Dec B encH Try.prog w base spare held 28 (fun cs => ∃ y : Key, cs = encKey y ∧ WfKey y) := fun n cs x h hB => by
  obtain ⟨hl, hf⟩ := Dec.fields her Try.underlying28 h hB
  have c0 : Try.prog.cellsOf 3 = 1 := by kernel_rfl
  obtain ⟨y0, e0, w0⟩ := hf 0 _ _ rfl (Dec.int Try.underlying3)
  replace e0 : (cs.drop 0).take (Try.prog.cellsOf 3) = _ := e0
  rw [c0] at e0
  have c1 : Try.prog.cellsOf 2 = 1 := by kernel_rfl
  obtain ⟨y1, e1, w1⟩ := hf 1 _ _ rfl (Dec.int Try.underlying2)
  replace e1 : (cs.drop 1).take (Try.prog.cellsOf 2) = _ := e1
  rw [c1] at e1
  have hl2 : cs.length = 2 := hl.trans (by kernel_rfl)
  obtain ⟨q0, q1, rfl⟩ : ∃ q0 q1, cs = [q0, q1] := by match cs, hl2 with | [q0, q1], _ => exact ⟨_, _, rfl⟩
  simp at e0 e1
  subst e0
  subst e1
  exact ⟨⟨y0, y1⟩, rfl, ⟨w0, w1⟩⟩

set_option maxRecDepth 100000 in
theorem contract (H : Type) (enc : TypeId × Value → H) (W : World) (base : Nat) (args : Array Value) (ds gs : List (DataW H)) (before : List MemPlace)
    (hval0 : ∀ (j : Nat) t v, Try.f4.params[j]? = some t → args[j]? = some v → Value.okWide Try.prog W .any base t v)
    (hW : DataW.Whole enc Try.prog Try.f4.params.toList Rows.dictWalksSpec.vars false W args.toList ds gs before) (hsm : Rows.uptoSmall H (ds ++ gs) = true) :
    Calls Try.prog 4 args W fun e W' => ∃ v, e = .returned v ∧ Rows.dictWalksSpec.post enc Try.prog Try.f4 false true false false W args v W' := by
  have hW' := hW
  obtain ⟨p, q, hA0, hV, rfl, hfz, hnd⟩ := hW
  have hval : ∀ (j : Nat) t v, Try.f4.params[j]? = some t → args[j]? = some v → Value.okWide Try.prog W .any base t v := hval0
  have hA : DataW.TrodAll enc Try.prog W 0 (fun _ => true) true Try.f4.params.toList args.toList ds p := hA0
  rw [Try.params4] at hA hval
  obtain ⟨v0, vs0, d0, ds0, p0, q0, hargs, rfl, rfl, h0, r0⟩ := trodAll_cons hA
  obtain ⟨v1, vs1, d1, ds1, p1, q1, rfl, rfl, rfl, h1, r1⟩ := trodAll_cons r0
  obtain ⟨rfl, rfl, rfl⟩ := trodAll_nil r1
  obtain rfl : args = #[v0, v1] := by cases args; simp_all
  obtain ⟨rfl, rfl⟩ := trodVars_none hV
  have hbd := bound hsm
  have lt0 : ∀ x ∈ p0, x.block < W.heap.size := by obtain ⟨m, hm⟩ := h0; exact DataW.trod_lt m _ _ _ hm
  obtain ⟨x0, len0, cap0, rfl⟩ := okWide_slice Try.underlying22 (hval 0 22 v0 rfl rfl)
  obtain ⟨v0, l0, hc0, hr0, hq0, hm0, hb0⟩ := (Dec.slice her (enc := encKey) (sz := 2) (Q := fun y => WfKey y) Try.underlying22 (by kernel_rfl) (by decide) encKey_len (dec28 her)).arg h0 (Nat.le_trans (part_le (by simp)) hbd)
  have hc0' : Value.slice x0 len0 cap0 = v0 := by simpa [Value.cells] using hc0
  obtain ⟨x0', cap0', hf0, _⟩ := hr0.form
  have hl0 : len0 = l0.length := by rw [← hc0'] at hf0; cases hf0; rfl
  rw [← hc0'] at hr0
  have lt1 : ∀ x ∈ p1, x.block < W.heap.size := by obtain ⟨m, hm⟩ := h1; exact DataW.trod_lt m _ _ _ hm
  obtain ⟨x1, len1, cap1, rfl⟩ := okWide_slice Try.underlying22 (hval 1 22 v1 rfl rfl)
  obtain ⟨v1, l1, hc1, hr1, hq1, hm1, hb1⟩ := (Dec.slice her (enc := encKey) (sz := 2) (Q := fun y => WfKey y) Try.underlying22 (by kernel_rfl) (by decide) encKey_len (dec28 her)).arg h1 (Nat.le_trans (part_le (by simp)) hbd)
  have hc1' : Value.slice x1 len1 cap1 = v1 := by simpa [Value.cells] using hc1
  obtain ⟨x1', cap1', hf1, _⟩ := hr1.form
  have hl1 : len1 = l1.length := by rw [← hc1'] at hf1; cases hf1; rfl
  rw [← hc1'] at hr1
  clear hA0 hval0 hsm
  refine Calls.mono (Tr.top (walks_tr x0 len0 cap0 l0 x1 len1 cap1 l1 (by rw [hl0]; exact hb0) (by rw [hl1]; exact hb1)) (getH_cons (rdH_of hr0) (getH_cons (rdH_of hr1) getH_nil))) fun e W' ⟨v, he, hv, hk⟩ => ?_
  subst he hv
  have bel := hk.below (Nat.le_refl _) (fun b h => h.elim)
  exact ⟨_, rfl, _, _, _, [], _, [], hW', trodAll_mk1 (shut_bool Try.underlying4 _), (trodAll_cons_mk (Below.trod laidOut (by kernel_rfl) (of_decide_eq_true (by kernel_rfl)) h0 bel lt0) (trodAll_cons_mk (Below.trod laidOut (by kernel_rfl) (of_decide_eq_true (by kernel_rfl)) h1 bel lt1) trodAll_mk0)), rfl, bel.frame _, fun h => by cases h⟩
set_option maxRecDepth 100000 in
theorem lifted (os : Os) (started : os.Started) (H : Type) (enc : TypeId × Value → H) (F : Stop.Interp) :
    ReturnsInHanded {} Try.checked os 4 .any ((Rows.OpenSpec.upto Rows.dictWalksSpec).pre6 enc Try.prog Try.f4 Rows.dictWalksUptoRow.domain false) (((Rows.OpenSpec.upto Rows.dictWalksSpec).at F).post enc Try.prog Try.f4 false true false false) := by
  refine returnsInHanded_of_cond (C := Try.checked) (s := Rows.OpenSpec.upto Rows.dictWalksSpec) (k := Rows.uptoSmall) rfl own started (by kernel_rfl) Try.func4
    (OpenSpec.witness (enc := enc) (C := Try.checked) (s := Rows.OpenSpec.upto Rows.dictWalksSpec) (k := Rows.uptoSmall) rfl false ⟨#[], #[.slice none 0 0, .slice none 0 0], []⟩ 8 (by kernel_rfl) (by kernel_rfl) (by kernel_rfl)
      (x := ([.nil, .nil], [], [])) (by kernel_rfl) rfl (by kernel_rfl)) ?_
  intro W base args ds gs before hval hW _ hk _
  exact contract H enc W base args ds gs before hval hW hk
theorem over : Rows.dictWalksUptoRow.holds Try.pinned (Rows.OpenSpec.upto Rows.dictWalksSpec) :=
  OpenClaim.holds_of_cond 4 Try.f4 rfl rfl rfl rfl rfl rfl rfl ⟨rfl, rfl, rfl, rfl, rfl⟩ rfl rfl rfl rfl rfl (by kernel_rfl) Try.func4 (by kernel_rfl)
    (of_decide_eq_true (by kernel_rfl)) (by unfold Func.isWrapper; first | (rw [if_pos (by decide +kernel)]; kernel_rfl) | (rw [if_neg (by decide +kernel)]; exact ⟨rfl, rfl⟩))
    (fun os started H enc _ F => lifted os started H enc F)
theorem proved : Rows.DictWalksUptoSaid := over
end Go.Proofs.Ytlpigppmbnaabaa.dictWalks
namespace Go.Proofs.Ytlpigppmbnaabaa
/-- The row, under a short name, for the claim. -/
theorem dictWalks_holds : Rows.DictWalksUptoSaid := dictWalks.proved
end Go.Proofs.Ytlpigppmbnaabaa
