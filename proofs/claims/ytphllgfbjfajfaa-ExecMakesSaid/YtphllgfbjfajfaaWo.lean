/- THE ROW KIT: what an argument reads as. -/
import Derived.Deep.Slices
import Derived.WalkKit
import Derived.ProofKit
import Derived.OpenShut
import Derived.ShutString
import Derived.ChangeOld
import Derived.Below
import Derived.Carry
import Derived.SizedLaws
import Derived.KernelRfl
import Derived.Test.YtphllgfbjfajfaaWk
namespace Go.Wk
open Go.ChangeShapes Go.WideShapes
set_option linter.unusedVariables false
/-! ## The row's side: what an argument reads as -/
theorem cell_spot {w : World} {a : Addr} {v : Value} (h : w.cell? a = some v) : a.spot = none := by
  unfold World.cell? at h
  split at h
  · split at h
    · cases h
    · rename_i hs
      cases hq : a.spot with
      | none => rfl
      | some x => rw [hq] at hs; exact absurd rfl hs
  · cases h
section
variable {H : Type} {B : DataW H → Prop} {Len : Nat → Prop} {encH : TypeId × Value → H} {P : Program} {w : World} {base : Nat} {spare : Nat → Bool} {held : Bool}
/-- What a reading weighs. -/
def Wt (P : Program) (t : TypeId) (d : DataW H) : Prop := (d.weights P t).all (· ≤ reachBytes) = true
theorem wt_each {P : Program} : ∀ {ts : List TypeId} {ds : List (DataW H)} {j : Nat} {t : TypeId} {d : DataW H}, (DataW.weightsEach P ts ds).all (· ≤ reachBytes) = true → ts[j]? = some t → ds[j]? = some d → Wt P t d
  | t :: ts, d :: ds, 0, _, _, h, h1, h2 => by
    cases h1; cases h2
    rw [DataW.weightsEach, List.all_append, Bool.and_eq_true] at h
    exact h.1
  | t :: ts, d :: ds, j + 1, _, _, h, h1, h2 => by
    rw [DataW.weightsEach, List.all_append, Bool.and_eq_true] at h
    exact wt_each h.2 (by simpa using h1) (by simpa using h2)
  | [], _, _, _, _, _, h1, _ => by simp at h1
  | _ :: _, [], _, _, _, _, _, h2 => by simp at h2
theorem wt_all {P : Program} {e : TypeId} : ∀ {ds : List (DataW H)} {d : DataW H}, (DataW.weightsAll P e ds).all (· ≤ reachBytes) = true → d ∈ ds → Wt P e d
  | [], _, _, h2 => by cases h2
  | x :: ds, d, h, h2 => by
    rw [DataW.weightsAll, List.all_append, Bool.and_eq_true] at h
    rcases List.mem_cons.1 h2 with rfl | h2
    · exact h.1
    · exact wt_all h.2 h2
theorem wt_agg {P : Program} {t : TypeId} {fs : Array Field} {l : List (DataW H)} (ht : P.underlying t = some (.struct fs)) (h : Wt P t (.agg l)) : (DataW.weightsEach P (fs.toList.map (·.type)) l).all (· ≤ reachBytes) = true := by
  unfold Wt at h; rw [DataW.weights, ht] at h; exact h
theorem wt_slice {P : Program} {t e : TypeId} {l sp : List (DataW H)} (ht : P.underlying t = some (.slice e)) (h : Wt P t (.slice l sp)) : (l.length + sp.length) * P.bytesOf e ≤ reachBytes ∧ ∀ d ∈ l, Wt P e d := by
  unfold Wt at h; rw [DataW.weights, ht] at h
  rw [List.all_cons, Bool.and_eq_true, List.all_append, Bool.and_eq_true] at h
  exact ⟨of_decide_eq_true h.1, fun d hd => wt_all h.2.1 hd⟩
theorem wt_string {P : Program} {t : TypeId} {b : List UInt8} (h : Wt P t (.lit (.string b) : DataW H)) : b.length ≤ 140737488351232 := by
  unfold Wt at h; rw [DataW.weights] at h
  rw [List.all_cons, Bool.and_eq_true] at h
  have := of_decide_eq_true h.1
  exact Nat.le_trans this (by decide)
/-- A bound on a reading that its parts inherit. -/
structure Her (B : DataW H → Prop) (Len : Nat → Prop) : Prop where
  agg : ∀ l, B (.agg l) → ∀ d ∈ l, B d
  sl : ∀ l sp, B (.slice l sp) → (∀ d ∈ l, B d) ∧ Len l.length
  nil : Len 0
/-- The cells of a type read so. -/
def Dec (B : DataW H → Prop) (encH : TypeId × Value → H) (P : Program) (w : World) (base : Nat) (spare : Nat → Bool) (held : Bool) (t : TypeId) (R : List Value → Prop) : Prop := ∀ (n : Nat) (cs : List Value) (x : DataW H × List MemPlace), DataW.trod encH P w base spare held n t cs = some x → B x.1 → Wt P t x.1 → R cs
theorem Dec.int {t : TypeId} {k : IntKind} (ht : P.underlying t = some (.int k)) : Dec B encH P w base spare held t (fun cs => ∃ n, cs = [.int k n] ∧ (Lit.int k n).wf = true) := fun n cs x h _ _ => by
  obtain ⟨n', h1, h2, h3⟩ := DataW.trod_int ht h
  exact ⟨n', h1, h3⟩
theorem Dec.bool {t : TypeId} (ht : P.underlying t = some .bool) : Dec B encH P w base spare held t (fun cs => ∃ b, cs = [.bool b]) := fun n cs x h _ _ => by
  obtain ⟨b, h1, h2⟩ := DataW.trod_bool ht h
  exact ⟨b, h1⟩
theorem Dec.string {t : TypeId} (ht : P.underlying t = some .string) : Dec B encH P w base spare held t (fun cs => ∃ s : ByteArray, cs = [.string s] ∧ s.size ≤ maxLen ∧ s.size ≤ 140737488351232) := fun n cs x h _ hW => by
  obtain ⟨b, h1, h2, h3⟩ := DataW.trod_string ht h
  subst h2
  exact ⟨b, h1, h3, by simpa using wt_string hW⟩
theorem Dec.fields (her : Her B Len) {t : TypeId} {fs : Array Field} (ht : P.underlying t = some (.struct fs)) {n : Nat} {cs : List Value} {x : DataW H × List MemPlace} (h : DataW.trod encH P w base spare held n t cs = some x) (hB : B x.1) (hW : Wt P t x.1) :
    cs.length = P.cellsOf t ∧ ∀ (i : Nat) (f : Field) (R : List Value → Prop), fs[i]? = some f → Dec B encH P w base spare held f.type R → R ((cs.drop f.offset).take (P.cellsOf f.type)) := by
  obtain ⟨xs, m, rfl, rfl, h1, h2, h3⟩ := DataW.trod_struct ht h
  refine ⟨h1, fun i f R hf hd => ?_⟩
  have h4 := h3 i f hf
  have hi : i < xs.length := by rw [h2]; exact (Array.getElem?_eq_some_iff.1 hf).1
  rw [List.getElem?_eq_getElem hi] at h4
  exact hd _ _ _ h4 (her.agg _ hB _ (List.mem_map.2 ⟨_, List.getElem_mem hi, rfl⟩)) (wt_each (j := i) (wt_agg ht hW) (by simp [hf]) (by simp [hi]))
/-- A slice's elements, each decoded. -/
theorem Dec.slice (her : Her B Len) {α : Type} {enc : α → List Value} {sz : Nat} {Q : α → Prop} {t e : TypeId} (hu : P.underlying t = some (.slice e)) (hc : P.cellsOf e = sz) (hpos : 0 < sz) (hsz : ∀ y, (enc y).length = sz) {bytes : Nat} (hby : P.bytesOf e = bytes) (hel : Dec B encH P w base spare held e (fun cs => ∃ y, cs = enc y ∧ Q y)) :
    Dec B encH P w base spare held t (fun cs => ∃ v l, cs = [v] ∧ Rd enc sz w (fun b => b < w.heap.size) v l ∧ (∀ y ∈ l, Q y) ∧ l.length ≤ maxLen ∧ Len l.length ∧ l.length * bytes ≤ 140737488351232) := by
  intro n cs x h hB hW
  rcases Go.Deep.open_slice hu h with ⟨rfl, _⟩ | ⟨a, len, cap, m, n', D, Pl, rfl, hb, hl, hm, hmm, hxe, hx⟩
  · exact ⟨_, [], rfl, Rd.nil _ _, fun y hy => by simp at hy, Nat.zero_le _, her.nil, by simp⟩
  · have hlm : len ≤ m := by rw [hmm]; split <;> omega
    subst hxe
    obtain ⟨hBe, hLe⟩ := her.sl _ _ hB
    rw [List.length_map, List.length_range] at hLe
    obtain ⟨hWl, hWe⟩ := wt_slice hu hW
    rw [List.length_map, List.length_range, hby] at hWl
    have hfit : len * bytes ≤ 140737488351232 := Nat.le_trans (Nat.le_trans (Nat.mul_le_mul_right _ (Nat.le_add_right _ _)) hWl) (by decide)
    have key : ∀ i, i < len → ∃ y, (∀ j u, (enc y)[j]? = some u → w.cell? (a.add (i * sz + j)) = some u) ∧ Q y := by
      intro i hi
      obtain ⟨cs', h1, h2⟩ := hx i (by omega)
      obtain ⟨y, rfl, hq⟩ := hel _ _ _ h2 (hBe _ (List.mem_map.2 ⟨i, List.mem_range.2 hi, rfl⟩)) (hWe _ (List.mem_map.2 ⟨i, List.mem_range.2 hi, rfl⟩))
      rw [hc] at h1
      obtain ⟨_, h3, h4⟩ := World.cells?_some h1
      refine ⟨y, fun j u hj => ?_, hq⟩
      have hj' : j < sz := by rw [← hsz y]; exact (List.getElem?_eq_some_iff.1 hj).1
      rw [← hj, ← h4 j hj', Go.Deep.add_add]
    have hch : ∃ l : List α, l.length = len ∧ ∀ i y, l[i]? = some y → (∀ j u, (enc y)[j]? = some u → w.cell? (a.add (i * sz + j)) = some u) ∧ Q y := by
      clear hx hmm hlm hm hl h hB hBe hLe hW hWl hWe hfit
      induction len with
      | zero => exact ⟨[], rfl, fun i y hy => by simp at hy⟩
      | succ k ih =>
        obtain ⟨l, h1, h2⟩ := ih (fun i hi => key i (by omega))
        obtain ⟨y, h3, h4⟩ := key k (by omega)
        refine ⟨l ++ [y], by simp [h1], fun i z hz => ?_⟩
        rcases Nat.lt_or_ge i k with hi | hi
        · rw [List.getElem?_append_left (by omega)] at hz; exact h2 i z hz
        · rw [List.getElem?_append_right (by omega)] at hz
          have : i = k := by
            rcases Nat.eq_or_lt_of_le hi with h | h
            · exact h.symm
            · rw [List.getElem?_eq_none (by simp; omega)] at hz; cases hz
          subst this
          rw [h1, Nat.sub_self] at hz
          simp at hz
          subst hz
          exact ⟨h3, h4⟩
    obtain ⟨l, rfl, hcell⟩ := hch
    refine ⟨_, l, rfl, ⟨some a, cap, rfl, hl, fun hp => ?_⟩, fun y hy => ?_, by omega, hLe, hfit⟩
    · have h0 := hcell 0 l[0] (List.getElem?_eq_getElem hp)
      have hpos' : 0 < (enc l[0]).length := by rw [hsz]; exact hpos
      have h1 := h0.1 0 _ (List.getElem?_eq_getElem hpos')
      rw [Nat.zero_mul, Nat.add_zero] at h1
      simp only [Addr.add] at h1
      have hs := cell_spot h1
      obtain ⟨ab, ao, asp⟩ := a
      simp only at hs
      subst hs
      refine ⟨ab, ao, rfl, World.block_lt_of_cell? w _ h1, World.block_lt_of_cell? w _ h1, fun i x hx j u hj => ?_⟩
      have := (hcell i x hx).1 j u hj
      rw [add_at] at this
      rw [Nat.add_assoc]
      exact this
    · obtain ⟨i, hi⟩ := List.getElem?_of_mem hy
      exact (hcell i y hi).2
theorem Dec.arg {t : TypeId} {R : List Value → Prop} {v : Value} {d : DataW H} {ps : List MemPlace} (hd : Dec B encH P w base spare held t R) (h : DataW.Trod encH P w base spare held t v d ps) (hB : B d) (hW : Wt P t d) : R v.cells.toList := by
  obtain ⟨n, h⟩ := h
  exact hd _ _ _ h hB hW
theorem slice_fit {ts : List TypeId} {ds : List (DataW H)} {j : Nat} {t e : TypeId} {bytes : Nat} {a : Option Addr} {len cap : Nat} {d : DataW H} {ps : List MemPlace} (h : (DataW.weightsEach P ts ds).all (· ≤ reachBytes) = true) (ht : ts[j]? = some t) (hd : ds[j]? = some d) (hu : P.underlying t = some (.slice e)) (hb : P.bytesOf e = bytes) (hr : DataW.Trod encH P w base spare held t (.slice a len cap) d ps) :
    len * bytes ≤ 140737488351232 := by
  obtain ⟨n, hn⟩ := hr
  rcases DataW.trod_slice hu hn with ⟨hcs, _⟩ | ⟨a', len', cap', elems, rest, m, _, hcs, hx, _, _, _, hl, _⟩
  · simp [Value.cells] at hcs
    obtain ⟨_, rfl, _⟩ := hcs
    rw [Nat.zero_mul]; exact Nat.zero_le _
  · simp [Value.cells] at hcs
    obtain ⟨_, rfl, _⟩ := hcs
    simp only [Prod.mk.injEq] at hx
    have := sized_slice h ht (by rw [hd, hx.1]) hu
    rw [hb, List.length_map, List.length_map, hl] at this
    have h2 : len * bytes ≤ (len + rest.length) * bytes := Nat.mul_le_mul_right _ (by omega)
    have h3 : reachBytes ≤ 140737488351232 := by decide
    omega
end
end Go.Wk
