import Derived.Test.YtlpigppmbnaabaaB
import Derived.KernelRfl
namespace Go.Proofs.Ytlpigppmbnaabaa.W
open Go Go.Wk
set_option linter.unusedVariables false
set_option linter.unusedSimpArgs false
theorem newmaps_set {ms : List Nat} {i n b : Nat} (hl : ms.length = i) (hi : i < n) : (ms.map (fun r => Value.map (some r)) ++ List.replicate (n - i) (Value.map none)).set i (.map (some b)) = (ms ++ [b]).map (fun r => Value.map (some r)) ++ List.replicate (n - (i + 1)) (Value.map none) := by
  rw [List.set_append_right _ _ (by simp; omega), show n - i = (n - (i + 1)) + 1 from by omega, List.replicate_succ]
  have e : i - (ms.map (fun r => Value.map (some r))).length = 0 := by simp; omega
  rw [e, List.set_cons_zero]
  simp
theorem tmodN (a b : Nat) : (a : Int).tmod b = ((a % b : Nat) : Int) := by rw [Int.tmod_eq_emod_of_nonneg (by omega)]; rfl
theorem nodup_inj {α : Type} {l : List α} (h : l.Nodup) {i j : Nat} {x : α} (hi : l[i]? = some x) (hj : l[j]? = some x) : i = j := by
  obtain ⟨h1, h2⟩ := List.getElem?_eq_some_iff.1 hi
  obtain ⟨h3, h4⟩ := List.getElem?_eq_some_iff.1 hj
  rcases Nat.lt_trichotomy i j with h5 | h5 | h5
  · exact absurd (h2.trans h4.symm) (List.pairwise_iff_getElem.1 h i j h1 h3 h5)
  · exact h5
  · exact absurd (h4.trans h2.symm) (List.pairwise_iff_getElem.1 h j i h3 h1 h5)
abbrev kv : Key → Value := fun x => Value.agg (encKey x).toArray
def fpD (b bp : Nat) (rs : List Nat) (x : Nat) : Prop := x = b ∨ x = bp ∨ x ∈ rs
theorem nodup_pair {α : Type} {l : List α} (f : α → Int) (hn : (l.map f).Nodup) (hp : l.Pairwise (fun a b => f a ≤ f b)) : l.Pairwise (fun a b => f a < f b) := by
  rw [List.pairwise_iff_getElem] at *
  intro i j hi hj hij
  have h1 := hp i j hi hj hij
  have h2 : f l[i] ≠ f l[j] := fun e => by
    have := nodup_inj hn (i := i) (j := j) (x := f l[i]) (by rw [List.getElem?_map, List.getElem?_eq_getElem hi]; rfl) (by rw [List.getElem?_map, List.getElem?_eq_getElem hj, Option.map_some, e])
    omega
  omega
theorem u64_nn (x : Int) : 0 ≤ IntKind.u64.wrap x ∧ IntKind.u64.wrap x ≤ 18446744073709551615 := by rw [IntKind.wrap_u64]; omega
def nilK (k : Key) : Nat := 0
theorem nil_ret (k : Key) (w : World) : Ret Try.prog 13 [.agg #[.int .i64 k.table, .int .i64 k.row]] w fun v w' => v = .int .u64 ((nilK k : Nat) : Int) ∧ Kp none_ w w' := by
  have hkw : Kp none_ w w := Kp.refl w
  refine enterR Try.func13 rfl Try.ntmps13 rfl ?_
  intro g0
  refine seq_ ?_
  refine region_ ?_
  refine wl_box (v := .agg #[.int .i64 k.table, .int .i64 k.row]) rfl rfl ?_
  intro b1 w1 hg1 hk1 hb1
  have hkw_w1 := hkw.comp hk1 (fun _ _ e => e.elim)
  have hs1 := hk1.size
  refine wl_valE (v := .int .u64 ((0 : Nat) : Int)) rfl (rf_assign rfl) rfl ?_
  refine wl_nil ?_
  refine thn ?_
  refine seq_ ?_
  refine region_ ?_
  refine wl_valE (v := .int .u64 ((0 : Nat) : Int)) rfl (rf_assign rfl) rfl ?_
  refine wl_nil ?_
  refine thn ?_
  refine ret_ ?_
  refine fin1 (v := .int .u64 ((0 : Nat) : Int)) Try.results13 rfl rfl ?_
  exact ⟨rfl, hkw_w1⟩
end Go.Proofs.Ytlpigppmbnaabaa.W
