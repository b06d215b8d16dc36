import Derived.Test.YtenhbogebfdjjaaB
import Derived.KernelRfl
namespace Go.Proofs.Ytenhbogebfdjjaa.W
open Go Go.Wk
set_option linter.unusedVariables false
theorem newmaps_set {ms : List Nat} {i n b : Nat} (hl : ms.length = i) (hi : i < n) : (ms.map (fun r => Value.map (some r)) ++ List.replicate (n - i) (Value.map none)).set i (.map (some b)) = (ms ++ [b]).map (fun r => Value.map (some r)) ++ List.replicate (n - (i + 1)) (Value.map none) := by
  rw [List.set_append_right _ _ (by simp; omega), show n - i = (n - (i + 1)) + 1 from by omega, List.replicate_succ]
  have e : i - (ms.map (fun r => Value.map (some r))).length = 0 := by simp; omega
  rw [e, List.set_cons_zero]
  simp
theorem tmodN (a b : Nat) : (a : Int).tmod b = ((a % b : Nat) : Int) := by rw [Int.tmod_eq_emod_of_nonneg (by omega)]; rfl
theorem nodup_inj {α : Type} {l : List α} (h : l.Nodup) {i j : Nat} {x : α} (hi : l[i]? = some x) (hj : l[j]? = some x) : i = j := by
  obtain ⟨h1, h2⟩ := List.getElem?_eq_some_iff.1 hi
  obtain ⟨h3, h4⟩ := List.getElem?_eq_some_iff.1 hj
  rcases Nat.lt_trichotomy i j with h5 | h5 | h5
  · exact absurd (h2.trans h4.symm) (List.pairwise_iff_getElem.1 h i j h1 h3 h5)
  · exact h5
  · exact absurd (h4.trans h2.symm) (List.pairwise_iff_getElem.1 h j i h3 h1 h5)
abbrev kv : Key → Value := fun x => Value.agg (encKey x).toArray
def fpD (b bp : Nat) (rs : List Nat) (x : Nat) : Prop := x = b ∨ x = bp ∨ x ∈ rs
theorem nodup_pair {α : Type} {l : List α} (f : α → Int) (hn : (l.map f).Nodup) (hp : l.Pairwise (fun a b => f a ≤ f b)) : l.Pairwise (fun a b => f a < f b) := by
  rw [List.pairwise_iff_getElem] at *
  intro i j hi hj hij
  have h1 := hp i j hi hj hij
  have h2 : f l[i] ≠ f l[j] := fun e => by
    have := nodup_inj hn (i := i) (j := j) (x := f l[i]) (by rw [List.getElem?_map, List.getElem?_eq_getElem hi]; rfl) (by rw [List.getElem?_map, List.getElem?_eq_getElem hj, Option.map_some, e])
    omega
  omega
theorem u64_nn (x : Int) : 0 ≤ IntKind.u64.wrap x ∧ IntKind.u64.wrap x ≤ 18446744073709551615 := by rw [IntKind.wrap_u64]; omega

def mix0 (k : Key) : Int := IntKind.u64.wrap (IntKind.u64.wrap (IntKind.u64.wrap k.table * 40503) + IntKind.u64.wrap (IntKind.u64.wrap k.row * 2654435761))
def mixI (k : Key) : Int := bits .xor .u64 (mix0 k) (mix0 k / 2 ^ 17)
def mixF (k : Key) : Nat := (mixI k).toNat
theorem mixF_cast (k : Key) : ((mixF k : Nat) : Int) = mixI k := by have : 0 ≤ mixI k := by unfold mixI bits; exact (u64_nn _).1
                                                                    unfold mixF; omega
def rouI (k : Key) : Int := IntKind.u64.wrap (bits .and .u64 (IntKind.u64.wrap k.row) 3 * 4611686018427387904)
def rouF (k : Key) : Nat := (rouI k).toNat
theorem rouF_cast (k : Key) : ((rouF k : Nat) : Int) = rouI k := by have : 0 ≤ rouI k := (u64_nn _).1
                                                                    unfold rouF; omega
theorem mixed_ret (k : Key) (w : World) : Ret Try.prog 5 [.agg #[.int .i64 k.table, .int .i64 k.row]] w fun v w' => v = .int .u64 ((mixF k : Nat) : Int) ∧ Kp none_ w w' := by
  refine enterR Try.func5 rfl Try.ntmps5 rfl ?_
  intro g0
  refine seq_ ?_
  refine region_ ?_
  refine wl_box (v := .agg #[.int .i64 k.table, .int .i64 k.row]) rfl rfl ?_
  intro b1 w1 hg1 hk1 hb1
  have hs1 := hk1.size
  refine wl_valE (v := .int .u64 ((0 : Nat) : Int)) rfl (rf_assign rfl) rfl ?_
  refine wl_nil ?_
  refine thn ?_
  refine seq_ ?_
  refine region_ ?_
  refine wl_valE (v := .pointer (some ⟨b1, 0, none⟩)) rfl (rf_fieldAddr Try.underlying28 rfl ti3 rfl rfl) rfl ?_
  refine wl_valE (v := .int .i64 k.table) rfl (rf_load Try.underlying3 rfl rfl rfl (hb1.cell rfl)) rfl ?_
  refine wl_valE (v := .int .u64 (IntKind.u64.wrap k.table)) rfl (rf_conv Try.underlying3 Try.underlying36 rfl rfl rfl) rfl ?_
  refine wl_valE (v := .int .u64 (IntKind.u64.wrap (IntKind.u64.wrap k.table * 40503))) rfl (rf_mul rfl rfl rfl rfl rfl) rfl ?_
  refine wl_valE (v := .pointer (some ⟨b1, 1, none⟩)) rfl (rf_fieldAddr Try.underlying28 rfl ti2 rfl rfl) rfl ?_
  refine wl_valE (v := .int .i64 k.row) rfl (rf_load Try.underlying2 rfl rfl rfl (hb1.cell rfl)) rfl ?_
  refine wl_valE (v := .int .u64 (IntKind.u64.wrap k.row)) rfl (rf_conv Try.underlying2 Try.underlying36 rfl rfl rfl) rfl ?_
  refine wl_valE (v := .int .u64 (IntKind.u64.wrap (IntKind.u64.wrap k.row * 2654435761))) rfl (rf_mul rfl rfl rfl rfl rfl) rfl ?_
  refine wl_valE (v := .int .u64 (mix0 k)) rfl (rf_add rfl rfl rfl rfl rfl) rfl ?_
  refine wl_valE (v := .int .u64 (mix0 k)) rfl (rf_assign rfl) rfl ?_
  refine wl_nil ?_
  refine thn ?_
  refine seq_ ?_
  refine region_ ?_
  refine wl_valE (v := .int .u64 (mix0 k)) rfl (rf_move rfl) rfl ?_
  refine wl_valE (v := .int .u64 (mix0 k)) rfl (rf_move rfl) rfl ?_
  refine wl_valE (v := .int .u64 (mix0 k / 2 ^ 17)) rfl (rf_shr rfl rfl rfl rfl (by omega) (by decide) rfl) rfl ?_
  refine wl_valE (v := .int .u64 (mixI k)) rfl (rf_xor rfl rfl rfl rfl rfl) rfl ?_
  refine wl_valE (v := .int .u64 (mixI k)) rfl (rf_assign rfl) rfl ?_
  refine wl_nil ?_
  refine thn ?_
  refine ret_ ?_
  refine fin1 (v := .int .u64 (mixI k)) Try.results5 rfl rfl ?_
  exact ⟨by rw [mixF_cast], hk1⟩
theorem rough_ret (k : Key) (w : World) : Ret Try.prog 6 [.agg #[.int .i64 k.table, .int .i64 k.row]] w fun v w' => v = .int .u64 ((rouF k : Nat) : Int) ∧ Kp none_ w w' := by
  refine enterR Try.func6 rfl Try.ntmps6 rfl ?_
  intro g0
  refine seq_ ?_
  refine region_ ?_
  refine wl_box (v := .agg #[.int .i64 k.table, .int .i64 k.row]) rfl rfl ?_
  intro b1 w1 hg1 hk1 hb1
  have hs1 := hk1.size
  refine wl_valE (v := .int .u64 ((0 : Nat) : Int)) rfl (rf_assign rfl) rfl ?_
  refine wl_nil ?_
  refine thn ?_
  refine seq_ ?_
  refine region_ ?_
  refine wl_valE (v := .pointer (some ⟨b1, 1, none⟩)) rfl (rf_fieldAddr Try.underlying28 rfl ti2 rfl rfl) rfl ?_
  refine wl_valE (v := .int .i64 k.row) rfl (rf_load Try.underlying2 rfl rfl rfl (hb1.cell rfl)) rfl ?_
  refine wl_valE (v := .int .u64 (IntKind.u64.wrap k.row)) rfl (rf_conv Try.underlying2 Try.underlying36 rfl rfl rfl) rfl ?_
  refine wl_valE (v := .int .u64 (bits .and .u64 (IntKind.u64.wrap k.row) 3)) rfl (rf_and rfl rfl rfl rfl rfl) rfl ?_
  refine wl_valE (v := .int .u64 (rouI k)) rfl (rf_shl rfl rfl rfl rfl (by omega) (by decide) (by show IntKind.u64.wrap (_ * 2 ^ 62) = _; rfl)) rfl ?_
  refine wl_valE (v := .int .u64 (rouI k)) rfl (rf_assign rfl) rfl ?_
  refine wl_nil ?_
  refine thn ?_
  refine ret_ ?_
  refine fin1 (v := .int .u64 (rouI k)) Try.results6 rfl rfl ?_
  exact ⟨by rw [rouF_cast], hk1⟩
end Go.Proofs.Ytenhbogebfdjjaa.W
