import Derived.Test.YtngpghddmehmhaaB
import Derived.KernelRfl
namespace Go.Proofs.Ytngpghddmehmhaa.W
open Go Go.Wk
set_option linter.unusedVariables false
theorem newmaps_set {ms : List Nat} {i n b : Nat} (hl : ms.length = i) (hi : i < n) : (ms.map (fun r => Value.map (some r)) ++ List.replicate (n - i) (Value.map none)).set i (.map (some b)) = (ms ++ [b]).map (fun r => Value.map (some r)) ++ List.replicate (n - (i + 1)) (Value.map none) := by
  rw [List.set_append_right _ _ (by simp; omega), show n - i = (n - (i + 1)) + 1 from by omega, List.replicate_succ]
  have e : i - (ms.map (fun r => Value.map (some r))).length = 0 := by simp; omega
  rw [e, List.set_cons_zero]
  simp
theorem tmodN (a b : Nat) : (a : Int).tmod b = ((a % b : Nat) : Int) := by rw [Int.tmod_eq_emod_of_nonneg (by omega)]; rfl
theorem nodup_inj {α : Type} {l : List α} (h : l.Nodup) {i j : Nat} {x : α} (hi : l[i]? = some x) (hj : l[j]? = some x) : i = j := by
  obtain ⟨h1, h2⟩ := List.getElem?_eq_some_iff.1 hi
  obtain ⟨h3, h4⟩ := List.getElem?_eq_some_iff.1 hj
  rcases Nat.lt_trichotomy i j with h5 | h5 | h5
  · exact absurd (h2.trans h4.symm) (List.pairwise_iff_getElem.1 h i j h1 h3 h5)
  · exact h5
  · exact absurd (h4.trans h2.symm) (List.pairwise_iff_getElem.1 h j i h3 h1 h5)
abbrev kv : ByteArray → Value := fun x => Value.string x
def fpD (b bp : Nat) (rs : List Nat) (x : Nat) : Prop := x = b ∨ x = bp ∨ x ∈ rs
theorem nodup_pair {α : Type} {l : List α} (f : α → Int) (hn : (l.map f).Nodup) (hp : l.Pairwise (fun a b => f a ≤ f b)) : l.Pairwise (fun a b => f a < f b) := by
  rw [List.pairwise_iff_getElem] at *
  intro i j hi hj hij
  have h1 := hp i j hi hj hij
  have h2 : f l[i] ≠ f l[j] := fun e => by
    have := nodup_inj hn (i := i) (j := j) (x := f l[i]) (by rw [List.getElem?_map, List.getElem?_eq_getElem hi]; rfl) (by rw [List.getElem?_map, List.getElem?_eq_getElem hj, Option.map_some, e])
    omega
  omega
theorem u64_nn (x : Int) : 0 ≤ IntKind.u64.wrap x ∧ IntKind.u64.wrap x ≤ 18446744073709551615 := by rw [IntKind.wrap_u64]; omega

structure PairV where
  a : Int
  b : Int
deriving DecidableEq
def encPV (x : PairV) : List Value := [.int .i64 x.a, .int .i64 x.b]
theorem encPV_len (x : PairV) : (encPV x).length = 2 := rfl
theorem encPV_one (x : PairV) : ∀ u ∈ encPV x, u.oneCell' = true := by simp [encPV, Value.oneCell']
def nilF (s : ByteArray) : Nat := 0
def shoF (s : ByteArray) : Nat := (IntKind.u64.wrap ((s.size : Nat) : Int)).toNat
theorem shoF_cast (s : ByteArray) : ((shoF s : Nat) : Int) = IntKind.u64.wrap ((s.size : Nat) : Int) := by have := (u64_nn ((s.size : Nat) : Int)).1; unfold shoF; omega
def lonS (h : Int) (b : UInt8) : Int := IntKind.u64.wrap (IntKind.u64.wrap (h * 31) + ((b.toNat : Nat) : Int))
def lonT (s : ByteArray) (i : Nat) : Int := (s.data.toList.take i).foldl lonS 7
def lonF (s : ByteArray) : Nat := (lonT s s.size).toNat
theorem lonT_nn (s : ByteArray) : ∀ i, 0 ≤ lonT s i := fun i => by
  unfold lonT
  rcases List.eq_nil_or_concat (s.data.toList.take i) with e | ⟨a, b, e⟩
  · rw [e]; decide
  · rw [e, List.concat_eq_append, List.foldl_append]
    exact (u64_nn _).1
theorem lonF_cast (s : ByteArray) : ((lonF s : Nat) : Int) = lonT s s.size := by have := lonT_nn s s.size; unfold lonF; omega
theorem lonT_succ (s : ByteArray) {i : Nat} (h : i < s.size) : IntKind.u64.wrap (IntKind.u64.wrap (lonT s i * 31) + ((s[i].toNat : Nat) : Int)) = lonT s (i + 1) := by
  have h1 : s.data.toList[i]? = some s[i] := by
    have h2 : i < s.data.size := h
    rw [Array.getElem?_toList, Array.getElem?_eq_getElem h2]; rfl
  unfold lonT
  rw [List.take_add_one, h1, Option.toList_some, List.foldl_append]
  rfl

structure TxtR where
  text : ByteArray
  num : Int
  out : Bool
def encTx (t : TxtR) : List Value := [.string t.text, .int .i64 t.num, .bool t.out]
theorem encTx_len (t : TxtR) : (encTx t).length = 3 := rfl
theorem er_eq {α : Type} (l : List α) (i : Nat) : ([] ++ l.take i) ++ l.drop (i + 1) = l.eraseIdx i := by rw [List.nil_append, List.eraseIdx_eq_take_drop_succ]
theorem slFrom {α : Type} {enc : α → List Value} {sz : Nat} {e : TypeId} {w : World} {b o cap : Nat} {l : List α} {F : Nat → Prop} (h : SlAt enc sz e w b o cap l) (hF : F b) (k : Nat) (hk : k ≤ l.length) :
    Rd enc sz w F (.slice (if cap = k then some ⟨b, o, none⟩ else (some (⟨b, o, none⟩ : Addr)).map (·.add (k * sz))) (l.length - k) (cap - k)) (l.drop k) := by
  have hl := h.le
  by_cases e : cap = k
  · refine ⟨_, _, by rw [List.length_drop], by rw [List.length_drop]; omega, fun hp => ?_⟩
    rw [List.length_drop] at hp; omega
  · rw [if_neg e]
    have := (h.drop k (by omega)).rd hF
    rw [List.length_drop] at this
    simpa [add_at] using this
theorem eqA28 (d : Nat) (w : World) (x0 y0 : Int) (x1 y1 : Int) : (Op.equalIn (d + 2) 28 (.agg #[.int .i64 x0, .int .i64 x1]) (.agg #[.int .i64 y0, .int .i64 y1])).run Try.prog w = .ok ((decide (x0 = y0) && decide (x1 = y1))) w := by
  refine eqA_of Try.underlying28 (by kernel_rfl) ?_
  refine eqf_cons rfl (part_one Try.underlying3 rfl rfl) (part_one Try.underlying3 rfl rfl) (eq_int (d := d + 0) Try.underlying3) ?_
  exact eqf_last rfl (part_one Try.underlying3 rfl rfl) (part_one Try.underlying3 rfl rfl) (eq_int (d := d + 0) Try.underlying3)
theorem eqPV (x y : PairV) (w : World) : (Op.equalIn 10000 28 (.agg (encPV x).toArray) (.agg (encPV y).toArray)).run Try.prog w = .ok (decide (x = y)) w := by
  have h := eqA28 9998 w x.a y.a x.b y.b
  have e : decide (x = y) = (decide (x.a = y.a) && decide (x.b = y.b)) := by
    rw [Bool.eq_iff_iff]; cases x; cases y; simp
  rw [e]; exact h
theorem short_ret (k : ByteArray) (hsz : k.size ≤ 9223372036854775807) (w : World) : Ret Try.prog 5 [.string k] w fun v w' => v = .int .u64 ((shoF k : Nat) : Int) ∧ Kp none_ w w' := by
  have hkw : Kp none_ w w := Kp.refl w
  refine enterR Try.func5 rfl Try.ntmps5 rfl ?_
  intro g0
  refine seq_ ?_
  refine region_ ?_
  refine wl_valE (v := .int .u64 ((0 : Nat) : Int)) rfl (rf_assign rfl) rfl ?_
  refine wl_nil ?_
  refine thn ?_
  refine seq_ ?_
  refine region_ ?_
  refine wl_valE (v := .string k) rfl (rf_move rfl) rfl ?_
  refine wl_valE (v := .int .i64 ((k.size : Nat) : Int)) rfl (rf_len_string Try.underlying9 rfl rfl) rfl ?_
  refine wl_valE (v := .int .u64 (IntKind.u64.wrap ((k.size : Nat) : Int))) rfl (rf_conv Try.underlying3 Try.underlying29 rfl rfl rfl) rfl ?_
  refine wl_valE (v := .int .u64 (IntKind.u64.wrap ((k.size : Nat) : Int))) rfl (rf_assign rfl) rfl ?_
  refine wl_nil ?_
  refine thn ?_
  refine ret_ ?_
  refine fin1 (v := .int .u64 (IntKind.u64.wrap ((k.size : Nat) : Int))) Try.results5 rfl rfl ?_
  exact ⟨by rw [shoF_cast], hkw⟩
theorem long_ret (k : ByteArray) (hsz : k.size ≤ 9223372036854775807) (w : World) : Ret Try.prog 6 [.string k] w fun v w' => v = .int .u64 ((lonF k : Nat) : Int) ∧ Kp none_ w w' := by
  have hkw : Kp none_ w w := Kp.refl w
  refine enterR Try.func6 rfl Try.ntmps6 rfl ?_
  intro g0
  refine seq_ ?_
  refine region_ ?_
  refine wl_valE (v := .int .u64 ((0 : Nat) : Int)) rfl (rf_assign rfl) rfl ?_
  refine wl_nil ?_
  refine thn ?_
  refine seq_ ?_
  refine region_ ?_
  refine wl_valE (v := .int .u64 ((7 : Nat) : Int)) rfl (rf_assign rfl) rfl ?_
  refine wl_nil ?_
  refine thn ?_
  refine seq_ ?_
  refine seq_ ?_
  refine region_ ?_
  refine wl_valE (v := .int .i64 ((0 : Nat) : Int)) rfl (rf_assign rfl) rfl ?_
  refine wl_nil ?_
  refine thn ?_
  refine block_ ?_
  refine loop_ (fun lk lf lw => ∃ (g : Nat → Value) (i : Nat), lf = upds g [(0, .string k), (2, .int .u64 ((0 : Nat) : Int)), (3, .int .u64 (lonT k i)), (4, .int .i64 ((i : Nat) : Int))] ∧ i + lk = k.size ∧ Kp (none_) w lw) (k.size) ?_ ?_
  · refine ⟨_, 0, upds_self ⟨rfl, rfl, rfl, rfl, trivial⟩, ?_⟩
    exact ⟨by omega, Kp.refl _⟩
  · intro lk0 lf0 wl hI0
    obtain ⟨gl0, i, rfl, hik, hkl0⟩ := hI0
    have hkw_wl := hkw.comp hkl0 (fun _ _ e => e.elim)
    have hsl := hkl0.size
    refine seq_ ?_
    refine seq_ ?_
    refine region_ ?_
    refine wl_valE (v := .int .i64 ((i : Nat) : Int)) rfl (rf_move rfl) rfl ?_
    refine wl_valE (v := .string k) rfl (rf_move rfl) rfl ?_
    refine wl_valE (v := .int .i64 ((k.size : Nat) : Int)) rfl (rf_len_string Try.underlying9 rfl rfl) rfl ?_
    refine wl_valE (v := .bool (decide (((i : Nat) : Int) < ((k.size : Nat) : Int)))) rfl (rf_lss rfl rfl rfl rfl) rfl ?_
    refine wl_nil ?_
    refine thn ?_
    refine cond_ (t := decide (((i : Nat) : Int) < ((k.size : Nat) : Int))) rfl rfl (fun c8 => ?_) (fun c8 => ?_)
    · have c8p := of_decide_eq_true c8
      refine skip_ ?_
      refine thn ?_
      refine seq_ ?_
      refine block_ ?_
      refine region_ ?_
      refine wl_valE (v := .int .u64 (lonT k i)) rfl (rf_move rfl) rfl ?_
      refine wl_valE (v := .int .u64 (IntKind.u64.wrap (lonT k i * 31))) rfl (rf_mul rfl rfl rfl rfl rfl) rfl ?_
      refine wl_valE (v := .string k) rfl (rf_move rfl) rfl ?_
      refine wl_valE (v := .int .i64 ((i : Nat) : Int)) rfl (rf_move rfl) rfl ?_
      refine wl_valE (v := .int .u8 ((k[i].toNat : Nat) : Int)) rfl (rf_indexS Try.underlying9 rfl rfl rfl rfl (by omega) rfl) rfl ?_
      refine wl_valE (v := .int .u64 ((k[i].toNat : Nat) : Int)) rfl (rf_conv Try.underlying5 Try.underlying29 rfl rfl (IntWalk.u64_in _ (by have := k[i].toNat_lt; omega))) rfl ?_
      refine wl_valE (v := .int .u64 (lonT k (i + 1))) rfl (rf_add rfl rfl rfl rfl (lonT_succ k (by omega))) rfl ?_
      refine wl_valE (v := .int .u64 (lonT k (i + 1))) rfl (rf_assign rfl) rfl ?_
      refine wl_nil ?_
      refine bln ?_
      refine thn ?_
      refine region_ ?_
      refine wl_valE (v := .int .i64 ((i : Nat) : Int)) rfl (rf_move rfl) rfl ?_
      refine wl_valE (v := .int .i64 ((i + 1 : Nat) : Int)) rfl (rf_add rfl rfl rfl rfl (IntWalk.i64_in _ (by omega))) rfl ?_
      refine wl_valE (v := .int .i64 ((i + 1 : Nat) : Int)) rfl (rf_assign rfl) rfl ?_
      refine wl_nil ?_
      refine thn ?_
      refine ⟨lk0 - 1, _, rfl, (by omega), _, i + 1, upds_self ⟨rfl, rfl, rfl, rfl, trivial⟩, ?_⟩
      exact ⟨by omega, hkl0⟩
    · have c8p := of_decide_eq_false c8
      obtain rfl : i = k.size := by omega
      refine exit_ ?_
      refine thx (thx (blx ?_))
      refine thn ?_
      refine seq_ ?_
      refine region_ ?_
      refine wl_valE (v := .int .u64 (lonT k k.size)) rfl (rf_move rfl) rfl ?_
      refine wl_valE (v := .int .u64 (lonT k k.size)) rfl (rf_assign rfl) rfl ?_
      refine wl_nil ?_
      refine thn ?_
      refine ret_ ?_
      refine fin1 (v := .int .u64 (lonT k k.size)) Try.results6 rfl rfl ?_
      exact ⟨by rw [lonF_cast], hkw_wl⟩
theorem nil_ret (k : ByteArray) (hsz : k.size ≤ 9223372036854775807) (w : World) : Ret Try.prog 11 [.string k] w fun v w' => v = .int .u64 ((nilF k : Nat) : Int) ∧ Kp none_ w w' := by
  have hkw : Kp none_ w w := Kp.refl w
  refine enterR Try.func11 rfl Try.ntmps11 rfl ?_
  intro g0
  refine seq_ ?_
  refine region_ ?_
  refine wl_valE (v := .int .u64 ((0 : Nat) : Int)) rfl (rf_assign rfl) rfl ?_
  refine wl_nil ?_
  refine thn ?_
  refine seq_ ?_
  refine region_ ?_
  refine wl_valE (v := .int .u64 ((0 : Nat) : Int)) rfl (rf_assign rfl) rfl ?_
  refine wl_nil ?_
  refine thn ?_
  refine ret_ ?_
  refine fin1 (v := .int .u64 ((0 : Nat) : Int)) Try.results11 rfl rfl ?_
  exact ⟨rfl, hkw⟩
end Go.Proofs.Ytngpghddmehmhaa.W
