import Derived.Test.YtngpghddmehmhaaD3S
import Derived.KernelRfl
namespace Go.Proofs.Ytngpghddmehmhaa.W
open Go Go.Wk
set_option linter.unusedVariables false

def fndS (S : List SlotS) (k : ByteArray) : Option SlotS := S.find? (fun s => decide (s.key = k))
def putS (S : List SlotS) (k : ByteArray) (v : PairV) (c : Int) : List SlotS := match fndS S k with | none => S ++ [⟨k, v, c + 1⟩] | some _ => S.map (updS k v)
def resS (S : List SlotS) (k : ByteArray) : Value := .tuple #[.agg #[.int .i64 ((fndS S k).getD zslotS).val.a, .int .i64 ((fndS S k).getD zslotS).val.b], .bool (fndS S k).isSome]
theorem dPutS (k : ByteArray) (hsz : k.size ≤ 9223372036854775807) (x : PairV) (b bp : Nat) (rs : List Nat) (ls : List (List (ByteArray × SlotS))) (S : List SlotS) (came n : Int) (w : World) (hd : DictS w b bp rs ls came n) (hI : DIS ls S came n) (hc : came ≤ 4611686018427387903) (hS : S.length ≤ 2932031007400) :
    Ret Try.prog 8 [.pointer (some ⟨b, 0, none⟩), .string k, .agg #[.int .i64 x.a, .int .i64 x.b]] w fun v w' => v = resS S k ∧ ∃ ls' came' n', DictS w' b bp rs ls' came' n' ∧ DIS ls' (putS S k x came) came' n' ∧ ls'.length = ls.length ∧ came' ≤ came + 1 ∧ Kp (fun y => y = b ∨ y ∈ rs) w w' := by
  refine Ret.mono (putS_ret x k hsz b bp rs ls came n w hd) ?_
  rintro _ w' ⟨rfl, h1, h2⟩
  have hg := hI.get k
  have h0 := hI.came0
  have hcn := hI.cnt
  have hll : (dputS ls k ⟨k, x, ((dgetS ls k).map (·.came)).getD (IntKind.i64.wrap (came + 1))⟩).length = ls.length := by unfold dputS; rw [List.length_set]
  refine ⟨by unfold resS fndS; rw [hg], _, _, _, h1, ?_, hll, ?_, h2⟩
  · unfold putS fndS
    cases hf : S.find? (fun s => decide (s.key = k)) with
    | none =>
      rw [hg, hf]
      simp only [Option.map_none, Option.getD_none, Option.isSome_none, Bool.false_eq_true, if_false]
      rw [IntWalk.i64_in _ (by omega), IntWalk.i64_in _ (by omega)]
      exact hI.putN hf x
    | some s0 =>
      rw [hg, hf]
      simp only [Option.map_some, Option.getD_some, Option.isSome_some, if_true]
      exact hI.putY hf x
  · rw [hg]
    cases hf : S.find? (fun s => decide (s.key = k)) with
    | none => simp only [Option.isSome_none, Bool.false_eq_true, if_false]; rw [IntWalk.i64_in _ (by omega)]; omega
    | some s0 => simp only [Option.isSome_some, if_true]; omega
theorem dGetS (k : ByteArray) (hsz : k.size ≤ 9223372036854775807) (b bp : Nat) (rs : List Nat) (ls : List (List (ByteArray × SlotS))) (S : List SlotS) (came n : Int) (w : World) (hd : DictS w b bp rs ls came n) (hI : DIS ls S came n) :
    Ret Try.prog 15 [.pointer (some ⟨b, 0, none⟩), .string k] w fun v w' => v = resS S k ∧ Kp none_ w w' := by
  refine Ret.mono (getS_ret k hsz b bp rs ls came n w hd) ?_
  rintro _ w' ⟨rfl, h2⟩
  exact ⟨by unfold resS fndS; rw [hI.get k], h2⟩
/-- The list of keys and the list of values. -/
structure OdS (S : List SlotS) (K : List ByteArray) (A : List PairV) : Prop where
  keys : S.map (·.key) = K
  vals : S.map (·.val) = A
theorem OdS.len {S : List SlotS} {K : List ByteArray} {A : List PairV} (h : OdS S K A) : K.length = S.length ∧ A.length = S.length := by rw [← h.keys, ← h.vals]; simp
theorem OdS.no {S : List SlotS} {K : List ByteArray} {A : List PairV} (h : OdS S K A) {k : ByteArray} (hk : ∀ x ∈ K, x ≠ k) : fndS S k = none := by
  unfold fndS
  rw [List.find?_eq_none]
  intro s hs
  have := hk s.key (by rw [← h.keys]; exact List.mem_map.2 ⟨s, hs, rfl⟩)
  simpa using this
theorem OdS.yes {S : List SlotS} {K : List ByteArray} {A : List PairV} (h : OdS S K A) (hn : (S.map (·.key)).Nodup) {k : ByteArray} {i : Nat} (hi : K[i]? = some k) : ∃ s, fndS S k = some s ∧ S[i]? = some s ∧ s.key = k ∧ A[i]? = some s.val := by
  rw [← h.keys, List.getElem?_map] at hi
  cases hs : S[i]? with
  | none => rw [hs] at hi; cases hi
  | some s =>
    rw [hs] at hi
    have hk : s.key = k := Option.some.inj hi
    refine ⟨s, ?_, rfl, hk, by rw [← h.vals, List.getElem?_map, hs]; rfl⟩
    unfold fndS
    cases hf : S.find? (fun q => decide (q.key = k)) with
    | none => rw [List.find?_eq_none] at hf; simpa [hk] using hf s (List.mem_of_getElem? hs)
    | some q => rw [nodup_keyS hn (List.mem_of_find?_eq_some hf) (List.mem_of_getElem? hs) (by have := List.find?_some hf; simp at this; rw [this, hk])]
theorem OdS.putN {S : List SlotS} {K : List ByteArray} {A : List PairV} (h : OdS S K A) {k : ByteArray} (hf : fndS S k = none) (v : PairV) (c : Int) : OdS (putS S k v c) (K ++ [k]) (A ++ [v]) := by
  unfold putS; rw [hf]
  exact ⟨by rw [List.map_append, h.keys]; rfl, by rw [List.map_append, h.vals]; rfl⟩
theorem OdS.putY {S : List SlotS} {K : List ByteArray} {A : List PairV} (h : OdS S K A) (hn : (S.map (·.key)).Nodup) {k : ByteArray} {i : Nat} {s : SlotS} (hf : fndS S k = some s) (hi : K[i]? = some k) (v : PairV) (c : Int) : OdS (putS S k v c) K (A.set i v) := by
  unfold putS; rw [hf]
  refine ⟨?_, ?_⟩
  · rw [List.map_map, ← h.keys]
    exact List.map_congr_left fun q _ => (updS_key k v q).1
  · apply List.ext_getElem?
    intro j
    rw [List.getElem?_set, List.getElem?_map, List.getElem?_map, ← h.vals, List.getElem?_map]
    have hj : ∀ q, S[j]? = some q → q.key = k → j = i := fun q hq hk => nodup_inj hn (i := j) (j := i) (x := k) (by rw [List.getElem?_map, hq, Option.map_some, hk]) (by rw [h.keys]; exact hi)
    by_cases e : i = j
    · subst e
      rw [if_pos rfl]
      obtain ⟨s1, _, h2, h3, _⟩ := h.yes hn hi
      have hlt := (List.getElem?_eq_some_iff.1 h2).1
      rw [h2]
      simp [hlt, updS, h3]
    · rw [if_neg e]
      cases hq : S[j]? with
      | none => rfl
      | some q =>
        have : q.key ≠ k := fun e2 => e (hj q hq e2).symm
        simp [updS, this]
theorem OdS.del {S : List SlotS} {K : List ByteArray} {A : List PairV} (h : OdS S K A) (hn : (S.map (·.key)).Nodup) {k : ByteArray} {i : Nat} (hi : K[i]? = some k) : OdS (S.filter (fun s => decide (s.key ≠ k))) (K.eraseIdx i) (A.eraseIdx i) := by
  obtain ⟨s, _, hs, hk, _⟩ := h.yes hn hi
  have hlt := List.getElem?_eq_some_iff.1 hs
  have e1 : S = S.take i ++ s :: S.drop (i + 1) := by
    rw [← hlt.2, ← List.drop_eq_getElem_cons hlt.1, List.take_append_drop]
  have hne : ∀ q ∈ S.take i ++ S.drop (i + 1), q.key ≠ k := fun q hq e => by
    rw [← List.eraseIdx_eq_take_drop_succ, List.mem_eraseIdx_iff_getElem?] at hq
    obtain ⟨j, hj, hj2⟩ := hq
    exact hj (nodup_inj hn (i := j) (j := i) (x := k) (by rw [List.getElem?_map, hj2, Option.map_some, e]) (by rw [h.keys]; exact hi))
  have e2 : S.filter (fun s => decide (s.key ≠ k)) = S.take i ++ S.drop (i + 1) := by
    conv => lhs; rw [e1]
    rw [List.filter_append, List.filter_cons, if_neg (by simp [hk]), ← List.filter_append, List.filter_eq_self.2 (fun q hq => by simpa using hne q hq)]
  rw [e2]
  refine ⟨?_, ?_⟩
  · rw [List.eraseIdx_eq_take_drop_succ, ← h.keys, List.map_append, List.map_take, List.map_drop]
  · rw [List.eraseIdx_eq_take_drop_succ, ← h.vals, List.map_append, List.map_take, List.map_drop]
theorem dTakeS (k : ByteArray) (hsz : k.size ≤ 9223372036854775807) (b bp : Nat) (rs : List Nat) (ls : List (List (ByteArray × SlotS))) (S : List SlotS) (came n : Int) (w : World) (hd : DictS w b bp rs ls came n) (hI : DIS ls S came n) (hS : S.length ≤ 2932031007400) :
    Ret Try.prog 7 [.pointer (some ⟨b, 0, none⟩), .string k] w fun v w' => v = resS S k ∧ ∃ ls' n', DictS w' b bp rs ls' came n' ∧ DIS ls' (S.filter (fun s => decide (s.key ≠ k))) came n' ∧ ls'.length = ls.length ∧ Kp (fun y => y = b ∨ y ∈ rs) w w' := by
  refine Ret.mono (takeS_ret k hsz b bp rs ls came n w hd) ?_
  rintro _ w' ⟨rfl, h1, h2⟩
  have hg := hI.get k
  have hll : (ddelS ls k).length = ls.length := by unfold ddelS; rw [List.length_set]
  refine ⟨by unfold resS fndS; rw [hg], _, _, h1, ?_, hll, h2⟩
  have hdel := hI.del k
  have hcn := hI.cnt
  have e : (if (dgetS ls k).isSome then IntKind.i64.wrap (n - 1) else n) = ((S.filter (fun s => decide (s.key ≠ k))).length : Nat) := by
    rw [hg]
    cases hf : S.find? (fun s => decide (s.key = k)) with
    | none =>
      simp only [Option.isSome_none, Bool.false_eq_true, if_false]
      rw [List.filter_eq_self.2 (fun s hs => by rw [List.find?_eq_none] at hf; simpa using hf s hs)]
      exact hcn
    | some s0 =>
      obtain ⟨i, hi⟩ := List.getElem?_of_mem (List.mem_of_find?_eq_some hf)
      have hk : s0.key = k := by simpa using List.find?_some hf
      have hd2 := (OdS.del (A := S.map (·.val)) ⟨rfl, rfl⟩ hI.keys (i := i) (k := k) (by rw [List.getElem?_map, hi, Option.map_some, hk])).keys
      have h3 := congrArg List.length hd2
      have hlt := (List.getElem?_eq_some_iff.1 hi).1
      rw [List.length_map, List.length_eraseIdx_of_lt (by rw [List.length_map]; exact hlt), List.length_map] at h3
      simp only [Option.isSome_some, if_true]
      rw [IntWalk.i64_in _ (by omega), h3]
      omega
  rw [e]
  exact hdel
/-- How many stand in the partitions ahead of q. -/
theorem sumS (S : List SlotS) (m q : Nat) : (S.filter (fun s => decide (shoF s.key % m < q))).length + (S.filter (inPS m (q : Int))).length = (S.filter (fun s => decide (shoF s.key % m < q + 1))).length := by
  induction S with
  | nil => rfl
  | cons s r ih =>
    rw [List.filter_cons, List.filter_cons, List.filter_cons]
    rcases Nat.lt_trichotomy (shoF s.key % m) q with h | h | h
    · rw [if_pos (decide_eq_true h), if_neg (by unfold inPS; rw [decide_eq_true_eq]; omega), if_pos (decide_eq_true (by omega)), List.length_cons, List.length_cons, ← ih]; omega
    · rw [if_neg (by rw [decide_eq_true_eq]; omega), if_pos (by unfold inPS; rw [decide_eq_true_eq]; omega), if_pos (decide_eq_true (by omega)), List.length_cons, List.length_cons, ← ih]; omega
    · rw [if_neg (by rw [decide_eq_true_eq]; omega), if_neg (by unfold inPS; rw [decide_eq_true_eq]; omega), if_neg (by rw [decide_eq_true_eq]; omega), ih]
end Go.Proofs.Ytngpghddmehmhaa.W
