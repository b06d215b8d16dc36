import Derived.Test.YtlpigppmbnaabaaD3I
import Derived.KernelRfl
namespace Go.Proofs.Ytlpigppmbnaabaa.W
open Go Go.Wk
set_option linter.unusedVariables false
set_option linter.unusedSimpArgs false
structure PairR where
  key : Key
  value : Int
  part : Int

def prI (m : Nat) (s : SlotI) : PairR := ⟨s.key, s.val, ((nilK s.key % m : Nat) : Int)⟩
def fndI (S : List SlotI) (k : Key) : Option SlotI := S.find? (fun s => decide (s.key = k))
def putI (S : List SlotI) (k : Key) (v c : Int) : List SlotI := match fndI S k with | none => S ++ [⟨k, v, c + 1⟩] | some _ => S.map (updI k v)
def resI (S : List SlotI) (k : Key) : Value := .tuple #[.int .i64 ((fndI S k).getD zslotI).val, .bool (fndI S k).isSome]
theorem fndI_none {S : List SlotI} {k : Key} (h : fndI S k = none) (m : Nat) : ∀ p ∈ S.map (prI m), p.key ≠ k := fun p hp => by
  obtain ⟨s, hs, rfl⟩ := List.mem_map.1 hp
  unfold fndI at h
  rw [List.find?_eq_none] at h
  simpa [prI] using h s hs
theorem fndI_some {S : List SlotI} {k : Key} {s : SlotI} (hn : (S.map (·.key)).Nodup) (h : fndI S k = some s) (m : Nat) : s.key = k ∧ ∃ i, S[i]? = some s ∧ (S.map (prI m))[i]? = some (prI m s) ∧ (∀ (j : Nat) (p : PairR), (S.map (prI m))[j]? = some p → p.key = k → j = i) ∧ (∀ v, (S.map (prI m)).set i { prI m s with value := v } = (S.map (updI k v)).map (prI m)) ∧ (S.map (prI m)).eraseIdx i = (S.filter (fun s => decide (s.key ≠ k))).map (prI m) := by
  have hk : s.key = k := by simpa using List.find?_some h
  obtain ⟨i, hi⟩ := List.getElem?_of_mem (List.mem_of_find?_eq_some h)
  have huniq : ∀ (j : Nat) (q : SlotI), S[j]? = some q → q.key = k → j = i := fun j q hj hq => nodup_inj hn (i := j) (j := i) (x := k) (by rw [List.getElem?_map, hj, Option.map_some, hq]) (by rw [List.getElem?_map, hi, Option.map_some, hk])
  refine ⟨hk, i, hi, by rw [List.getElem?_map, hi]; rfl, fun j p hj hp => ?_, fun v => ?_, ?_⟩
  · rw [List.getElem?_map] at hj
    cases hq : S[j]? with
    | none => rw [hq] at hj; cases hj
    | some q => rw [hq] at hj; cases hj; exact huniq j q hq hp
  · apply List.ext_getElem?
    intro j
    rw [List.getElem?_set, List.getElem?_map, List.getElem?_map, List.getElem?_map]
    by_cases e : i = j
    · subst e
      rw [if_pos rfl, hi]
      have hlt := (List.getElem?_eq_some_iff.1 hi).1
      simp [hlt, updI, hk, prI]
    · rw [if_neg e]
      cases hq : S[j]? with
      | none => rfl
      | some q =>
        have : q.key ≠ k := fun e2 => e (huniq j q hq e2).symm
        simp [updI, this]
  · rw [List.eraseIdx_eq_take_drop_succ, ← List.map_take, ← List.map_drop, ← List.map_append]
    refine congrArg (List.map _) ?_
    have hlt := List.getElem?_eq_some_iff.1 hi
    have e1 : S = S.take i ++ s :: S.drop (i + 1) := by
      rw [← hlt.2, ← List.drop_eq_getElem_cons hlt.1, List.take_append_drop]
    have hne : ∀ q ∈ S.take i ++ S.drop (i + 1), q.key ≠ k := fun q hq e => by
      rw [← List.eraseIdx_eq_take_drop_succ, List.mem_eraseIdx_iff_getElem?] at hq
      obtain ⟨j, hj, hj2⟩ := hq
      exact hj (huniq j q hj2 e)
    conv => rhs; rw [e1]
    rw [List.filter_append, List.filter_cons, if_neg (by simp [hk]), ← List.filter_append, List.filter_eq_self.2 (fun q hq => by simpa using hne q hq)]
theorem dPutI (k : Key) (x : Int) (b bp : Nat) (rs : List Nat) (ls : List (List (Key × SlotI))) (S : List SlotI) (came n : Int) (w : World) (hd : DictI w b bp rs ls came n) (hI : DII ls S came n) (hc : came ≤ 4611686018427387903) (hS : S.length ≤ 2932031007400) :
    Ret Try.prog 6 [.pointer (some ⟨b, 0, none⟩), .agg #[.int .i64 k.table, .int .i64 k.row], .int .i64 x] w fun v w' => v = resI S k ∧ ∃ ls' came' n', DictI w' b bp rs ls' came' n' ∧ DII ls' (putI S k x came) came' n' ∧ ls'.length = ls.length ∧ came' ≤ came + 1 ∧ (putI S k x came).length ≤ S.length + 1 ∧ Kp (fun y => y = b ∨ y ∈ rs) w w' := by
  refine Ret.mono (putI_ret x k b bp rs ls came n w hd) ?_
  rintro _ w' ⟨rfl, h1, h2⟩
  have hg := hI.get k
  have h0 := hI.came0
  have hcn := hI.cnt
  have hll : (dputI ls k ⟨k, x, ((dgetI ls k).map (·.came)).getD (IntKind.i64.wrap (came + 1))⟩).length = ls.length := by unfold dputI; rw [List.length_set]
  refine ⟨by unfold resI fndI; rw [hg], _, _, _, h1, ?_, hll, ?_, ?_, h2⟩
  · unfold putI fndI
    cases hf : S.find? (fun s => decide (s.key = k)) with
    | none =>
      rw [hg, hf]
      simp only [Option.map_none, Option.getD_none, Option.isSome_none, Bool.false_eq_true, if_false]
      rw [IntWalk.i64_in _ (by omega), IntWalk.i64_in _ (by omega)]
      exact hI.putN hf x
    | some s0 =>
      rw [hg, hf]
      simp only [Option.map_some, Option.getD_some, Option.isSome_some, if_true]
      exact hI.putY hf x
  · rw [hg]
    cases hf : S.find? (fun s => decide (s.key = k)) with
    | none => simp only [Option.isSome_none, Bool.false_eq_true, if_false]; rw [IntWalk.i64_in _ (by omega)]; omega
    | some s0 => simp only [Option.isSome_some, if_true]; omega
  · unfold putI
    cases fndI S k <;> simp
theorem dGetI (k : Key) (b bp : Nat) (rs : List Nat) (ls : List (List (Key × SlotI))) (S : List SlotI) (came n : Int) (w : World) (hd : DictI w b bp rs ls came n) (hI : DII ls S came n) :
    Ret Try.prog 9 [.pointer (some ⟨b, 0, none⟩), .agg #[.int .i64 k.table, .int .i64 k.row]] w fun v w' => v = resI S k ∧ Kp none_ w w' := by
  refine Ret.mono (getI_ret k b bp rs ls came n w hd) ?_
  rintro _ w' ⟨rfl, h2⟩
  exact ⟨by unfold resI fndI; rw [hI.get k], h2⟩
theorem dTakeI (k : Key) (b bp : Nat) (rs : List Nat) (ls : List (List (Key × SlotI))) (S : List SlotI) (came n : Int) (w : World) (hd : DictI w b bp rs ls came n) (hI : DII ls S came n) (hS : S.length ≤ 2932031007400) :
    Ret Try.prog 11 [.pointer (some ⟨b, 0, none⟩), .agg #[.int .i64 k.table, .int .i64 k.row]] w fun v w' => v = resI S k ∧ ∃ ls' n', DictI w' b bp rs ls' came n' ∧ DII ls' (S.filter (fun s => decide (s.key ≠ k))) came n' ∧ ls'.length = ls.length ∧ Kp (fun y => y = b ∨ y ∈ rs) w w' := by
  refine Ret.mono (takeI_ret k b bp rs ls came n w hd) ?_
  rintro _ w' ⟨rfl, h1, h2⟩
  have hg := hI.get k
  have hll : (ddelI ls k).length = ls.length := by unfold ddelI; rw [List.length_set]
  refine ⟨by unfold resI fndI; rw [hg], _, _, h1, ?_, hll, h2⟩
  have hdel := hI.del k
  have hcn := hI.cnt
  have e : (if (dgetI ls k).isSome then IntKind.i64.wrap (n - 1) else n) = ((S.filter (fun s => decide (s.key ≠ k))).length : Nat) := by
    rw [hg]
    cases hf : S.find? (fun s => decide (s.key = k)) with
    | none =>
      simp only [Option.isSome_none, Bool.false_eq_true, if_false]
      rw [List.filter_eq_self.2 (fun s hs => by rw [List.find?_eq_none] at hf; simpa using hf s hs)]
      exact hcn
    | some s0 =>
      obtain ⟨hk, i, hi, _, _, _, he⟩ := fndI_some hI.keys hf 1
      have h3 := congrArg List.length he
      have hlt := (List.getElem?_eq_some_iff.1 hi).1
      rw [List.length_map, List.length_eraseIdx_of_lt (by rw [List.length_map]; exact hlt), List.length_map] at h3
      simp only [Option.isSome_some, if_true]
      rw [IntWalk.i64_in _ (by omega)]
      omega
  rw [e]
  exact hdel
end Go.Proofs.Ytlpigppmbnaabaa.W
