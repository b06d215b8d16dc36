import Derived.Test.YtenhbogebfdjjaaD3M
import Derived.Test.YtenhbogebfdjjaaR1
import Derived.KernelRfl
namespace Go.Proofs.Ytenhbogebfdjjaa.W
open Go Go.Wk
set_option linter.unusedVariables false

def prM (m : Nat) (s : SlotM) : PairR := ⟨s.key, s.val, ((mixF s.key % m : Nat) : Int)⟩
def fndM (S : List SlotM) (k : Key) : Option SlotM := S.find? (fun s => decide (s.key = k))
def putM (S : List SlotM) (k : Key) (v c : Int) : List SlotM := match fndM S k with | none => S ++ [⟨k, v, c + 1⟩] | some _ => S.map (updM k v)
def resM (S : List SlotM) (k : Key) : Value := .tuple #[.int .i64 ((fndM S k).getD zslotM).val, .bool (fndM S k).isSome]
theorem fndM_none {S : List SlotM} {k : Key} (h : fndM S k = none) (m : Nat) : ∀ p ∈ S.map (prM m), p.key ≠ k := fun p hp => by
  obtain ⟨s, hs, rfl⟩ := List.mem_map.1 hp
  unfold fndM at h
  rw [List.find?_eq_none] at h
  simpa [prM] using h s hs
theorem fndM_some {S : List SlotM} {k : Key} {s : SlotM} (hn : (S.map (·.key)).Nodup) (h : fndM S k = some s) (m : Nat) : s.key = k ∧ ∃ i, S[i]? = some s ∧ (S.map (prM m))[i]? = some (prM m s) ∧ (∀ (j : Nat) (p : PairR), (S.map (prM m))[j]? = some p → p.key = k → j = i) ∧ (∀ v, (S.map (prM m)).set i { prM m s with value := v } = (S.map (updM k v)).map (prM m)) ∧ (S.map (prM m)).eraseIdx i = (S.filter (fun s => decide (s.key ≠ k))).map (prM m) := by
  have hk : s.key = k := by simpa using List.find?_some h
  obtain ⟨i, hi⟩ := List.getElem?_of_mem (List.mem_of_find?_eq_some h)
  have huniq : ∀ (j : Nat) (q : SlotM), S[j]? = some q → q.key = k → j = i := fun j q hj hq => nodup_inj hn (i := j) (j := i) (x := k) (by rw [List.getElem?_map, hj, Option.map_some, hq]) (by rw [List.getElem?_map, hi, Option.map_some, hk])
  refine ⟨hk, i, hi, by rw [List.getElem?_map, hi]; rfl, fun j p hj hp => ?_, fun v => ?_, ?_⟩
  · rw [List.getElem?_map] at hj
    cases hq : S[j]? with
    | none => rw [hq] at hj; cases hj
    | some q => rw [hq] at hj; cases hj; exact huniq j q hq hp
  · apply List.ext_getElem?
    intro j
    rw [List.getElem?_set, List.getElem?_map, List.getElem?_map, List.getElem?_map]
    by_cases e : i = j
    · subst e
      rw [if_pos rfl, hi]
      have hlt := (List.getElem?_eq_some_iff.1 hi).1
      simp [hlt, updM, hk, prM]
    · rw [if_neg e]
      cases hq : S[j]? with
      | none => rfl
      | some q =>
        have : q.key ≠ k := fun e2 => e (huniq j q hq e2).symm
        simp [updM, this]
  · rw [List.eraseIdx_eq_take_drop_succ, ← List.map_take, ← List.map_drop, ← List.map_append]
    refine congrArg (List.map _) ?_
    have hlt := List.getElem?_eq_some_iff.1 hi
    have e1 : S = S.take i ++ s :: S.drop (i + 1) := by
      rw [← hlt.2, ← List.drop_eq_getElem_cons hlt.1, List.take_append_drop]
    have hne : ∀ q ∈ S.take i ++ S.drop (i + 1), q.key ≠ k := fun q hq e => by
      rw [← List.eraseIdx_eq_take_drop_succ, List.mem_eraseIdx_iff_getElem?] at hq
      obtain ⟨j, hj, hj2⟩ := hq
      exact hj (huniq j q hj2 e)
    conv => rhs; rw [e1]
    rw [List.filter_append, List.filter_cons, if_neg (by simp [hk]), ← List.filter_append, List.filter_eq_self.2 (fun q hq => by simpa using hne q hq)]
theorem dPutM (k : Key) (x : Int) (b bp : Nat) (rs : List Nat) (ls : List (List (Key × SlotM))) (S : List SlotM) (came n : Int) (w : World) (hd : DictM w b bp rs ls came n) (hI : DIM ls S came n) (hc : came ≤ 4611686018427387903) (hS : S.length ≤ 2932031007400) :
    Ret Try.prog 13 [.pointer (some ⟨b, 0, none⟩), .agg #[.int .i64 k.table, .int .i64 k.row], .int .i64 x] w fun v w' => v = resM S k ∧ ∃ ls' came' n', DictM w' b bp rs ls' came' n' ∧ DIM ls' (putM S k x came) came' n' ∧ ls'.length = ls.length ∧ came' ≤ came + 1 ∧ (putM S k x came).length ≤ S.length + 1 ∧ Kp (fun y => y = b ∨ y ∈ rs) w w' := by
  refine Ret.mono (putM_ret x k b bp rs ls came n w hd) ?_
  rintro _ w' ⟨rfl, h1, h2⟩
  have hg := hI.get k
  have h0 := hI.came0
  have hcn := hI.cnt
  have hll : (dputM ls k ⟨k, x, ((dgetM ls k).map (·.came)).getD (IntKind.i64.wrap (came + 1))⟩).length = ls.length := by unfold dputM; rw [List.length_set]
  refine ⟨by unfold resM fndM; rw [hg], _, _, _, h1, ?_, hll, ?_, ?_, h2⟩
  · unfold putM fndM
    cases hf : S.find? (fun s => decide (s.key = k)) with
    | none =>
      rw [hg, hf]
      simp only [Option.map_none, Option.getD_none, Option.isSome_none, Bool.false_eq_true, if_false]
      rw [IntWalk.i64_in _ (by omega), IntWalk.i64_in _ (by omega)]
      exact hI.putN hf x
    | some s0 =>
      rw [hg, hf]
      simp only [Option.map_some, Option.getD_some, Option.isSome_some, if_true]
      exact hI.putY hf x
  · rw [hg]
    cases hf : S.find? (fun s => decide (s.key = k)) with
    | none => simp only [Option.isSome_none, Bool.false_eq_true, if_false]; rw [IntWalk.i64_in _ (by omega)]; omega
    | some s0 => simp only [Option.isSome_some, if_true]; omega
  · unfold putM
    cases fndM S k <;> simp
theorem dGetM (k : Key) (b bp : Nat) (rs : List Nat) (ls : List (List (Key × SlotM))) (S : List SlotM) (came n : Int) (w : World) (hd : DictM w b bp rs ls came n) (hI : DIM ls S came n) :
    Ret Try.prog 15 [.pointer (some ⟨b, 0, none⟩), .agg #[.int .i64 k.table, .int .i64 k.row]] w fun v w' => v = resM S k ∧ Kp none_ w w' := by
  refine Ret.mono (getM_ret k b bp rs ls came n w hd) ?_
  rintro _ w' ⟨rfl, h2⟩
  exact ⟨by unfold resM fndM; rw [hI.get k], h2⟩
theorem dTakeM (k : Key) (b bp : Nat) (rs : List Nat) (ls : List (List (Key × SlotM))) (S : List SlotM) (came n : Int) (w : World) (hd : DictM w b bp rs ls came n) (hI : DIM ls S came n) (hS : S.length ≤ 2932031007400) :
    Ret Try.prog 17 [.pointer (some ⟨b, 0, none⟩), .agg #[.int .i64 k.table, .int .i64 k.row]] w fun v w' => v = resM S k ∧ ∃ ls' n', DictM w' b bp rs ls' came n' ∧ DIM ls' (S.filter (fun s => decide (s.key ≠ k))) came n' ∧ ls'.length = ls.length ∧ Kp (fun y => y = b ∨ y ∈ rs) w w' := by
  refine Ret.mono (takeM_ret k b bp rs ls came n w hd) ?_
  rintro _ w' ⟨rfl, h1, h2⟩
  have hg := hI.get k
  have hll : (ddelM ls k).length = ls.length := by unfold ddelM; rw [List.length_set]
  refine ⟨by unfold resM fndM; rw [hg], _, _, h1, ?_, hll, h2⟩
  have hdel := hI.del k
  have hcn := hI.cnt
  have e : (if (dgetM ls k).isSome then IntKind.i64.wrap (n - 1) else n) = ((S.filter (fun s => decide (s.key ≠ k))).length : Nat) := by
    rw [hg]
    cases hf : S.find? (fun s => decide (s.key = k)) with
    | none =>
      simp only [Option.isSome_none, Bool.false_eq_true, if_false]
      rw [List.filter_eq_self.2 (fun s hs => by rw [List.find?_eq_none] at hf; simpa using hf s hs)]
      exact hcn
    | some s0 =>
      obtain ⟨hk, i, hi, _, _, _, he⟩ := fndM_some hI.keys hf 1
      have h3 := congrArg List.length he
      have hlt := (List.getElem?_eq_some_iff.1 hi).1
      rw [List.length_map, List.length_eraseIdx_of_lt (by rw [List.length_map]; exact hlt), List.length_map] at h3
      simp only [Option.isSome_some, if_true]
      rw [IntWalk.i64_in _ (by omega)]
      omega
  rw [e]
  exact hdel
theorem rPutM (k : Key) (x : Int) (rb m : Nat) (S : List SlotM) (c : Int) (av : Value) (F : Nat → Prop) (w : World) (hd : RefD w rb (m : Int) (S.map (prM m)) av F) (hn : (S.map (·.key)).Nodup) (hm0 : 0 < m) (hm2 : m ≤ 256) (hS : S.length ≤ 2932031007400) :
    Ret Try.prog 14 [.pointer (some ⟨rb, 0, none⟩), .agg #[.int .i64 k.table, .int .i64 k.row], .int .i64 x, .int .u64 ((mixF k : Nat) : Int)] w fun v w' => v = resM S k ∧ ∃ av' F', RefD w' rb (m : Int) ((putM S k x c).map (prM m)) av' F' ∧ (∀ y, F' y → F y ∨ w.heap.size ≤ y) ∧ Kp (fun y => y = rb ∨ F y) w w' := by
  cases hf : fndM S k with
  | none =>
    refine Ret.mono (refPutN_ret rb m _ av F w hd k (fndM_none hf m) (by simp; omega) x (mixF k) m rfl hm0 hm2) ?_
    rintro _ w' ⟨rfl, av', F', h1, h2, h3⟩
    refine ⟨by unfold resM; rw [hf]; rfl, av', F', ?_, h2, h3⟩
    unfold putM; rw [hf]
    rw [List.map_append]; exact h1
  | some s0 =>
    obtain ⟨hk, i, _, hi, hu, hset, _⟩ := fndM_some hn hf m
    refine Ret.mono (refPutY_ret rb m _ av F w hd k i _ hi hk hu (by simp; omega) x (mixF k)) ?_
    rintro _ w' ⟨rfl, av', F', h1, h2, h3⟩
    refine ⟨by unfold resM; rw [hf]; rfl, av', F', ?_, h2, h3⟩
    unfold putM; rw [hf]
    rw [hset x] at h1; exact h1
theorem rGetM (k : Key) (rb m : Nat) (S : List SlotM) (av : Value) (F : Nat → Prop) (w : World) (hd : RefD w rb (m : Int) (S.map (prM m)) av F) (hn : (S.map (·.key)).Nodup) (hS : S.length ≤ 2932031007400) :
    Ret Try.prog 16 [.pointer (some ⟨rb, 0, none⟩), .agg #[.int .i64 k.table, .int .i64 k.row]] w fun v w' => v = resM S k ∧ Kp none_ w w' := by
  cases hf : fndM S k with
  | none =>
    refine Ret.mono (refGetN_ret rb m _ av F w hd k (fndM_none hf m) (by simp; omega)) ?_
    rintro _ w' ⟨rfl, h3⟩
    exact ⟨by unfold resM; rw [hf]; rfl, h3⟩
  | some s0 =>
    obtain ⟨hk, i, _, hi, hu, _, _⟩ := fndM_some hn hf m
    refine Ret.mono (refGetY_ret rb m _ av F w hd k i _ hi hk hu (by simp; omega)) ?_
    rintro _ w' ⟨rfl, h3⟩
    exact ⟨by unfold resM; rw [hf]; rfl, h3⟩
theorem rTakeM (k : Key) (rb m : Nat) (S : List SlotM) (av : Value) (F : Nat → Prop) (w : World) (hd : RefD w rb (m : Int) (S.map (prM m)) av F) (hn : (S.map (·.key)).Nodup) (hS : S.length ≤ 2932031007400) :
    Ret Try.prog 18 [.pointer (some ⟨rb, 0, none⟩), .agg #[.int .i64 k.table, .int .i64 k.row]] w fun v w' => v = resM S k ∧ ∃ av' F', RefD w' rb (m : Int) ((S.filter (fun s => decide (s.key ≠ k))).map (prM m)) av' F' ∧ (∀ y, F' y → F y ∨ w.heap.size ≤ y) ∧ Kp (fun y => y = rb ∨ F y) w w' := by
  cases hf : fndM S k with
  | none =>
    refine Ret.mono (refTakeN_ret rb m _ av F w hd k (fndM_none hf m) (by simp; omega)) ?_
    rintro _ w' ⟨rfl, h3⟩
    have e : S.filter (fun s => decide (s.key ≠ k)) = S := List.filter_eq_self.2 (fun s hs => by unfold fndM at hf; rw [List.find?_eq_none] at hf; simpa using hf s hs)
    refine ⟨by unfold resM; rw [hf]; rfl, av, F, ?_, fun y h => .inl h, h3.of_none⟩
    rw [e]; exact hd.keep h3
  | some s0 =>
    obtain ⟨hk, i, _, hi, hu, _, her⟩ := fndM_some hn hf m
    refine Ret.mono (refTakeY_ret rb m _ av F w hd k i _ hi hk hu (by simp; omega)) ?_
    rintro _ w' ⟨rfl, av', F', h1, h2, h3⟩
    refine ⟨by unfold resM; rw [hf]; rfl, av', F', ?_, h2, h3⟩
    rw [her] at h1; exact h1
end Go.Proofs.Ytenhbogebfdjjaa.W
