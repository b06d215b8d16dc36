import Derived.Test.YtenhbogebfdjjaaD3R
import Derived.Test.YtenhbogebfdjjaaR1
import Derived.KernelRfl
namespace Go.Proofs.Ytenhbogebfdjjaa.W
open Go Go.Wk
set_option linter.unusedVariables false

def prR (m : Nat) (s : SlotR) : PairR := ⟨s.key, s.val, ((rouF s.key % m : Nat) : Int)⟩
def fndR (S : List SlotR) (k : Key) : Option SlotR := S.find? (fun s => decide (s.key = k))
def putR (S : List SlotR) (k : Key) (v c : Int) : List SlotR := match fndR S k with | none => S ++ [⟨k, v, c + 1⟩] | some _ => S.map (updR k v)
def resR (S : List SlotR) (k : Key) : Value := .tuple #[.int .i64 ((fndR S k).getD zslotR).val, .bool (fndR S k).isSome]
theorem fndR_none {S : List SlotR} {k : Key} (h : fndR S k = none) (m : Nat) : ∀ p ∈ S.map (prR m), p.key ≠ k := fun p hp => by
  obtain ⟨s, hs, rfl⟩ := List.mem_map.1 hp
  unfold fndR at h
  rw [List.find?_eq_none] at h
  simpa [prR] using h s hs
theorem fndR_some {S : List SlotR} {k : Key} {s : SlotR} (hn : (S.map (·.key)).Nodup) (h : fndR S k = some s) (m : Nat) : s.key = k ∧ ∃ i, S[i]? = some s ∧ (S.map (prR m))[i]? = some (prR m s) ∧ (∀ (j : Nat) (p : PairR), (S.map (prR m))[j]? = some p → p.key = k → j = i) ∧ (∀ v, (S.map (prR m)).set i { prR m s with value := v } = (S.map (updR k v)).map (prR m)) ∧ (S.map (prR m)).eraseIdx i = (S.filter (fun s => decide (s.key ≠ k))).map (prR m) := by
  have hk : s.key = k := by simpa using List.find?_some h
  obtain ⟨i, hi⟩ := List.getElem?_of_mem (List.mem_of_find?_eq_some h)
  have huniq : ∀ (j : Nat) (q : SlotR), S[j]? = some q → q.key = k → j = i := fun j q hj hq => nodup_inj hn (i := j) (j := i) (x := k) (by rw [List.getElem?_map, hj, Option.map_some, hq]) (by rw [List.getElem?_map, hi, Option.map_some, hk])
  refine ⟨hk, i, hi, by rw [List.getElem?_map, hi]; rfl, fun j p hj hp => ?_, fun v => ?_, ?_⟩
  · rw [List.getElem?_map] at hj
    cases hq : S[j]? with
    | none => rw [hq] at hj; cases hj
    | some q => rw [hq] at hj; cases hj; exact huniq j q hq hp
  · apply List.ext_getElem?
    intro j
    rw [List.getElem?_set, List.getElem?_map, List.getElem?_map, List.getElem?_map]
    by_cases e : i = j
    · subst e
      rw [if_pos rfl, hi]
      have hlt := (List.getElem?_eq_some_iff.1 hi).1
      simp [hlt, updR, hk, prR]
    · rw [if_neg e]
      cases hq : S[j]? with
      | none => rfl
      | some q =>
        have : q.key ≠ k := fun e2 => e (huniq j q hq e2).symm
        simp [updR, this]
  · rw [List.eraseIdx_eq_take_drop_succ, ← List.map_take, ← List.map_drop, ← List.map_append]
    refine congrArg (List.map _) ?_
    have hlt := List.getElem?_eq_some_iff.1 hi
    have e1 : S = S.take i ++ s :: S.drop (i + 1) := by
      rw [← hlt.2, ← List.drop_eq_getElem_cons hlt.1, List.take_append_drop]
    have hne : ∀ q ∈ S.take i ++ S.drop (i + 1), q.key ≠ k := fun q hq e => by
      rw [← List.eraseIdx_eq_take_drop_succ, List.mem_eraseIdx_iff_getElem?] at hq
      obtain ⟨j, hj, hj2⟩ := hq
      exact hj (huniq j q hj2 e)
    conv => rhs; rw [e1]
    rw [List.filter_append, List.filter_cons, if_neg (by simp [hk]), ← List.filter_append, List.filter_eq_self.2 (fun q hq => by simpa using hne q hq)]
theorem dPutR (k : Key) (x : Int) (b bp : Nat) (rs : List Nat) (ls : List (List (Key × SlotR))) (S : List SlotR) (came n : Int) (w : World) (hd : DictR w b bp rs ls came n) (hI : DIR ls S came n) (hc : came ≤ 4611686018427387903) (hS : S.length ≤ 2932031007400) :
    Ret Try.prog 13 [.pointer (some ⟨b, 0, none⟩), .agg #[.int .i64 k.table, .int .i64 k.row], .int .i64 x] w fun v w' => v = resR S k ∧ ∃ ls' came' n', DictR w' b bp rs ls' came' n' ∧ DIR ls' (putR S k x came) came' n' ∧ ls'.length = ls.length ∧ came' ≤ came + 1 ∧ (putR S k x came).length ≤ S.length + 1 ∧ Kp (fun y => y = b ∨ y ∈ rs) w w' := by
  refine Ret.mono (putR_ret x k b bp rs ls came n w hd) ?_
  rintro _ w' ⟨rfl, h1, h2⟩
  have hg := hI.get k
  have h0 := hI.came0
  have hcn := hI.cnt
  have hll : (dputR ls k ⟨k, x, ((dgetR ls k).map (·.came)).getD (IntKind.i64.wrap (came + 1))⟩).length = ls.length := by unfold dputR; rw [List.length_set]
  refine ⟨by unfold resR fndR; rw [hg], _, _, _, h1, ?_, hll, ?_, ?_, h2⟩
  · unfold putR fndR
    cases hf : S.find? (fun s => decide (s.key = k)) with
    | none =>
      rw [hg, hf]
      simp only [Option.map_none, Option.getD_none, Option.isSome_none, Bool.false_eq_true, if_false]
      rw [IntWalk.i64_in _ (by omega), IntWalk.i64_in _ (by omega)]
      exact hI.putN hf x
    | some s0 =>
      rw [hg, hf]
      simp only [Option.map_some, Option.getD_some, Option.isSome_some, if_true]
      exact hI.putY hf x
  · rw [hg]
    cases hf : S.find? (fun s => decide (s.key = k)) with
    | none => simp only [Option.isSome_none, Bool.false_eq_true, if_false]; rw [IntWalk.i64_in _ (by omega)]; omega
    | some s0 => simp only [Option.isSome_some, if_true]; omega
  · unfold putR
    cases fndR S k <;> simp
theorem dGetR (k : Key) (b bp : Nat) (rs : List Nat) (ls : List (List (Key × SlotR))) (S : List SlotR) (came n : Int) (w : World) (hd : DictR w b bp rs ls came n) (hI : DIR ls S came n) :
    Ret Try.prog 15 [.pointer (some ⟨b, 0, none⟩), .agg #[.int .i64 k.table, .int .i64 k.row]] w fun v w' => v = resR S k ∧ Kp none_ w w' := by
  refine Ret.mono (getR_ret k b bp rs ls came n w hd) ?_
  rintro _ w' ⟨rfl, h2⟩
  exact ⟨by unfold resR fndR; rw [hI.get k], h2⟩
theorem dTakeR (k : Key) (b bp : Nat) (rs : List Nat) (ls : List (List (Key × SlotR))) (S : List SlotR) (came n : Int) (w : World) (hd : DictR w b bp rs ls came n) (hI : DIR ls S came n) (hS : S.length ≤ 2932031007400) :
    Ret Try.prog 17 [.pointer (some ⟨b, 0, none⟩), .agg #[.int .i64 k.table, .int .i64 k.row]] w fun v w' => v = resR S k ∧ ∃ ls' n', DictR w' b bp rs ls' came n' ∧ DIR ls' (S.filter (fun s => decide (s.key ≠ k))) came n' ∧ ls'.length = ls.length ∧ Kp (fun y => y = b ∨ y ∈ rs) w w' := by
  refine Ret.mono (takeR_ret k b bp rs ls came n w hd) ?_
  rintro _ w' ⟨rfl, h1, h2⟩
  have hg := hI.get k
  have hll : (ddelR ls k).length = ls.length := by unfold ddelR; rw [List.length_set]
  refine ⟨by unfold resR fndR; rw [hg], _, _, h1, ?_, hll, h2⟩
  have hdel := hI.del k
  have hcn := hI.cnt
  have e : (if (dgetR ls k).isSome then IntKind.i64.wrap (n - 1) else n) = ((S.filter (fun s => decide (s.key ≠ k))).length : Nat) := by
    rw [hg]
    cases hf : S.find? (fun s => decide (s.key = k)) with
    | none =>
      simp only [Option.isSome_none, Bool.false_eq_true, if_false]
      rw [List.filter_eq_self.2 (fun s hs => by rw [List.find?_eq_none] at hf; simpa using hf s hs)]
      exact hcn
    | some s0 =>
      obtain ⟨hk, i, hi, _, _, _, he⟩ := fndR_some hI.keys hf 1
      have h3 := congrArg List.length he
      have hlt := (List.getElem?_eq_some_iff.1 hi).1
      rw [List.length_map, List.length_eraseIdx_of_lt (by rw [List.length_map]; exact hlt), List.length_map] at h3
      simp only [Option.isSome_some, if_true]
      rw [IntWalk.i64_in _ (by omega)]
      omega
  rw [e]
  exact hdel
theorem rPutR (k : Key) (x : Int) (rb m : Nat) (S : List SlotR) (c : Int) (av : Value) (F : Nat → Prop) (w : World) (hd : RefD w rb (m : Int) (S.map (prR m)) av F) (hn : (S.map (·.key)).Nodup) (hm0 : 0 < m) (hm2 : m ≤ 256) (hS : S.length ≤ 2932031007400) :
    Ret Try.prog 14 [.pointer (some ⟨rb, 0, none⟩), .agg #[.int .i64 k.table, .int .i64 k.row], .int .i64 x, .int .u64 ((rouF k : Nat) : Int)] w fun v w' => v = resR S k ∧ ∃ av' F', RefD w' rb (m : Int) ((putR S k x c).map (prR m)) av' F' ∧ (∀ y, F' y → F y ∨ w.heap.size ≤ y) ∧ Kp (fun y => y = rb ∨ F y) w w' := by
  cases hf : fndR S k with
  | none =>
    refine Ret.mono (refPutN_ret rb m _ av F w hd k (fndR_none hf m) (by simp; omega) x (rouF k) m rfl hm0 hm2) ?_
    rintro _ w' ⟨rfl, av', F', h1, h2, h3⟩
    refine ⟨by unfold resR; rw [hf]; rfl, av', F', ?_, h2, h3⟩
    unfold putR; rw [hf]
    rw [List.map_append]; exact h1
  | some s0 =>
    obtain ⟨hk, i, _, hi, hu, hset, _⟩ := fndR_some hn hf m
    refine Ret.mono (refPutY_ret rb m _ av F w hd k i _ hi hk hu (by simp; omega) x (rouF k)) ?_
    rintro _ w' ⟨rfl, av', F', h1, h2, h3⟩
    refine ⟨by unfold resR; rw [hf]; rfl, av', F', ?_, h2, h3⟩
    unfold putR; rw [hf]
    rw [hset x] at h1; exact h1
theorem rGetR (k : Key) (rb m : Nat) (S : List SlotR) (av : Value) (F : Nat → Prop) (w : World) (hd : RefD w rb (m : Int) (S.map (prR m)) av F) (hn : (S.map (·.key)).Nodup) (hS : S.length ≤ 2932031007400) :
    Ret Try.prog 16 [.pointer (some ⟨rb, 0, none⟩), .agg #[.int .i64 k.table, .int .i64 k.row]] w fun v w' => v = resR S k ∧ Kp none_ w w' := by
  cases hf : fndR S k with
  | none =>
    refine Ret.mono (refGetN_ret rb m _ av F w hd k (fndR_none hf m) (by simp; omega)) ?_
    rintro _ w' ⟨rfl, h3⟩
    exact ⟨by unfold resR; rw [hf]; rfl, h3⟩
  | some s0 =>
    obtain ⟨hk, i, _, hi, hu, _, _⟩ := fndR_some hn hf m
    refine Ret.mono (refGetY_ret rb m _ av F w hd k i _ hi hk hu (by simp; omega)) ?_
    rintro _ w' ⟨rfl, h3⟩
    exact ⟨by unfold resR; rw [hf]; rfl, h3⟩
theorem rTakeR (k : Key) (rb m : Nat) (S : List SlotR) (av : Value) (F : Nat → Prop) (w : World) (hd : RefD w rb (m : Int) (S.map (prR m)) av F) (hn : (S.map (·.key)).Nodup) (hS : S.length ≤ 2932031007400) :
    Ret Try.prog 18 [.pointer (some ⟨rb, 0, none⟩), .agg #[.int .i64 k.table, .int .i64 k.row]] w fun v w' => v = resR S k ∧ ∃ av' F', RefD w' rb (m : Int) ((S.filter (fun s => decide (s.key ≠ k))).map (prR m)) av' F' ∧ (∀ y, F' y → F y ∨ w.heap.size ≤ y) ∧ Kp (fun y => y = rb ∨ F y) w w' := by
  cases hf : fndR S k with
  | none =>
    refine Ret.mono (refTakeN_ret rb m _ av F w hd k (fndR_none hf m) (by simp; omega)) ?_
    rintro _ w' ⟨rfl, h3⟩
    have e : S.filter (fun s => decide (s.key ≠ k)) = S := List.filter_eq_self.2 (fun s hs => by unfold fndR at hf; rw [List.find?_eq_none] at hf; simpa using hf s hs)
    refine ⟨by unfold resR; rw [hf]; rfl, av, F, ?_, fun y h => .inl h, h3.of_none⟩
    rw [e]; exact hd.keep h3
  | some s0 =>
    obtain ⟨hk, i, _, hi, hu, _, her⟩ := fndR_some hn hf m
    refine Ret.mono (refTakeY_ret rb m _ av F w hd k i _ hi hk hu (by simp; omega)) ?_
    rintro _ w' ⟨rfl, av', F', h1, h2, h3⟩
    refine ⟨by unfold resR; rw [hf]; rfl, av', F', ?_, h2, h3⟩
    rw [her] at h1; exact h1
end Go.Proofs.Ytenhbogebfdjjaa.W
