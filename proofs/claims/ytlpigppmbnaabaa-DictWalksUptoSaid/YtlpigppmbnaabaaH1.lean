import Derived.Test.YtlpigppmbnaabaaL1I
import Derived.KernelRfl
namespace Go.Proofs.Ytlpigppmbnaabaa.W
open Go Go.Wk
set_option linter.unusedVariables false
set_option linter.unusedSimpArgs false

def kvp (s : SlotI) : Key × Int := (s.key, s.val)
structure DX where
  bp : Nat
  rs : List Nat
  ls : List (List (Key × SlotI))
  S : List SlotI
  c : Int
  n : Int
def DicR (b m : Nat) (l : List (Key × Int)) (N : Nat) (w : World) (x : DX) : Prop := DictI w b x.bp x.rs x.ls x.c x.n ∧ DII x.ls x.S x.c x.n ∧ x.ls.length = m ∧ x.S.map kvp = l ∧ x.c ≤ ((N : Nat) : Int) ∧ l.length ≤ N
def dicH (b m : Nat) (l : List (Key × Int)) (N : Nat) : HP := oldH (DicR b m l N) (fun x => fpD b x.bp x.rs) (fun h => h.1.lt) (fun h hk hd => ⟨h.1.kp hk hd, h.2⟩)
def fndP (l : List (Key × Int)) (k : Key) : Option (Key × Int) := l.find? (fun p => decide (p.1 = k))
def putP (l : List (Key × Int)) (k : Key) (v : Int) : List (Key × Int) := if (fndP l k).isSome then l.map (fun p => if p.1 = k then (k, v) else p) else l ++ [(k, v)]
def getP (l : List (Key × Int)) (k : Key) : Option Int := (fndP l k).map (·.2)
def delP (l : List (Key × Int)) (k : Key) : List (Key × Int) := l.filter (fun p => decide (p.1 ≠ k))
def allP (l : List (Key × Int)) (p : Int) : List (Key × Int) := if p = 0 then l else []
def resP (l : List (Key × Int)) (k : Key) : Value := .tuple #[.int .i64 ((getP l k).getD 0), .bool (getP l k).isSome]
theorem fnd_kvp (S : List SlotI) (k : Key) : fndP (S.map kvp) k = (fndI S k).map kvp := by unfold fndP fndI; rw [List.find?_map]; rfl
theorem res_kvp (S : List SlotI) (k : Key) : resI S k = resP (S.map kvp) k := by
  unfold resI resP getP; rw [fnd_kvp]
  cases fndI S k <;> rfl
theorem put_kvp (S : List SlotI) (k : Key) (v c : Int) : (putI S k v c).map kvp = putP (S.map kvp) k v := by
  unfold putI putP; rw [fnd_kvp]
  cases h : fndI S k with
  | none => simp [kvp]
  | some s =>
    simp only [Option.map_some, Option.isSome_some, if_true, List.map_map]
    refine List.map_congr_left fun x _ => ?_
    show kvp (updI k v x) = if (kvp x).1 = k then (k, v) else kvp x
    unfold updI
    by_cases e : x.key = k
    · rw [if_pos (show (kvp x).1 = k from e), if_pos e]; show (x.key, v) = (k, v); rw [e]
    · rw [if_neg (show ¬ (kvp x).1 = k from e), if_neg e]
theorem del_kvp (S : List SlotI) (k : Key) : (S.filter (fun s => decide (s.key ≠ k))).map kvp = delP (S.map kvp) k := by
  unfold delP; rw [List.filter_map]; rfl
theorem in_nil (m : Nat) (p : Int) (s : SlotI) : inPI m p s = decide ((0 : Int) = p) := by unfold inPI nilK; rw [Nat.zero_mod]; rfl
theorem all_kvp (S : List SlotI) (m : Nat) (p : Int) : (S.filter (inPI m p)).map kvp = allP (S.map kvp) p := by
  unfold allP
  by_cases h : p = 0
  · subst h
    rw [if_pos rfl, List.filter_eq_self.2 (fun s _ => by rw [in_nil]; rfl)]
  · have h2 : S.filter (inPI m p) = [] := List.filter_eq_nil_iff.2 (fun s _ => by rw [in_nil]; simp; omega)
    rw [if_neg h, h2]; rfl
theorem dic_nodup {w0 w : World} {S0 : Nat → Prop} {R L : List HP} {b m N : Nat} {l : List (Key × Int)} (H : St w0 S0 R w L) (k : Nat) (hA : getH L k = dicH b m l N) : (l.map (·.1)).Nodup ∧ l.length ≤ N := by
  obtain ⟨S, x, ⟨h1, h2, h3, h4, h5, h6⟩, _⟩ := H.get k hA
  refine ⟨?_, h6⟩
  rw [← h4, List.map_map]; exact h2.keys
theorem get_mem {l : List (Key × Int)} (hn : (l.map (·.1)).Nodup) {i : Nat} {p : Key × Int} (h : l[i]? = some p) : getP l p.1 = some p.2 := by
  unfold getP fndP
  induction l generalizing i with
  | nil => simp at h
  | cons q l ih =>
    rw [List.find?_cons]
    cases i with
    | zero => cases h; simp
    | succ i =>
      have hm : p ∈ l := List.mem_of_getElem? (by simpa using h)
      have hmm : p.1 ∈ l.map (·.1) := List.mem_map_of_mem hm
      have hne : q.1 ≠ p.1 := fun e => (List.nodup_cons.1 hn).1 (by show q.1 ∈ _; rw [e]; exact hmm)
      rw [decide_eq_false hne]
      exact ih (List.nodup_cons.1 hn).2 (by simpa using h)
theorem putP_len (l : List (Key × Int)) (k : Key) (v : Int) : (putP l k v).length ≤ l.length + 1 ∧ 0 < (putP l k v).length := by
  unfold putP
  split
  · rename_i h
    rw [List.length_map]
    refine ⟨Nat.le_succ _, ?_⟩
    rcases Nat.eq_zero_or_pos l.length with h0 | h0
    · have := List.eq_nil_of_length_eq_zero h0; subst this; cases h
    · exact h0
  · simp

theorem dic_le {b m N N' : Nat} {l : List (Key × Int)} (h : N ≤ N') : Le (dicH b m l N) (dicH b m l N') := fun w S ⟨x, ⟨h1, h2, h3, h4, h5, h6⟩, hs⟩ => ⟨S, ⟨x, ⟨h1, h2, h3, h4, by omega, by omega⟩, hs⟩, fun _ h => h⟩
theorem get_some {l : List (Key × Int)} {k : Key} : (getP l k).isSome = (fndP l k).isSome := by unfold getP; cases fndP l k <;> rfl
theorem putP_new {l : List (Key × Int)} {k : Key} (v : Int) (h : (getP l k).isSome = false) : putP l k v = l ++ [(k, v)] := by
  rw [get_some] at h; unfold putP; rw [if_neg (by rw [h]; simp)]
theorem fnd_del (l : List (Key × Int)) (k : Key) : fndP (delP l k) k = none := by
  unfold fndP delP
  rw [List.find?_eq_none]
  intro p hp
  have := (List.mem_filter.1 hp).2
  simpa using this
theorem del_put {l : List (Key × Int)} {k : Key} (v : Int) : delP (l.map (fun p => if p.1 = k then (k, v) else p)) k = delP l k := by
  unfold delP
  induction l with
  | nil => rfl
  | cons p l ih =>
    rw [List.map_cons, List.filter_cons, List.filter_cons, ih]
    by_cases e : p.1 = k
    · rw [if_pos e]; simp [e]
    · rw [if_neg e]
theorem putP_again {l : List (Key × Int)} {k : Key} (v : Int) (h : (getP l k).isSome = true) : putP (delP (putP l k v) k) k v = delP l k ++ [(k, v)] := by
  rw [get_some] at h
  have e : delP (putP l k v) k = delP l k := by unfold putP; rw [if_pos h, del_put]
  rw [e]; unfold putP; rw [fnd_del]; rfl
theorem del_cons (p : Key × Int) (l : List (Key × Int)) (k : Key) : delP (p :: l) k = if p.1 = k then delP l k else p :: delP l k := by
  unfold delP; rw [List.filter_cons]
  by_cases e : p.1 = k
  · rw [if_pos e]; simp [e]
  · rw [if_neg e]; simp [e]
def encKV (x : Key × Int) : List Value := [.int .i64 x.1.table, .int .i64 x.1.row, .int .i64 x.2, .int .i64 0]
theorem encKV_len (x : Key × Int) : (encKV x).length = 4 := rfl
theorem encKV_one (x : Key × Int) : ∀ u ∈ encKV x, u.oneCell' = true := oneAll
theorem one_kvp {R : List SlotI} {p : Key × Int} (h : R.map kvp = [p]) {x : SlotI} (hx : R[0]? = some x) : kvp x = p := by
  have h1 : (R.map kvp)[0]? = some (kvp x) := by rw [List.getElem?_map, hx]; rfl
  rw [h] at h1; exact (Option.some.inj h1).symm
theorem er_nil {R : List SlotI} {l : List (Key × Int)} {p : Int} (h : R.map kvp = allP l p) (hp : p ≠ 0 ∨ l = []) : R = [] := by
  have : allP l p = [] := by
    unfold allP
    rcases hp with hp | hp
    · rw [if_neg hp]
    · rw [hp]; split <;> rfl
  rw [this] at h
  exact List.map_eq_nil_iff.1 h

theorem put_tr {b m N : Nat} {l : List (Key × Int)} (k : Key) (x : Int) (hN : N ≤ 2932031007400) : Tr Try.prog 6 [.pointer (some ⟨b, 0, none⟩), .agg #[.int .i64 k.table, .int .i64 k.row], .int .i64 x] [] [dicH b m l N] fun v q => v = resP l k ∧ q = [dicH b m (putP l k x) (N + 1)] :=
  Tr.of_old fun w ⟨bp, rs, ls, S, c, n⟩ ⟨h1, h2, h3, h4, h5, h6⟩ => by
    subst h4
    simp only at h1 h2 h3 h5 h6
    refine Ret.mono (dPutI k x b bp rs ls S c n w h1 h2 (by omega) (by rw [List.length_map] at h6; omega)) ?_
    rintro _ w' ⟨rfl, ls', c', n', g1, g2, g3, g4, g5, g6⟩
    exact ⟨res_kvp S k, ⟨bp, rs, ls', putI S k x c, c', n'⟩, ⟨g1, g2, g3.trans h3, put_kvp S k x c, by simp only []; omega, Nat.le_trans (putP_len (S.map kvp) k x).1 (Nat.succ_le_succ h6)⟩, fun b hb => .inl hb, g6.mono fun y _ hy => hy.elim .inl (fun h => .inr (.inr h))⟩

theorem get_tr {b m N : Nat} {l : List (Key × Int)} (k : Key) : Tr Try.prog 9 [.pointer (some ⟨b, 0, none⟩), .agg #[.int .i64 k.table, .int .i64 k.row]] [dicH b m l N] [] fun v q => v = resP l k ∧ q = [] :=
  Tr.of_quiet fun w ⟨bp, rs, ls, S, c, n⟩ ⟨h1, h2, h3, h4, h5, h6⟩ => by
    subst h4
    refine Ret.mono (dGetI k b bp rs ls S c n w h1 h2) ?_
    rintro _ w' ⟨rfl, g⟩
    exact ⟨res_kvp S k, g⟩

theorem take_tr {b m N : Nat} {l : List (Key × Int)} (k : Key) (hN : N ≤ 2932031007400) : Tr Try.prog 11 [.pointer (some ⟨b, 0, none⟩), .agg #[.int .i64 k.table, .int .i64 k.row]] [] [dicH b m l N] fun v q => v = resP l k ∧ q = [dicH b m (delP l k) N] :=
  Tr.of_old fun w ⟨bp, rs, ls, S, c, n⟩ ⟨h1, h2, h3, h4, h5, h6⟩ => by
    subst h4
    simp only at h1 h2 h3 h5 h6
    refine Ret.mono (dTakeI k b bp rs ls S c n w h1 h2 (by rw [List.length_map] at h6; omega)) ?_
    rintro _ w' ⟨rfl, ls', n', g1, g2, g3, g6⟩
    exact ⟨res_kvp S k, ⟨bp, rs, ls', S.filter (fun s => decide (s.key ≠ k)), c, n'⟩, ⟨g1, g2, g3.trans h3, del_kvp S k, h5, Nat.le_trans (List.length_filter_le _ _) h6⟩, fun b hb => .inl hb, g6.mono fun y _ hy => hy.elim .inl (fun h => .inr (.inr h))⟩

theorem clear_tr {b m N : Nat} {l : List (Key × Int)} : Tr Try.prog 12 [.pointer (some ⟨b, 0, none⟩)] [] [dicH b m l N] fun v q => v = .tuple #[] ∧ q = [dicH b m [] N] :=
  Tr.of_old fun w ⟨bp, rs, ls, S, c, n⟩ ⟨h1, h2, h3, h4, h5, h6⟩ => by
    refine Ret.mono (clearI_ret b bp rs ls c n w h1) ?_
    rintro _ w' ⟨rfl, g1, g2⟩
    exact ⟨rfl, ⟨bp, rs, List.replicate ls.length [], [], c, 0⟩, ⟨g1, h2.clear, by simpa using h3, rfl, h5, Nat.zero_le _⟩, fun b hb => .inl hb, g2.mono fun y _ hy => hy.elim .inl (fun h => .inr (.inr h))⟩

theorem len_tr {b m N : Nat} {l : List (Key × Int)} : Tr Try.prog 10 [.pointer (some ⟨b, 0, none⟩)] [dicH b m l N] [] fun v q => v = .int .i64 ((l.length : Nat) : Int) ∧ q = [] :=
  Tr.of_quiet fun w ⟨bp, rs, ls, S, c, n⟩ ⟨h1, h2, h3, h4, h5, h6⟩ => by
    refine Ret.mono (lenI_ret b bp rs ls c n w h1) ?_
    rintro _ w' ⟨rfl, g⟩
    refine ⟨?_, g⟩
    have := h2.cnt
    subst h4
    simp only at this
    rw [List.length_map, this]

theorem keys_tr {b m N : Nat} {l : List (Key × Int)} (p : Int) (hN : N ≤ 2932031007400) : Tr Try.prog 7 [.pointer (some ⟨b, 0, none⟩), .int .i64 p] [dicH b m l N] [] fun v q => ∃ a c ks, ks = (allP l p).map (·.1) ∧ v = .slice a ks.length c ∧ q = [slH encKey 2 28 a ks.length c ks] :=
  Tr.of_new fun w ⟨bp, rs, ls, S, c, n⟩ ⟨h1, h2, h3, h4, h5, h6⟩ => by
    subst h4
    simp only at h1 h2 h3 h5 h6
    rw [List.length_map] at h6
    refine Ret.mono (keysI_ret b bp rs ls c n w h1 p (h2.cameOk (by omega)) (fun x hx => Nat.le_trans (h2.lens x hx) (by omega))) ?_
    rintro v w' ⟨R, hR, hs, g⟩
    have e := h2.row hR
    refine ⟨R.map (·.key), ?_, ⟨_, hs, fun y hy => hy.1⟩, g⟩
    rw [e, ← all_kvp S ls.length p, List.map_map]; rfl

theorem row_tr {b m N : Nat} {l : List (Key × Int)} (p : Int) (hN : N ≤ 2932031007400) : Tr Try.prog 15 [.pointer (some ⟨b, 0, none⟩), .int .i64 p] [dicH b m l N] [] fun v q => ∃ a c R, R.map kvp = allP l p ∧ v = .slice a R.length c ∧ q = [slH encSlotI 4 50 a R.length c R] :=
  Tr.of_new fun w ⟨bp, rs, ls, S, c, n⟩ ⟨h1, h2, h3, h4, h5, h6⟩ => by
    subst h4
    simp only at h1 h2 h3 h5 h6
    rw [List.length_map] at h6
    refine Ret.mono (rowAI_ret b bp rs ls c n w h1 p (h2.cameOk (by omega)) (fun x hx => Nat.le_trans (h2.lens x hx) (by omega))) ?_
    rintro v w' ⟨R, hR, hs, g⟩
    have e := h2.row hR
    refine ⟨R, ?_, ⟨_, hs, fun y hy => hy.1⟩, g⟩
    rw [e]; exact all_kvp S ls.length p

theorem newd_tr (m : Int) (hm : 1 ≤ m ∧ m ≤ 256) : Tr Try.prog 5 [.int .i64 m, .nilFunc] [] [] fun v q => ∃ b, v = .tuple #[.pointer (some ⟨b, 0, none⟩), .int .i64 0] ∧ q = [dicH b m.toNat [] 0] := by
  intro w S0 H
  refine Ret.mono (newDI_ret m w) ?_
  rintro v w' ⟨_, h⟩
  obtain ⟨b, bp, rs, rfl, h1, h2, h3⟩ := h hm
  exact ⟨_, ⟨b, rfl, rfl⟩, H.new (S := fpD b bp rs) h2 ⟨⟨bp, rs, List.replicate m.toNat [], [], 0, 0⟩, ⟨h1, DII.new (by omega), by simp, rfl, Int.le_refl _, Nat.le_refl _⟩, fun _ => Iff.rfl⟩ h3⟩
end Go.Proofs.Ytlpigppmbnaabaa.W
