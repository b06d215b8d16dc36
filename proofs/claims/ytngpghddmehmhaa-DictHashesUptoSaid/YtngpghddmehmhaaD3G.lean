import Derived.Test.YtngpghddmehmhaaD2G
import Derived.KernelRfl
namespace Go.Proofs.Ytngpghddmehmhaa.W
open Go Go.Wk
set_option linter.unusedVariables false

/-- S: all slots, in the order in which they came. -/
structure DIG (ls : List (List (ByteArray × SlotG))) (S : List SlotG) (came n : Int) : Prop where
  pos : 0 < ls.length
  keyed : ∀ l ∈ ls, (l.map (·.1)).Nodup ∧ ∀ p ∈ l, p.2.key = p.1
  part : ∀ (p : Nat) (l : List (ByteArray × SlotG)), ls[p]? = some l → (l.map (·.2)).Perm (S.filter (fun s => decide (lonF s.key % ls.length = p)))
  ord : S.Pairwise (fun a b => a.came < b.came)
  bnd : ∀ s ∈ S, 1 ≤ s.came ∧ s.came ≤ came
  keys : (S.map (·.key)).Nodup
  cnt : n = (S.length : Nat)
  came0 : 0 ≤ came
theorem nodup_keyG {S : List SlotG} (h : (S.map (·.key)).Nodup) {a b : SlotG} (ha : a ∈ S) (hb : b ∈ S) (e : a.key = b.key) : a = b := by
  obtain ⟨i, hi⟩ := List.getElem?_of_mem ha
  obtain ⟨j, hj⟩ := List.getElem?_of_mem hb
  have := nodup_inj h (i := i) (j := j) (x := a.key) (by rw [List.getElem?_map, hi]; rfl) (by rw [List.getElem?_map, hj, Option.map_some, e])
  subst this
  rw [hi] at hj; cases hj; rfl
theorem DIG.mem {ls : List (List (ByteArray × SlotG))} {S : List SlotG} {came n : Int} (h : DIG ls S came n) {k : ByteArray} {l : List (ByteArray × SlotG)} (hl : ls[lonF k % ls.length]? = some l) (s : SlotG) : (k, s) ∈ l ↔ s ∈ S ∧ s.key = k := by
  have hp := (h.part _ _ hl).mem_iff (a := s)
  have hk := h.keyed l (List.mem_of_getElem? hl)
  rw [List.mem_filter] at hp
  constructor
  · intro hm
    have := hp.1 (List.mem_map.2 ⟨_, hm, rfl⟩)
    exact ⟨this.1, hk.2 _ hm⟩
  · rintro ⟨hs, rfl⟩
    obtain ⟨p, hpm, rfl⟩ := List.mem_map.1 (hp.2 ⟨hs, by simp⟩)
    have := hk.2 p hpm
    rw [this]; exact hpm
theorem DIG.get {ls : List (List (ByteArray × SlotG))} {S : List SlotG} {came n : Int} (h : DIG ls S came n) (k : ByteArray) : dgetG ls k = S.find? (fun s => decide (s.key = k)) := by
  have hi := Nat.mod_lt (lonF k) h.pos
  obtain ⟨l, hl⟩ : ∃ l, ls[lonF k % ls.length]? = some l := ⟨_, List.getElem?_eq_getElem hi⟩
  rw [dgetG_eq hl]
  have hk := h.keyed l (List.mem_of_getElem? hl)
  cases hf : S.find? (fun s => decide (s.key = k)) with
  | none =>
    cases hg : getL l k with
    | none => rfl
    | some s =>
      have := (h.mem hl s).1 (getL_mem hg)
      rw [List.find?_eq_none] at hf
      exact absurd this.2 (by simpa using hf s this.1)
  | some s =>
    have h1 := List.mem_of_find?_eq_some hf
    have h2 := List.find?_some hf
    exact mem_getL hk.1 ((h.mem hl s).2 ⟨h1, by simpa using h2⟩)
theorem putL_newG {l : List (ByteArray × SlotG)} {k : ByteArray} (h : getL l k = none) (s : SlotG) : putL l k s = l ++ [(k, s)] := by
  induction l with
  | nil => rfl
  | cons p r ih =>
    unfold getL at h
    split at h
    · cases h
    · rename_i e
      unfold putL
      rw [if_neg e, ih h]; rfl
theorem putL_oldG {l : List (ByteArray × SlotG)} {k : ByteArray} (hn : (l.map (·.1)).Nodup) {s0 : SlotG} (h : getL l k = some s0) (s : SlotG) : putL l k s = l.map (fun p => if p.1 = k then (k, s) else p) := by
  induction l with
  | nil => cases h
  | cons p r ih =>
    rw [List.map_cons, List.nodup_cons] at hn
    unfold putL
    split
    · rename_i e
      rw [List.map_cons, if_pos e.symm]
      congr 1
      refine ((List.map_congr_left fun q hq => ?_).trans (List.map_id r)).symm
      rw [if_neg (fun e2 => hn.1 (by rw [← e, ← e2]; exact List.mem_map.2 ⟨q, hq, rfl⟩))]; rfl
    · rename_i e
      rw [getL_neg e] at h
      rw [List.map_cons, if_neg (fun e2 => e e2.symm), ih hn.2 h]
theorem delL_filterG {l : List (ByteArray × SlotG)} {k : ByteArray} (hn : (l.map (·.1)).Nodup) : delL l k = l.filter (fun p => decide (p.1 ≠ k)) := by
  induction l with
  | nil => rfl
  | cons p r ih =>
    rw [List.map_cons, List.nodup_cons] at hn
    unfold delL
    split
    · rename_i e
      rw [List.filter_cons, if_neg (by simp [e])]
      refine (List.filter_eq_self.2 fun q hq => ?_).symm
      simp only [decide_eq_true_eq]
      exact fun e2 => hn.1 (by rw [← e, ← e2]; exact List.mem_map.2 ⟨q, hq, rfl⟩)
    · rename_i e
      rw [List.filter_cons, if_pos (by simpa using fun e2 => e e2.symm), ih hn.2]
def updG (k : ByteArray) (v : PairV) (s : SlotG) : SlotG := if s.key = k then { s with val := v } else s
theorem updG_key (k : ByteArray) (v : PairV) (s : SlotG) : (updG k v s).key = s.key ∧ (updG k v s).came = s.came := by unfold updG; split <;> exact ⟨rfl, rfl⟩
theorem DIG.new {m : Nat} (hm : 0 < m) : DIG (List.replicate m []) [] 0 0 where
  pos := by simpa using hm
  keyed l hl := by rw [(List.mem_replicate.1 hl).2]; simp
  part p l hl := by
    rw [List.getElem?_replicate] at hl
    split at hl
    · cases hl; simp
    · cases hl
  ord := .nil
  bnd s hs := by cases hs
  keys := .nil
  cnt := rfl
  came0 := Int.le_refl _
theorem DIG.clear {ls : List (List (ByteArray × SlotG))} {S : List SlotG} {came n : Int} (h : DIG ls S came n) : DIG (List.replicate ls.length []) [] came 0 where
  pos := by simpa using h.pos
  keyed l hl := by rw [(List.mem_replicate.1 hl).2]; simp
  part p l hl := by
    rw [List.getElem?_replicate] at hl
    split at hl
    · cases hl; simp
    · cases hl
  ord := .nil
  bnd s hs := by cases hs
  keys := .nil
  cnt := rfl
  came0 := h.came0
theorem DIG.putN {ls : List (List (ByteArray × SlotG))} {S : List SlotG} {came n : Int} (h : DIG ls S came n) {k : ByteArray} (hno : S.find? (fun s => decide (s.key = k)) = none) (v : PairV) : DIG (dputG ls k ⟨k, v, came + 1⟩) (S ++ [⟨k, v, came + 1⟩]) (came + 1) (n + 1) := by
  have hi := Nat.mod_lt (lonF k) h.pos
  obtain ⟨l, hl⟩ : ∃ l, ls[lonF k % ls.length]? = some l := ⟨_, List.getElem?_eq_getElem hi⟩
  have hg : getL l k = none := by rw [← dgetG_eq hl, h.get k]; exact hno
  have e : dputG ls k ⟨k, v, came + 1⟩ = ls.set (lonF k % ls.length) (l ++ [(k, ⟨k, v, came + 1⟩)]) := by
    unfold dputG; rw [List.getD_eq_getElem?_getD, hl, Option.getD_some, putL_newG hg]
  have hkn : ∀ s ∈ S, s.key ≠ k := fun s hs => by rw [List.find?_eq_none] at hno; simpa using hno s hs
  rw [e]
  refine ⟨by simpa using h.pos, fun l' hl' => ?_, fun p l' hl' => ?_, ?_, fun s hs => ?_, ?_, by simp [h.cnt], by have := h.came0; omega⟩
  · rcases List.mem_or_eq_of_mem_set hl' with h1 | rfl
    · exact h.keyed l' h1
    · rw [← putL_newG hg]
      exact put_keysG (h.keyed l (List.mem_of_getElem? hl)) k _ rfl
  · rw [List.length_set, List.filter_append]
    rw [List.getElem?_set] at hl'
    split at hl'
    · rename_i ep
      cases hl'
      rw [List.map_append]
      refine ((h.part _ _ hl).append (.refl _)).trans ?_
      rw [← ep]; simp
    · rename_i ep
      have := h.part p l' hl'
      simpa [ep] using this
  · rw [List.pairwise_append]
    exact ⟨h.ord, by simp, fun a ha b hb => by rw [List.mem_singleton] at hb; subst hb; have := h.bnd a ha; show a.came < came + 1; omega⟩
  · rcases List.mem_append.1 hs with hs | hs
    · have := h.bnd s hs; omega
    · rw [List.mem_singleton] at hs; subst hs; have := h.came0; exact ⟨by show 1 ≤ came + 1; omega, Int.le_refl _⟩
  · rw [List.map_append, List.nodup_append]
    refine ⟨h.keys, by simp, fun a ha b hb e2 => ?_⟩
    obtain ⟨s, hs, rfl⟩ := List.mem_map.1 ha
    simp at hb
    exact hkn s hs (e2.trans hb)
theorem updG_filter (S : List SlotG) (k : ByteArray) (v : PairV) (m p : Nat) : (S.map (updG k v)).filter (fun s => decide (lonF s.key % m = p)) = (S.filter (fun s => decide (lonF s.key % m = p))).map (updG k v) := by
  induction S with
  | nil => rfl
  | cons s r ih =>
    rw [List.map_cons, List.filter_cons, List.filter_cons, (updG_key k v s).1, ih]
    split <;> rfl
theorem updG_other (S : List SlotG) (k : ByteArray) (v : PairV) (m p : Nat) (hp : lonF k % m ≠ p) : (S.filter (fun s => decide (lonF s.key % m = p))).map (updG k v) = S.filter (fun s => decide (lonF s.key % m = p)) := by
  refine (List.map_congr_left fun s hs => ?_).trans (List.map_id _)
  have := of_decide_eq_true (List.mem_filter.1 hs).2
  show updG k v s = s
  unfold updG
  exact if_neg (fun ek : s.key = k => hp (by rw [← ek]; exact this))
theorem DIG.putY {ls : List (List (ByteArray × SlotG))} {S : List SlotG} {came n : Int} (h : DIG ls S came n) {k : ByteArray} {s0 : SlotG} (hs0 : S.find? (fun s => decide (s.key = k)) = some s0) (v : PairV) : DIG (dputG ls k ⟨k, v, s0.came⟩) (S.map (updG k v)) came n := by
  have hi := Nat.mod_lt (lonF k) h.pos
  obtain ⟨l, hl⟩ : ∃ l, ls[lonF k % ls.length]? = some l := ⟨_, List.getElem?_eq_getElem hi⟩
  have hlk := h.keyed l (List.mem_of_getElem? hl)
  have hg : getL l k = some s0 := by rw [← dgetG_eq hl, h.get k]; exact hs0
  have hkey : s0.key = k := by simpa using List.find?_some hs0
  have e : dputG ls k ⟨k, v, s0.came⟩ = ls.set (lonF k % ls.length) (putL l k ⟨k, v, s0.came⟩) := by
    unfold dputG; rw [List.getD_eq_getElem?_getD, hl, Option.getD_some]
  have e2 : (putL l k ⟨k, v, s0.came⟩).map (·.2) = (l.map (·.2)).map (updG k v) := by
    rw [putL_oldG hlk.1 hg, List.map_map, List.map_map]
    refine List.map_congr_left fun p hp => ?_
    show (if p.1 = k then (k, (⟨k, v, s0.came⟩ : SlotG)) else p).2 = updG k v p.2
    have hpk := hlk.2 p hp
    unfold updG
    by_cases ek : p.1 = k
    · rw [if_pos ek, if_pos (hpk.trans ek)]
      have : p.2 = s0 := by
        have h1 := mem_getL hlk.1 (a := p.1) (v := p.2) hp
        rw [ek, hg] at h1; cases h1; rfl
      rw [this, ← hkey]
    · rw [if_neg ek, if_neg (fun e3 => ek (hpk ▸ e3))]
  rw [e]
  refine ⟨by simpa using h.pos, fun l' hl' => ?_, fun p l' hl' => ?_, ?_, fun s hs => ?_, ?_, by rw [List.length_map]; exact h.cnt, h.came0⟩
  · rcases List.mem_or_eq_of_mem_set hl' with h1 | rfl
    · exact h.keyed l' h1
    · exact put_keysG hlk k _ rfl
  · rw [List.length_set, updG_filter]
    rw [List.getElem?_set] at hl'
    split at hl'
    · rename_i ep
      cases hl'
      rw [e2, ← ep]
      exact (h.part _ _ hl).map _
    · rename_i ep
      have h1 := h.part p l' hl'
      rw [updG_other S k v _ _ ep]; exact h1
  · rw [List.pairwise_map]
    exact h.ord.imp (fun {a b} hab => by rw [(updG_key k v a).2, (updG_key k v b).2]; exact hab)
  · obtain ⟨s1, hs1, rfl⟩ := List.mem_map.1 hs
    rw [(updG_key k v s1).2]; exact h.bnd s1 hs1
  · rw [List.map_map]
    have : ((fun s : SlotG => s.key) ∘ updG k v) = (fun s => s.key) := funext fun s => (updG_key k v s).1
    rw [this]; exact h.keys
theorem DIG.del {ls : List (List (ByteArray × SlotG))} {S : List SlotG} {came n : Int} (h : DIG ls S came n) (k : ByteArray) : DIG (ddelG ls k) (S.filter (fun s => decide (s.key ≠ k))) came ((S.filter (fun s => decide (s.key ≠ k))).length : Nat) := by
  have hi := Nat.mod_lt (lonF k) h.pos
  obtain ⟨l, hl⟩ : ∃ l, ls[lonF k % ls.length]? = some l := ⟨_, List.getElem?_eq_getElem hi⟩
  have hlk := h.keyed l (List.mem_of_getElem? hl)
  have e : ddelG ls k = ls.set (lonF k % ls.length) (delL l k) := by
    unfold ddelG; rw [List.getD_eq_getElem?_getD, hl, Option.getD_some]
  have e2 : (delL l k).map (·.2) = (l.map (·.2)).filter (fun s => decide (s.key ≠ k)) := by
    rw [delL_filterG hlk.1, List.filter_map]
    refine congrArg (List.map _) (List.filter_congr fun p hp => ?_)
    show _ = decide (p.2.key ≠ k)
    rw [hlk.2 p hp]
  have e3 : ∀ p, (S.filter (fun s => decide (s.key ≠ k))).filter (fun s => decide (lonF s.key % ls.length = p)) = (S.filter (fun s => decide (lonF s.key % ls.length = p))).filter (fun s => decide (s.key ≠ k)) := fun p => by
    rw [List.filter_filter, List.filter_filter]
    exact List.filter_congr fun s _ => Bool.and_comm _ _
  rw [e]
  refine ⟨by simpa using h.pos, fun l' hl' => ?_, fun p l' hl' => ?_, h.ord.sublist List.filter_sublist, fun s hs => h.bnd s (List.mem_filter.1 hs).1, h.keys.sublist (List.filter_sublist.map _), rfl, h.came0⟩
  · rcases List.mem_or_eq_of_mem_set hl' with h1 | rfl
    · exact h.keyed l' h1
    · exact del_keysG hlk k
  · rw [List.length_set, e3]
    rw [List.getElem?_set] at hl'
    split at hl'
    · rename_i ep
      cases hl'
      rw [e2, ← ep]
      exact (h.part _ _ hl).filter _
    · rename_i ep
      have h1 := h.part p l' hl'
      have h2 : (S.filter (fun s => decide (lonF s.key % ls.length = p))).filter (fun s => decide (s.key ≠ k)) = S.filter (fun s => decide (lonF s.key % ls.length = p)) := by
        refine List.filter_eq_self.2 fun s hs => ?_
        have := (List.mem_filter.1 hs).2
        simp only [decide_eq_true_eq]
        exact fun ek => ep (by rw [← ek]; simpa using this)
      rw [h2]; exact h1
def inPG (m : Nat) (p : Int) (s : SlotG) : Bool := decide (((lonF s.key % m : Nat) : Int) = p)
theorem DIG.perm {ls : List (List (ByteArray × SlotG))} {S : List SlotG} {came n : Int} (h : DIG ls S came n) (p : Int) : ((partLG ls p).map (·.2)).Perm (S.filter (inPG ls.length p)) := by
  unfold partLG
  split
  · rename_i hp
    obtain ⟨q, rfl⟩ : ∃ q : Nat, p = (q : Int) := ⟨p.toNat, by omega⟩
    rw [Int.toNat_natCast, List.getD_eq_getElem?_getD]
    cases hq : ls[q]? with
    | none =>
      have hlen : ls.length ≤ q := List.getElem?_eq_none_iff.1 hq
      have : S.filter (inPG ls.length (q : Int)) = [] := by
        rw [List.filter_eq_nil_iff]
        intro s _
        have := Nat.mod_lt (lonF s.key) h.pos
        simp [inPG]; omega
      rw [this]; exact .refl _
    | some l =>
      have := h.part q l hq
      have e : S.filter (inPG ls.length (q : Int)) = S.filter (fun s => decide (lonF s.key % ls.length = q)) := List.filter_congr fun s _ => by
        unfold inPG; exact decide_eq_decide.2 ⟨fun h => by omega, fun h => by omega⟩
      rw [e]; exact this
  · have : S.filter (inPG ls.length p) = [] := by
      rw [List.filter_eq_nil_iff]
      intro s _
      simp [inPG]; omega
    rw [this]; exact .refl _
theorem sorted_eqG : ∀ {l1 l2 : List SlotG}, l1.Perm l2 → l1.Pairwise (fun a b => a.came < b.came) → l2.Pairwise (fun a b => a.came < b.came) → l1 = l2
  | [], l2, hp, _, _ => (List.nil_perm.1 hp).symm
  | a :: r, l2, hp, h1, h2 => by
    cases l2 with
    | nil => exact absurd hp.length_eq (by simp)
    | cons b q =>
      obtain ⟨a1, a2⟩ := List.pairwise_cons.1 h1
      obtain ⟨b1, b2⟩ := List.pairwise_cons.1 h2
      have hab : a = b := by
        rcases List.mem_cons.1 (hp.mem_iff.1 (List.mem_cons_self (a := a) (l := r))) with e | e
        · exact e
        · rcases List.mem_cons.1 (hp.mem_iff.2 (List.mem_cons_self (a := b) (l := q))) with e' | e'
          · exact e'.symm
          · have := b1 a e; have := a1 b e'; omega
      subst hab
      rw [sorted_eqG (List.Perm.cons_inv hp) a2 b2]
theorem DIG.row {ls : List (List (ByteArray × SlotG))} {S : List SlotG} {came n : Int} (h : DIG ls S came n) {p : Int} {R : List SlotG} (hR : RowOfG (partLG ls p) R) : R = S.filter (inPG ls.length p) :=
  sorted_eqG (hR.1.trans (h.perm p)) hR.2 (h.ord.sublist List.filter_sublist)
theorem DIG.cameOk {ls : List (List (ByteArray × SlotG))} {S : List SlotG} {came n : Int} (h : DIG ls S came n) (hc : came ≤ 4611686018427387903) : ∀ l ∈ ls, CameOkG l := fun l hl => by
  obtain ⟨p, hp⟩ := List.getElem?_of_mem hl
  have hq := h.part p l hp
  refine ⟨fun x hx => ?_, ?_⟩
  · have := (List.mem_filter.1 (hq.mem_iff.1 (List.mem_map.2 ⟨x, hx, rfl⟩))).1
    have := h.bnd _ this
    unfold okCG; omega
  · have h1 := (hq.map (fun s => s.came)).nodup_iff.2 ?_
    · rw [List.map_map] at h1; exact h1
    · have := h.ord.sublist (List.filter_sublist (p := fun s => decide (lonF s.key % ls.length = p)))
      rw [List.nodup_iff_pairwise_ne, List.pairwise_map]
      exact this.imp (fun {a b} hab => by omega)
theorem DIG.lens {ls : List (List (ByteArray × SlotG))} {S : List SlotG} {came n : Int} (h : DIG ls S came n) : ∀ l ∈ ls, l.length ≤ S.length := fun l hl => by
  obtain ⟨p, hp⟩ := List.getElem?_of_mem hl
  have := (h.part p l hp).length_eq
  rw [List.length_map] at this
  rw [this]
  exact List.length_filter_le _ _
end Go.Proofs.Ytngpghddmehmhaa.W
