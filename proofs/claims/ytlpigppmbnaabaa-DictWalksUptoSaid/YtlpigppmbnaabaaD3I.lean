import Derived.Test.YtlpigppmbnaabaaD2I
import Derived.KernelRfl
namespace Go.Proofs.Ytlpigppmbnaabaa.W
open Go Go.Wk
set_option linter.unusedVariables false
set_option linter.unusedSimpArgs false

/-- S: all slots, in the order in which they came. -/
structure DII (ls : List (List (Key × SlotI))) (S : List SlotI) (came n : Int) : Prop where
  pos : 0 < ls.length
  keyed : ∀ l ∈ ls, (l.map (·.1)).Nodup ∧ ∀ p ∈ l, p.2.key = p.1
  part : ∀ (p : Nat) (l : List (Key × SlotI)), ls[p]? = some l → (l.map (·.2)).Perm (S.filter (fun s => decide (nilK s.key % ls.length = p)))
  ord : S.Pairwise (fun a b => a.came < b.came)
  bnd : ∀ s ∈ S, 1 ≤ s.came ∧ s.came ≤ came
  keys : (S.map (·.key)).Nodup
  cnt : n = (S.length : Nat)
  came0 : 0 ≤ came
theorem nodup_keyI {S : List SlotI} (h : (S.map (·.key)).Nodup) {a b : SlotI} (ha : a ∈ S) (hb : b ∈ S) (e : a.key = b.key) : a = b := by
  obtain ⟨i, hi⟩ := List.getElem?_of_mem ha
  obtain ⟨j, hj⟩ := List.getElem?_of_mem hb
  have := nodup_inj h (i := i) (j := j) (x := a.key) (by rw [List.getElem?_map, hi]; rfl) (by rw [List.getElem?_map, hj, Option.map_some, e])
  subst this
  rw [hi] at hj; cases hj; rfl
theorem DII.mem {ls : List (List (Key × SlotI))} {S : List SlotI} {came n : Int} (h : DII ls S came n) {k : Key} {l : List (Key × SlotI)} (hl : ls[nilK k % ls.length]? = some l) (s : SlotI) : (k, s) ∈ l ↔ s ∈ S ∧ s.key = k := by
  have hp := (h.part _ _ hl).mem_iff (a := s)
  have hk := h.keyed l (List.mem_of_getElem? hl)
  rw [List.mem_filter] at hp
  constructor
  · intro hm
    have := hp.1 (List.mem_map.2 ⟨_, hm, rfl⟩)
    exact ⟨this.1, hk.2 _ hm⟩
  · rintro ⟨hs, rfl⟩
    obtain ⟨p, hpm, rfl⟩ := List.mem_map.1 (hp.2 ⟨hs, by simp⟩)
    have := hk.2 p hpm
    rw [this]; exact hpm
theorem DII.get {ls : List (List (Key × SlotI))} {S : List SlotI} {came n : Int} (h : DII ls S came n) (k : Key) : dgetI ls k = S.find? (fun s => decide (s.key = k)) := by
  have hi := Nat.mod_lt (nilK k) h.pos
  obtain ⟨l, hl⟩ : ∃ l, ls[nilK k % ls.length]? = some l := ⟨_, List.getElem?_eq_getElem hi⟩
  rw [dgetI_eq hl]
  have hk := h.keyed l (List.mem_of_getElem? hl)
  cases hf : S.find? (fun s => decide (s.key = k)) with
  | none =>
    cases hg : getL l k with
    | none => rfl
    | some s =>
      have := (h.mem hl s).1 (getL_mem hg)
      rw [List.find?_eq_none] at hf
      exact absurd this.2 (by simpa using hf s this.1)
  | some s =>
    have h1 := List.mem_of_find?_eq_some hf
    have h2 := List.find?_some hf
    exact mem_getL hk.1 ((h.mem hl s).2 ⟨h1, by simpa using h2⟩)
theorem putL_newI {l : List (Key × SlotI)} {k : Key} (h : getL l k = none) (s : SlotI) : putL l k s = l ++ [(k, s)] := by
  induction l with
  | nil => rfl
  | cons p r ih =>
    unfold getL at h
    split at h
    · cases h
    · rename_i e
      unfold putL
      rw [if_neg e, ih h]; rfl
theorem putL_oldI {l : List (Key × SlotI)} {k : Key} (hn : (l.map (·.1)).Nodup) {s0 : SlotI} (h : getL l k = some s0) (s : SlotI) : putL l k s = l.map (fun p => if p.1 = k then (k, s) else p) := by
  induction l with
  | nil => cases h
  | cons p r ih =>
    rw [List.map_cons, List.nodup_cons] at hn
    unfold putL
    split
    · rename_i e
      rw [List.map_cons, if_pos e.symm]
      congr 1
      refine ((List.map_congr_left fun q hq => ?_).trans (List.map_id r)).symm
      rw [if_neg (fun e2 => hn.1 (by rw [← e, ← e2]; exact List.mem_map.2 ⟨q, hq, rfl⟩))]; rfl
    · rename_i e
      rw [getL_neg e] at h
      rw [List.map_cons, if_neg (fun e2 => e e2.symm), ih hn.2 h]
theorem delL_filterI {l : List (Key × SlotI)} {k : Key} (hn : (l.map (·.1)).Nodup) : delL l k = l.filter (fun p => decide (p.1 ≠ k)) := by
  induction l with
  | nil => rfl
  | cons p r ih =>
    rw [List.map_cons, List.nodup_cons] at hn
    unfold delL
    split
    · rename_i e
      rw [List.filter_cons, if_neg (by simp [e])]
      refine (List.filter_eq_self.2 fun q hq => ?_).symm
      simp only [decide_eq_true_eq]
      exact fun e2 => hn.1 (by rw [← e, ← e2]; exact List.mem_map.2 ⟨q, hq, rfl⟩)
    · rename_i e
      rw [List.filter_cons, if_pos (by simpa using fun e2 => e e2.symm), ih hn.2]
def updI (k : Key) (v : Int) (s : SlotI) : SlotI := if s.key = k then { s with val := v } else s
theorem updI_key (k : Key) (v : Int) (s : SlotI) : (updI k v s).key = s.key ∧ (updI k v s).came = s.came := by unfold updI; split <;> exact ⟨rfl, rfl⟩
theorem DII.new {m : Nat} (hm : 0 < m) : DII (List.replicate m []) [] 0 0 where
  pos := by simpa using hm
  keyed l hl := by rw [(List.mem_replicate.1 hl).2]; simp
  part p l hl := by
    rw [List.getElem?_replicate] at hl
    split at hl
    · cases hl; simp
    · cases hl
  ord := .nil
  bnd s hs := by cases hs
  keys := .nil
  cnt := rfl
  came0 := Int.le_refl _
theorem DII.clear {ls : List (List (Key × SlotI))} {S : List SlotI} {came n : Int} (h : DII ls S came n) : DII (List.replicate ls.length []) [] came 0 where
  pos := by simpa using h.pos
  keyed l hl := by rw [(List.mem_replicate.1 hl).2]; simp
  part p l hl := by
    rw [List.getElem?_replicate] at hl
    split at hl
    · cases hl; simp
    · cases hl
  ord := .nil
  bnd s hs := by cases hs
  keys := .nil
  cnt := rfl
  came0 := h.came0
theorem DII.putN {ls : List (List (Key × SlotI))} {S : List SlotI} {came n : Int} (h : DII ls S came n) {k : Key} (hno : S.find? (fun s => decide (s.key = k)) = none) (v : Int) : DII (dputI ls k ⟨k, v, came + 1⟩) (S ++ [⟨k, v, came + 1⟩]) (came + 1) (n + 1) := by
  have hi := Nat.mod_lt (nilK k) h.pos
  obtain ⟨l, hl⟩ : ∃ l, ls[nilK k % ls.length]? = some l := ⟨_, List.getElem?_eq_getElem hi⟩
  have hg : getL l k = none := by rw [← dgetI_eq hl, h.get k]; exact hno
  have e : dputI ls k ⟨k, v, came + 1⟩ = ls.set (nilK k % ls.length) (l ++ [(k, ⟨k, v, came + 1⟩)]) := by
    unfold dputI; rw [List.getD_eq_getElem?_getD, hl, Option.getD_some, putL_newI hg]
  have hkn : ∀ s ∈ S, s.key ≠ k := fun s hs => by rw [List.find?_eq_none] at hno; simpa using hno s hs
  rw [e]
  refine ⟨by simpa using h.pos, fun l' hl' => ?_, fun p l' hl' => ?_, ?_, fun s hs => ?_, ?_, by simp [h.cnt], by have := h.came0; omega⟩
  · rcases List.mem_or_eq_of_mem_set hl' with h1 | rfl
    · exact h.keyed l' h1
    · rw [← putL_newI hg]
      exact put_keysI (h.keyed l (List.mem_of_getElem? hl)) k _ rfl
  · rw [List.length_set, List.filter_append]
    rw [List.getElem?_set] at hl'
    split at hl'
    · rename_i ep
      cases hl'
      rw [List.map_append]
      refine ((h.part _ _ hl).append (.refl _)).trans ?_
      rw [← ep]; simp
    · rename_i ep
      have := h.part p l' hl'
      simpa [ep] using this
  · rw [List.pairwise_append]
    exact ⟨h.ord, by simp, fun a ha b hb => by rw [List.mem_singleton] at hb; subst hb; have := h.bnd a ha; show a.came < came + 1; omega⟩
  · rcases List.mem_append.1 hs with hs | hs
    · have := h.bnd s hs; omega
    · rw [List.mem_singleton] at hs; subst hs; have := h.came0; exact ⟨by show 1 ≤ came + 1; omega, Int.le_refl _⟩
  · rw [List.map_append, List.nodup_append]
    refine ⟨h.keys, by simp, fun a ha b hb e2 => ?_⟩
    obtain ⟨s, hs, rfl⟩ := List.mem_map.1 ha
    simp at hb
    exact hkn s hs (e2.trans hb)
theorem updI_filter (S : List SlotI) (k : Key) (v : Int) (m p : Nat) : (S.map (updI k v)).filter (fun s => decide (nilK s.key % m = p)) = (S.filter (fun s => decide (nilK s.key % m = p))).map (updI k v) := by
  induction S with
  | nil => rfl
  | cons s r ih =>
    rw [List.map_cons, List.filter_cons, List.filter_cons, (updI_key k v s).1, ih]
    split <;> rfl
theorem updI_other (S : List SlotI) (k : Key) (v : Int) (m p : Nat) (hp : nilK k % m ≠ p) : (S.filter (fun s => decide (nilK s.key % m = p))).map (updI k v) = S.filter (fun s => decide (nilK s.key % m = p)) := by
  refine (List.map_congr_left fun s hs => ?_).trans (List.map_id _)
  have := of_decide_eq_true (List.mem_filter.1 hs).2
  show updI k v s = s
  unfold updI
  exact if_neg (fun ek : s.key = k => hp (by rw [← ek]; exact this))
theorem DII.putY {ls : List (List (Key × SlotI))} {S : List SlotI} {came n : Int} (h : DII ls S came n) {k : Key} {s0 : SlotI} (hs0 : S.find? (fun s => decide (s.key = k)) = some s0) (v : Int) : DII (dputI ls k ⟨k, v, s0.came⟩) (S.map (updI k v)) came n := by
  have hi := Nat.mod_lt (nilK k) h.pos
  obtain ⟨l, hl⟩ : ∃ l, ls[nilK k % ls.length]? = some l := ⟨_, List.getElem?_eq_getElem hi⟩
  have hlk := h.keyed l (List.mem_of_getElem? hl)
  have hg : getL l k = some s0 := by rw [← dgetI_eq hl, h.get k]; exact hs0
  have hkey : s0.key = k := by simpa using List.find?_some hs0
  have e : dputI ls k ⟨k, v, s0.came⟩ = ls.set (nilK k % ls.length) (putL l k ⟨k, v, s0.came⟩) := by
    unfold dputI; rw [List.getD_eq_getElem?_getD, hl, Option.getD_some]
  have e2 : (putL l k ⟨k, v, s0.came⟩).map (·.2) = (l.map (·.2)).map (updI k v) := by
    rw [putL_oldI hlk.1 hg, List.map_map, List.map_map]
    refine List.map_congr_left fun p hp => ?_
    show (if p.1 = k then (k, (⟨k, v, s0.came⟩ : SlotI)) else p).2 = updI k v p.2
    have hpk := hlk.2 p hp
    unfold updI
    by_cases ek : p.1 = k
    · rw [if_pos ek, if_pos (hpk.trans ek)]
      have : p.2 = s0 := by
        have h1 := mem_getL hlk.1 (a := p.1) (v := p.2) hp
        rw [ek, hg] at h1; cases h1; rfl
      rw [this, ← hkey]
    · rw [if_neg ek, if_neg (fun e3 => ek (hpk ▸ e3))]
  rw [e]
  refine ⟨by simpa using h.pos, fun l' hl' => ?_, fun p l' hl' => ?_, ?_, fun s hs => ?_, ?_, by rw [List.length_map]; exact h.cnt, h.came0⟩
  · rcases List.mem_or_eq_of_mem_set hl' with h1 | rfl
    · exact h.keyed l' h1
    · exact put_keysI hlk k _ rfl
  · rw [List.length_set, updI_filter]
    rw [List.getElem?_set] at hl'
    split at hl'
    · rename_i ep
      cases hl'
      rw [e2, ← ep]
      exact (h.part _ _ hl).map _
    · rename_i ep
      have h1 := h.part p l' hl'
      rw [updI_other S k v _ _ ep]; exact h1
  · rw [List.pairwise_map]
    exact h.ord.imp (fun {a b} hab => by rw [(updI_key k v a).2, (updI_key k v b).2]; exact hab)
  · obtain ⟨s1, hs1, rfl⟩ := List.mem_map.1 hs
    rw [(updI_key k v s1).2]; exact h.bnd s1 hs1
  · rw [List.map_map]
    have : ((fun s : SlotI => s.key) ∘ updI k v) = (fun s => s.key) := funext fun s => (updI_key k v s).1
    rw [this]; exact h.keys
theorem DII.del {ls : List (List (Key × SlotI))} {S : List SlotI} {came n : Int} (h : DII ls S came n) (k : Key) : DII (ddelI ls k) (S.filter (fun s => decide (s.key ≠ k))) came ((S.filter (fun s => decide (s.key ≠ k))).length : Nat) := by
  have hi := Nat.mod_lt (nilK k) h.pos
  obtain ⟨l, hl⟩ : ∃ l, ls[nilK k % ls.length]? = some l := ⟨_, List.getElem?_eq_getElem hi⟩
  have hlk := h.keyed l (List.mem_of_getElem? hl)
  have e : ddelI ls k = ls.set (nilK k % ls.length) (delL l k) := by
    unfold ddelI; rw [List.getD_eq_getElem?_getD, hl, Option.getD_some]
  have e2 : (delL l k).map (·.2) = (l.map (·.2)).filter (fun s => decide (s.key ≠ k)) := by
    rw [delL_filterI hlk.1, List.filter_map]
    refine congrArg (List.map _) (List.filter_congr fun p hp => ?_)
    show _ = decide (p.2.key ≠ k)
    rw [hlk.2 p hp]
  have e3 : ∀ p, (S.filter (fun s => decide (s.key ≠ k))).filter (fun s => decide (nilK s.key % ls.length = p)) = (S.filter (fun s => decide (nilK s.key % ls.length = p))).filter (fun s => decide (s.key ≠ k)) := fun p => by
    rw [List.filter_filter, List.filter_filter]
    exact List.filter_congr fun s _ => Bool.and_comm _ _
  rw [e]
  refine ⟨by simpa using h.pos, fun l' hl' => ?_, fun p l' hl' => ?_, h.ord.sublist List.filter_sublist, fun s hs => h.bnd s (List.mem_filter.1 hs).1, h.keys.sublist (List.filter_sublist.map _), rfl, h.came0⟩
  · rcases List.mem_or_eq_of_mem_set hl' with h1 | rfl
    · exact h.keyed l' h1
    · exact del_keysI hlk k
  · rw [List.length_set, e3]
    rw [List.getElem?_set] at hl'
    split at hl'
    · rename_i ep
      cases hl'
      rw [e2, ← ep]
      exact (h.part _ _ hl).filter _
    · rename_i ep
      have h1 := h.part p l' hl'
      have h2 : (S.filter (fun s => decide (nilK s.key % ls.length = p))).filter (fun s => decide (s.key ≠ k)) = S.filter (fun s => decide (nilK s.key % ls.length = p)) := by
        refine List.filter_eq_self.2 fun s hs => ?_
        have := (List.mem_filter.1 hs).2
        simp only [decide_eq_true_eq]
        exact fun ek => ep (by rw [← ek]; simpa using this)
      rw [h2]; exact h1
def inPI (m : Nat) (p : Int) (s : SlotI) : Bool := decide (((nilK s.key % m : Nat) : Int) = p)
theorem DII.perm {ls : List (List (Key × SlotI))} {S : List SlotI} {came n : Int} (h : DII ls S came n) (p : Int) : ((partLI ls p).map (·.2)).Perm (S.filter (inPI ls.length p)) := by
  unfold partLI
  split
  · rename_i hp
    obtain ⟨q, rfl⟩ : ∃ q : Nat, p = (q : Int) := ⟨p.toNat, by omega⟩
    rw [Int.toNat_natCast, List.getD_eq_getElem?_getD]
    cases hq : ls[q]? with
    | none =>
      have hlen : ls.length ≤ q := List.getElem?_eq_none_iff.1 hq
      have : S.filter (inPI ls.length (q : Int)) = [] := by
        rw [List.filter_eq_nil_iff]
        intro s _
        have := Nat.mod_lt (nilK s.key) h.pos
        simp [inPI]; omega
      rw [this]; exact .refl _
    | some l =>
      have := h.part q l hq
      have e : S.filter (inPI ls.length (q : Int)) = S.filter (fun s => decide (nilK s.key % ls.length = q)) := List.filter_congr fun s _ => by
        unfold inPI; exact decide_eq_decide.2 ⟨fun h => by omega, fun h => by omega⟩
      rw [e]; exact this
  · have : S.filter (inPI ls.length p) = [] := by
      rw [List.filter_eq_nil_iff]
      intro s _
      simp [inPI]; omega
    rw [this]; exact .refl _
theorem sorted_eqI : ∀ {l1 l2 : List SlotI}, l1.Perm l2 → l1.Pairwise (fun a b => a.came < b.came) → l2.Pairwise (fun a b => a.came < b.came) → l1 = l2
  | [], l2, hp, _, _ => (List.nil_perm.1 hp).symm
  | a :: r, l2, hp, h1, h2 => by
    cases l2 with
    | nil => exact absurd hp.length_eq (by simp)
    | cons b q =>
      obtain ⟨a1, a2⟩ := List.pairwise_cons.1 h1
      obtain ⟨b1, b2⟩ := List.pairwise_cons.1 h2
      have hab : a = b := by
        rcases List.mem_cons.1 (hp.mem_iff.1 (List.mem_cons_self (a := a) (l := r))) with e | e
        · exact e
        · rcases List.mem_cons.1 (hp.mem_iff.2 (List.mem_cons_self (a := b) (l := q))) with e' | e'
          · exact e'.symm
          · have := b1 a e; have := a1 b e'; omega
      subst hab
      rw [sorted_eqI (List.Perm.cons_inv hp) a2 b2]
theorem DII.row {ls : List (List (Key × SlotI))} {S : List SlotI} {came n : Int} (h : DII ls S came n) {p : Int} {R : List SlotI} (hR : RowOfI (partLI ls p) R) : R = S.filter (inPI ls.length p) :=
  sorted_eqI (hR.1.trans (h.perm p)) hR.2 (h.ord.sublist List.filter_sublist)
theorem DII.cameOk {ls : List (List (Key × SlotI))} {S : List SlotI} {came n : Int} (h : DII ls S came n) (hc : came ≤ 4611686018427387903) : ∀ l ∈ ls, CameOkI l := fun l hl => by
  obtain ⟨p, hp⟩ := List.getElem?_of_mem hl
  have hq := h.part p l hp
  refine ⟨fun x hx => ?_, ?_⟩
  · have := (List.mem_filter.1 (hq.mem_iff.1 (List.mem_map.2 ⟨x, hx, rfl⟩))).1
    have := h.bnd _ this
    unfold okCI; omega
  · have h1 := (hq.map (fun s => s.came)).nodup_iff.2 ?_
    · rw [List.map_map] at h1; exact h1
    · have := h.ord.sublist (List.filter_sublist (p := fun s => decide (nilK s.key % ls.length = p)))
      rw [List.nodup_iff_pairwise_ne, List.pairwise_map]
      exact this.imp (fun {a b} hab => by omega)
theorem DII.lens {ls : List (List (Key × SlotI))} {S : List SlotI} {came n : Int} (h : DII ls S came n) : ∀ l ∈ ls, l.length ≤ S.length := fun l hl => by
  obtain ⟨p, hp⟩ := List.getElem?_of_mem hl
  have := (h.part p l hp).length_eq
  rw [List.length_map] at this
  rw [this]
  exact List.length_filter_le _ _
end Go.Proofs.Ytlpigppmbnaabaa.W
