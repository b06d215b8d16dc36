import Derived.Test.YtojcddlpkfhodaaGreatQ2
import Derived.Test.YtojcddlpkfhodaaGreatHT
import Derived.KernelRfl
namespace Go.Proofs.YtojcddlpkfhodaaGreat.W
open Go Go.Wk
set_option linter.unusedVariables false
set_option linter.unusedSimpArgs false

structure EntR where
  v : Int
  key : Key
  batch : Int
  index : Int
  fill : Bool
  cell : Cell
def encEnt (l : EntR) : List Value := [.int .i64 l.v, .int .i64 l.key.table, .int .i64 l.key.row, .int .i64 l.batch, .int .i64 l.index, .bool l.fill, .bool l.cell.is_, .int .i64 l.cell.value]
theorem encEnt_len (l : EntR) : (encEnt l).length = 8 := rfl
theorem encEnt_one (l : EntR) : ∀ u ∈ encEnt l, u.oneCell' = true := oneAll
structure RS where
  parts : Int
  cap : Int
  all : List EntR
  last : Int
def recE (l : EntR) : VerR := ⟨l.batch, l.index, l.key, l.fill, l.cell⟩
def verE (l : EntR) : Ver := ⟨l.batch, l.index, l.fill, l.cell⟩
def keyE (k : Key) (l : EntR) : Bool := decide (l.key = k)
def ltE (a b : EntR) : Prop := a.batch < b.batch ∨ (a.batch = b.batch ∧ a.index < b.index)
def laterV (a b : Ver) : Bool := decide (b.batch < a.batch) || (decide (a.batch = b.batch) && decide (b.index < a.index))
structure Rel (st : StS) (x : RS) : Prop where
  inv : StInv st
  parts : st.parts = x.parts
  pp : 1 ≤ x.parts ∧ x.parts ≤ 256
  room : st.room = x.cap
  cc : 1 ≤ x.cap ∧ x.cap ≤ 65536
  last : st.last = x.last
  live : st.live = x.all.length
  lroom : (x.all.length : Int) ≤ x.cap
  here : ∀ l ∈ x.all, st.ver l.v = some (recE l)
  only : ∀ v r, st.ver v = some r → ∃ l ∈ x.all, l.v = v
  nod : (x.all.map (·.v)).Nodup
  ch : ∀ k, st.ch k = (x.all.filter (keyE k)).map (·.v)
  bat : ∀ l ∈ x.all, 1 ≤ l.batch ∧ l.batch ≤ 1099511627776 ∧ 0 ≤ l.index ∧ l.index < 64
theorem Rel.srt {st : StS} {x : RS} (h : Rel st x) {i j : Nat} {a b : EntR} (hij : i < j) (ha : x.all[i]? = some a) (hb : x.all[j]? = some b) (e : a.key = b.key) : ltE a b := by
  have hs : [a, b].Sublist x.all := by
    rw [← List.take_append_drop j x.all]
    refine List.Sublist.append (l₁ := [a]) (r₁ := [b]) (List.singleton_sublist.2 ?_) (List.singleton_sublist.2 ?_)
    · exact List.mem_of_getElem? (i := i) (by rw [List.getElem?_take, if_pos hij]; exact ha)
    · exact List.mem_of_getElem? (i := 0) (by rw [List.getElem?_drop]; exact hb)
  have hf := (hs.filter (keyE a.key)).map (·.v)
  have hp := (h.inv.sorted a.key).sublist (by rw [h.ch]; exact hf)
  have e1 : [a, b].filter (keyE a.key) = [a, b] := by simp [keyE, e]
  rw [e1] at hp
  simp only [List.map_cons, List.map_nil, List.pairwise_cons, List.mem_singleton, forall_eq] at hp
  have := hp.1.2 (recE a) (recE b) (h.here a (List.mem_of_getElem? ha)) (h.here b (List.mem_of_getElem? hb))
  exact this
/-- b: the last place of which p says yes, of the first i; -1: none -/
def IsLast (p : EntR → Bool) (l : List EntR) (i : Nat) (b : Int) : Prop := (b = -1 ∧ ∀ j y, j < i → l[j]? = some y → p y = false) ∨ (∃ (q : Nat) (y : EntR), b = ((q : Nat) : Int) ∧ q < i ∧ l[q]? = some y ∧ p y = true ∧ ∀ j z, q < j → j < i → l[j]? = some z → p z = false)
theorem IsLast.zero (p : EntR → Bool) (l : List EntR) : IsLast p l 0 (-1) := .inl ⟨rfl, fun j y h => by omega⟩
theorem IsLast.hit {p : EntR → Bool} {l : List EntR} {i : Nat} {y : EntR} (hy : l[i]? = some y) (hp : p y = true) : IsLast p l (i + 1) ((i : Nat) : Int) := .inr ⟨i, y, rfl, by omega, hy, hp, fun j z h1 h2 => by omega⟩
theorem IsLast.miss {p : EntR → Bool} {l : List EntR} {i : Nat} {b : Int} {y : EntR} (h : IsLast p l i b) (hy : l[i]? = some y) (hp : p y = false) : IsLast p l (i + 1) b := by
  rcases h with ⟨h1, h2⟩ | ⟨q, z, h1, h2, h3, h4, h5⟩
  · refine .inl ⟨h1, fun j w hj hw => ?_⟩
    rcases Nat.lt_or_eq_of_le (Nat.le_of_lt_succ hj) with h | h
    · exact h2 j w h hw
    · subst h; rw [hy] at hw; cases hw; exact hp
  · refine .inr ⟨q, z, h1, by omega, h3, h4, fun j w hj hj2 hw => ?_⟩
    rcases Nat.lt_or_eq_of_le (Nat.le_of_lt_succ hj2) with h | h
    · exact h5 j w hj h hw
    · subst h; rw [hy] at hw; cases hw; exact hp
theorem IsLast.some {p : EntR → Bool} {l : List EntR} {i : Nat} {b : Int} (h : IsLast p l i b) (h0 : ¬ b < 0) : ∃ (q : Nat) (y : EntR), b = ((q : Nat) : Int) ∧ q < i ∧ l[q]? = Option.some y ∧ p y = true ∧ ∀ j z, q < j → j < i → l[j]? = Option.some z → p z = false := by
  rcases h with ⟨h1, h2⟩ | h
  · omega
  · exact h
theorem IsLast.none {p : EntR → Bool} {l : List EntR} {i : Nat} {b : Int} (h : IsLast p l i b) (h0 : b < 0) : b = -1 ∧ ∀ j y, j < i → l[j]? = Option.some y → p y = false := by
  rcases h with h | ⟨q, y, h1, _⟩
  · exact h
  · omega
theorem IsLast.uniq {p : EntR → Bool} {l : List EntR} {i : Nat} {b c : Int} (h : IsLast p l i b) (k : IsLast p l i c) : b = c := by
  rcases h with ⟨h1, h2⟩ | ⟨q, y, h1, h2, h3, h4, h5⟩ <;> rcases k with ⟨k1, k2⟩ | ⟨r, z, k1, k2, k3, k4, k5⟩
  · omega
  · have := h2 r z k2 k3; rw [k4] at this; cases this
  · have := k2 q y h2 h3; rw [h4] at this; cases this
  · rcases Nat.lt_trichotomy q r with h | h | h
    · have := h5 r z h k2 k3; rw [k4] at this; cases this
    · omega
    · have := k5 q y h h2 h3; rw [h4] at this; cases this
theorem IsLast.congr {p p' : EntR → Bool} {l : List EntR} {i : Nat} {b : Int} (h : IsLast p l i b) (he : ∀ y ∈ l, p y = p' y) : IsLast p' l i b := by
  rcases h with ⟨h1, h2⟩ | ⟨q, y, h1, h2, h3, h4, h5⟩
  · exact .inl ⟨h1, fun j y hj hy => by rw [← he y (List.mem_of_getElem? hy)]; exact h2 j y hj hy⟩
  · exact .inr ⟨q, y, h1, h2, h3, by rw [← he y (List.mem_of_getElem? h3)]; exact h4, fun j z a1 a2 a3 => by rw [← he z (List.mem_of_getElem? a3)]; exact h5 j z a1 a2 a3⟩
theorem IsLast.cut {p p' : EntR → Bool} {l : List EntR} {q : Nat} {b : Int} (h : IsLast p l l.length b) (hq : q ≤ l.length) (he : ∀ j y, l[j]? = Option.some y → (p y = true ↔ p' y = true ∧ j < q)) : IsLast p' l q b := by
  rcases h with ⟨h1, h2⟩ | ⟨r, y, h1, h2, h3, h4, h5⟩
  · refine .inl ⟨h1, fun j y hj hy => ?_⟩
    have := h2 j y (by omega) hy
    cases hp : p' y with
    | false => rfl
    | true => rw [(he j y hy).2 ⟨hp, hj⟩] at this; cases this
  · have := (he r y h3).1 h4
    refine .inr ⟨r, y, h1, this.2, h3, this.1, fun j z a1 a2 a3 => ?_⟩
    have h6 := h5 j z a1 (by omega) a3
    cases hp : p' z with
    | false => rfl
    | true => rw [(he j z a3).2 ⟨hp, a2⟩] at h6; cases h6
def lastI (p : EntR → Bool) : List EntR → Nat → Int → Int
  | [], _, b => b
  | x :: l, i, b => lastI p l (i + 1) (if p x then ((i : Nat) : Int) else b)
theorem lastI_go (p : EntR → Bool) (l : List EntR) : ∀ (m i : Nat) (b : Int), i + m = l.length → IsLast p l i b → IsLast p l l.length (lastI p (l.drop i) i b)
  | 0, i, b, h, hb => by
    rw [drop_all (by omega)]
    have : i = l.length := by omega
    subst this; exact hb
  | m + 1, i, b, h, hb => by
    obtain ⟨y, hy⟩ : ∃ y, l[i]? = some y := ⟨_, List.getElem?_eq_getElem (by omega)⟩
    rw [drop_at hy]
    unfold lastI
    refine lastI_go p l m (i + 1) _ (by omega) ?_
    cases hp : p y with
    | true => rw [if_pos rfl]; exact .hit hy hp
    | false => rw [if_neg (by simp)]; exact hb.miss hy hp
def topI (p : EntR → Bool) (l : List EntR) : Int := lastI p l 0 (-1)
theorem topI_is (p : EntR → Bool) (l : List EntR) : IsLast p l l.length (topI p l) := lastI_go p l l.length 0 (-1) (by omega) (.zero p l)
theorem IsLast.top {p : EntR → Bool} {l : List EntR} {b : Int} (h : IsLast p l l.length b) : b = topI p l := h.uniq (topI_is p l)
def numE (l : List EntR) (b : Int) : Int := if b < 0 then 0 else ((l[b.toNat]?).map (·.v)).getD 0
def lastF (l : List Int) : Int := l.getLast?.getD 0
theorem num_last {p : EntR → Bool} {l : List EntR} {i : Nat} {b : Int} (h : IsLast p l i b) (hi : i ≤ l.length) : numE l b = lastF (((l.take i).filter p).map (·.v)) := by
  rcases h with ⟨h1, h2⟩ | ⟨q, y, h1, h2, h3, h4, h5⟩
  · have : (l.take i).filter p = [] := by
      rw [List.filter_eq_nil_iff]
      intro y hy
      obtain ⟨j, hj⟩ := List.getElem?_of_mem hy
      rw [List.getElem?_take] at hj
      split at hj
      · rw [h2 j y (by assumption) hj]; simp
      · cases hj
    rw [this]; unfold numE; rw [if_pos (by omega)]; rfl
  · subst h1
    have e : l.take i = l.take q ++ (y :: (l.take i).drop (q + 1)) := by
      have h6 : (l.take i)[q]? = some y := by rw [List.getElem?_take, if_pos h2]; exact h3
      rw [← drop_at h6]
      have := (List.take_append_drop q (l.take i)).symm
      rw [List.take_take, Nat.min_eq_left (by omega)] at this
      exact this
    have h7 : ((l.take i).drop (q + 1)).filter p = [] := by
      rw [List.filter_eq_nil_iff]
      intro z hz
      obtain ⟨j, hj⟩ := List.getElem?_of_mem hz
      rw [List.getElem?_drop, List.getElem?_take] at hj
      split at hj
      · rw [h5 (q + 1 + j) z (by omega) (by assumption) hj]; simp
      · cases hj
    rw [e, List.filter_append, List.filter_cons, if_pos h4, h7]
    unfold numE lastF
    rw [if_neg (by omega), Int.toNat_natCast, h3]
    simp

theorem last_filter {l : List Int} {p : Int → Bool} : (l.reverse.find? p) = (l.filter p).getLast? := by
  rw [← List.head?_filter, List.filter_reverse, List.head?_reverse]
def latE (k : Key) (b : Int) (l : EntR) : Bool := decide (l.key = k) && decide (l.batch ≤ b)
theorem Rel.vis {st : StS} {x : RS} (h : Rel st x) (k : Key) (b : Int) : visF st k b = lastF ((x.all.filter (latE k b)).map (·.v)) := by
  unfold visF lastF
  rw [last_filter, h.ch k, List.filter_map, List.filter_filter]
  have : x.all.filter (fun l => (visP st b ∘ fun x => x.v) l && keyE k l) = x.all.filter (latE k b) := List.filter_congr fun l hl => by
    show (visP st b l.v && keyE k l) = latE k b l
    unfold visP
    rw [h.here l hl, Bool.and_comm]; rfl
  rw [this]
def blwE (k : Key) (lim : Ver) (l : EntR) : Bool := decide (l.key = k) && laterV lim (verE l)
def topV : Ver := ⟨9223372036854775807, 9223372036854775807, false, ⟨false, 0⟩⟩
theorem Rel.top {st : StS} {x : RS} (h : Rel st x) (k : Key) : ∀ y ∈ x.all, blwE k topV y = keyE k y := fun y hy => by
  have := h.bat y hy
  unfold blwE keyE laterV topV verE
  simp; intro _; omega
theorem Rel.newest {st : StS} {x : RS} (h : Rel st x) (k : Key) : numE x.all (topI (blwE k topV) x.all) = visF st k 1099511627776 := by
  rw [num_last (topI_is _ _) (Nat.le_refl _), List.take_length, h.vis]
  rw [List.filter_congr (h.top k), List.filter_congr (q := keyE k) (p := latE k 1099511627776) (fun y hy => by have := h.bat y hy; unfold latE keyE; simp; intro _; omega)]
theorem Rel.visible {st : StS} {x : RS} (h : Rel st x) (k : Key) (b : Int) : numE x.all (topI (latE k b) x.all) = visF st k b := by
  rw [num_last (topI_is _ _) (Nat.le_refl _), List.take_length, h.vis]
theorem later_lt {a b : EntR} : laterV (verE a) (verE b) = true ↔ ltE b a := by
  unfold laterV verE ltE; simp; omega
theorem Rel.below {st : StS} {x : RS} (h : Rel st x) {q : Nat} {y : EntR} (hy : x.all[q]? = some y) (j : Nat) (z : EntR) (hz : x.all[j]? = some z) : blwE y.key (verE y) z = true ↔ keyE y.key z = true ∧ j < q := by
  unfold blwE keyE
  rw [Bool.and_eq_true, later_lt]
  simp only [decide_eq_true_eq]
  constructor
  · rintro ⟨h1, h2⟩
    refine ⟨h1, ?_⟩
    rcases Nat.lt_trichotomy j q with h3 | h3 | h3
    · exact h3
    · subst h3; rw [hy] at hz; cases hz; unfold ltE at h2; omega
    · have := h.srt h3 hy hz h1.symm; unfold ltE at *; omega
  · rintro ⟨h1, h2⟩
    exact ⟨h1, h.srt h2 hz hy h1⟩
theorem prev_split : ∀ (r : List Int) {x : Int} (d : List Int) (p : Int), x ∉ r → prevF (r ++ x :: d) x p = r.getLast?.getD p
  | [], x, d, p, _ => by simp [prevF]
  | y :: r, x, d, p, h => by
    rw [List.mem_cons, not_or] at h
    rw [List.cons_append]
    unfold prevF
    rw [if_neg (fun e => h.1 e.symm), prev_split r d y h.2, List.getLast?_cons]
    rfl
theorem split_at {l : List EntR} {q : Nat} {y : EntR} (hy : l[q]? = some y) : l = l.take q ++ y :: l.drop (q + 1) := by
  rw [← drop_at hy, List.take_append_drop]
theorem Rel.notin {st : StS} {x : RS} (h : Rel st x) {q : Nat} {y : EntR} (hy : x.all[q]? = some y) {j : Nat} {z : EntR} (hz : x.all[j]? = some z) (e : z.v = y.v) : j = q :=
  nodup_inj h.nod (i := j) (j := q) (x := y.v) (by rw [List.getElem?_map, hz, ← e]; rfl) (by rw [List.getElem?_map, hy]; rfl)
theorem Rel.before {st : StS} {x : RS} (h : Rel st x) {q : Nat} {y : EntR} (hy : x.all[q]? = some y) : numE x.all (topI (blwE y.key (verE y)) x.all) = befF st y.v := by
  have hq := (List.getElem?_eq_some_iff.1 hy).1
  rw [num_last ((topI_is _ _).cut (Nat.le_of_lt hq) (h.below hy)) (Nat.le_of_lt hq)]
  unfold befF
  rw [h.here y (List.mem_of_getElem? hy)]
  show _ = prevF (st.ch y.key) y.v 0
  have e : x.all.filter (keyE y.key) = (x.all.take q).filter (keyE y.key) ++ y :: (x.all.drop (q + 1)).filter (keyE y.key) := by
    conv => lhs; rw [split_at hy]
    rw [List.filter_append, List.filter_cons, if_pos (by simp [keyE])]
  rw [h.ch, e, List.map_append, List.map_cons, prev_split]
  · rfl
  · intro hm
    obtain ⟨z, hz, e2⟩ := List.mem_map.1 hm
    obtain ⟨j, hj⟩ := List.getElem?_of_mem (List.mem_filter.1 hz).1
    rw [List.getElem?_take] at hj
    split at hj
    · have := h.notin hy hj e2; omega
    · cases hj
theorem Rel.at {st : StS} {x : RS} (h : Rel st x) {q : Nat} {y : EntR} (hy : x.all[q]? = some y) : verF st y.v = recE y ∧ refE st y.v = 0 ∧ st.ver y.v = some (recE y) := by
  have := h.here y (List.mem_of_getElem? hy)
  exact ⟨by unfold verF; rw [this]; rfl, by unfold refE; rw [this]; rfl, this⟩
def numP (v : Int) (l : EntR) : Bool := decide (l.v = v)
theorem Rel.no {st : StS} {x : RS} (h : Rel st x) {v : Int} {b : Int} (hb : IsLast (numP v) x.all x.all.length b) (h0 : b < 0) : st.ver v = none := by
  have := (hb.none h0).2
  cases hv : st.ver v with
  | none => rfl
  | some r =>
    obtain ⟨l, hl, e⟩ := h.only v r hv
    obtain ⟨j, hj⟩ := List.getElem?_of_mem hl
    have := this j l (List.getElem?_eq_some_iff.1 hj).1 hj
    unfold numP at this; simp at this; exact absurd e this
def restE (x : RS) (k : Key) (q : Nat) : List Ver := ((x.all.take q).filter (keyE k)).reverse.map verE
theorem rest_all {st : StS} {x : RS} (h : Rel st x) (k : Key) : restE x k x.all.length = chnF st k := by
  unfold restE chnF
  rw [List.take_length, h.ch k, ← List.map_reverse, List.map_map]
  refine List.map_congr_left fun y hy => ?_
  have := h.here y (List.mem_filter.1 (List.mem_reverse.1 hy)).1
  show verE y = verT (verF st y.v)
  unfold verF; rw [this]; rfl
theorem rest_none {x : RS} {k : Key} {q : Nat} {b : Int} (h : IsLast (keyE k) x.all q b) (h0 : b < 0) : restE x k q = [] := by
  have := (h.none h0).2
  unfold restE
  have e : (x.all.take q).filter (keyE k) = [] := by
    rw [List.filter_eq_nil_iff]
    intro y hy
    obtain ⟨j, hj⟩ := List.getElem?_of_mem hy
    rw [List.getElem?_take] at hj
    split at hj
    · rw [this j y (by assumption) hj]; simp
    · cases hj
  rw [e]; rfl
theorem rest_some {x : RS} {k : Key} {q p : Nat} {y : EntR} (hpq : p < q) (hy : x.all[p]? = some y) (hk : keyE k y = true) (hno : ∀ j z, p < j → j < q → x.all[j]? = some z → keyE k z = false) : restE x k q = verE y :: restE x k p := by
  unfold restE
  have h6 : (x.all.take q)[p]? = some y := by rw [List.getElem?_take, if_pos hpq]; exact hy
  have e := split_at h6
  rw [List.take_take, Nat.min_eq_left (by omega)] at e
  have h7 : ((x.all.take q).drop (p + 1)).filter (keyE k) = [] := by
    rw [List.filter_eq_nil_iff]
    intro z hz
    obtain ⟨j, hj⟩ := List.getElem?_of_mem hz
    rw [List.getElem?_drop, List.getElem?_take] at hj
    split at hj
    · rw [hno (p + 1 + j) z (by omega) (by assumption) hj]; simp
    · cases hj
  conv => lhs; rw [e]
  rw [List.filter_append, List.filter_cons, if_pos hk, h7]
  simp
/-! what turns -/
def newE (x : RS) (k : Key) (b i : Int) : EntR := ⟨x.last + 1, k, b, i, false, ⟨false, 0⟩⟩
def insX (x : RS) (k : Key) (b i : Int) : RS := { x with all := x.all ++ [newE x k b i], last := x.last + 1 }
theorem ins_good {st : StS} {k : Key} {b i : Int} (h : insErr st k b i = 0) : okK k = true ∧ (1 ≤ b ∧ b ≤ 1099511627776) ∧ (0 ≤ i ∧ i < 64) ∧ (st.live : Int) < st.room ∧ staleB st k b i = false := by
  unfold insErr at h
  split at h
  · cases h
  · split at h
    · cases h
    · split at h
      · cases h
      · split at h
        · cases h
        · split at h
          · cases h
          · rename_i h1 h2 h3 h4 h5
            exact ⟨by simpa using h1, by omega, by omega, by omega, by simpa using h5⟩
theorem Rel.ins {st : StS} {x : RS} (h : Rel st x) {k : Key} {b i : Int} (he : insErr st k b i = 0) : Rel (insS st k b i) (insX x k b i) := by
  obtain ⟨g1, g2, g3, g4, g5⟩ := ins_good he
  unfold insS
  rw [if_pos he]
  have old : ∀ l ∈ x.all, l.v ≠ st.last + 1 := fun l hl e => by
    have := (h.inv.verb _ _ (h.here l hl)).2.1; omega
  have hl := h.last
  refine ⟨ins_inv h.inv g1 g5, h.parts, h.pp, h.room, h.cc, ?_, ?_, ?_, ?_, ?_, ?_, ?_, ?_⟩
  · show st.last + 1 = x.last + 1; omega
  · show st.live + 1 = (x.all ++ [_]).length; have := h.live; simp; omega
  · show ((x.all ++ [_]).length : Int) ≤ x.cap; have := h.live; have := h.room; simp; omega
  · intro l hm
    show (if l.v = st.last + 1 then _ else st.ver l.v) = _
    rcases List.mem_append.1 hm with hm | hm
    · rw [if_neg (old l hm)]; exact h.here l hm
    · rw [List.mem_singleton] at hm; subst hm
      rw [if_pos (by show x.last + 1 = st.last + 1; omega)]; rfl
  · intro v r hv
    have hv' : (if v = st.last + 1 then some (⟨b, i, k, false, ⟨false, 0⟩⟩ : VerR) else st.ver v) = some r := hv
    split at hv'
    · rename_i e; exact ⟨newE x k b i, List.mem_append_right _ (by simp), (by show x.last + 1 = v; rw [e, h.last])⟩
    · obtain ⟨l, h1, h2⟩ := h.only v r hv'
      exact ⟨l, List.mem_append_left _ h1, h2⟩
  · show ((x.all ++ [newE x k b i]).map (·.v)).Nodup
    rw [List.map_append, List.nodup_append]
    refine ⟨h.nod, by simp, fun a ha b hb e => ?_⟩
    simp only [List.map_cons, List.map_nil, List.mem_singleton] at hb
    obtain ⟨l, hl2, rfl⟩ := List.mem_map.1 ha
    exact old l hl2 (by rw [e, hb]; show x.last + 1 = _; omega)
  · intro k'
    show (if k' = k then st.ch k ++ [st.last + 1] else st.ch k') = ((x.all ++ [newE x k b i]).filter (keyE k')).map (·.v)
    rw [List.filter_append, List.map_append, ← h.ch k']
    by_cases e : k' = k
    · subst e
      rw [if_pos rfl]
      simp [keyE, newE, hl]
    · rw [if_neg e]
      simp [keyE, newE, Ne.symm e]
  · intro l hm
    rcases List.mem_append.1 hm with hm | hm
    · exact h.bat l hm
    · rw [List.mem_singleton] at hm; subst hm
      exact ⟨g2.1, g2.2, g3.1, g3.2⟩
def filY (y : EntR) (c : Cell) : EntR := { y with fill := true, cell := if c.is_ then c else y.cell }
def filX (x : RS) (q : Nat) (y : EntR) (c : Cell) : RS := { x with all := x.all.set q (filY y c) }
theorem Rel.fil {st : StS} {x : RS} (h : Rel st x) {q : Nat} {y : EntR} (hy : x.all[q]? = some y) (hf : y.fill = false) (c : Cell) : Rel (filS st y.v c) (filX x q y c) := by
  have hv := (h.at hy).2.2
  have hq := (List.getElem?_eq_some_iff.1 hy).1
  have hmv : (x.all.set q (filY y c)).map (·.v) = x.all.map (·.v) := by
    rw [List.map_set]
    have : (x.all.map (·.v))[q]? = some y.v := by rw [List.getElem?_map, hy]; rfl
    obtain ⟨h1, h2⟩ := List.getElem?_eq_some_iff.1 this
    show (x.all.map (·.v)).set q y.v = _
    rw [← h2, List.set_getElem_self]
  have e1 : filS st y.v c = fillSt st y.v (recE y) c := by unfold filS; rw [hv]; simp [recE, hf]
  rw [e1]
  have mem : ∀ l ∈ x.all.set q (filY y c), l = filY y c ∨ (l ∈ x.all ∧ l.v ≠ y.v) := fun l hl => by
    obtain ⟨j, hj⟩ := List.getElem?_of_mem hl
    rw [List.getElem?_set] at hj
    by_cases hne : q = j
    · rw [if_pos hne, if_pos hq] at hj
      cases hj; exact .inl rfl
    · rw [if_neg hne] at hj
      exact .inr ⟨List.mem_of_getElem? hj, fun e => hne (h.notin hy hj e).symm⟩
  refine ⟨fill_inv h.inv hv c, h.parts, h.pp, h.room, h.cc, h.last, ?_, ?_, ?_, ?_, ?_, ?_, ?_⟩
  · show st.live = (x.all.set q _).length; rw [List.length_set]; exact h.live
  · show ((x.all.set q _).length : Int) ≤ _; rw [List.length_set]; exact h.lroom
  · intro l hl
    show (if l.v = y.v then some (fillR (recE y) c) else st.ver l.v) = _
    rcases mem l hl with rfl | ⟨h1, h2⟩
    · rw [if_pos (show (filY y c).v = y.v from rfl)]; rfl
    · rw [if_neg h2]; exact h.here l h1
  · intro v r hv2
    have hv' : (if v = y.v then some (fillR (recE y) c) else st.ver v) = some r := hv2
    have key : v ∈ x.all.map (·.v) := by
      split at hv'
      · rename_i e; rw [e]; exact List.mem_map.2 ⟨y, List.mem_of_getElem? hy, rfl⟩
      · obtain ⟨l, h1, h2⟩ := h.only v r hv'; exact List.mem_map.2 ⟨l, h1, h2⟩
    rw [← hmv] at key
    obtain ⟨l, h1, h2⟩ := List.mem_map.1 key
    exact ⟨l, h1, h2⟩
  · show ((x.all.set q _).map (·.v)).Nodup; rw [hmv]; exact h.nod
  · intro k
    show st.ch k = ((x.all.set q (filY y c)).filter (keyE k)).map (·.v)
    rw [h.ch k]
    have e : x.all.set q (filY y c) = x.all.take q ++ filY y c :: x.all.drop (q + 1) := by rw [List.set_eq_take_append_cons_drop, if_pos hq]
    conv => lhs; rw [split_at hy]
    rw [e, List.filter_append, List.filter_append, List.filter_cons, List.filter_cons, List.map_append, List.map_append]
    have : keyE k (filY y c) = keyE k y := rfl
    rw [this]
    cases keyE k y <;> simp [filY]
  · intro l hl
    rcases mem l hl with rfl | ⟨h1, _⟩
    · exact h.bat y (List.mem_of_getElem? hy)
    · exact h.bat l h1
def remX (x : RS) (q : Nat) : RS := { x with all := x.all.take q ++ x.all.drop (q + 1) }
theorem Rel.rem {st : StS} {x : RS} (h : Rel st x) {q : Nat} {y : EntR} (hy : x.all[q]? = some y) : Rel (remS st y.v) (remX x q) := by
  have hv := (h.at hy).2.2
  have hq := (List.getElem?_eq_some_iff.1 hy).1
  have e1 : remS st y.v = remSt st y.v (recE y) := by unfold remS; rw [hv]
  rw [e1]
  have hsub : (x.all.take q ++ x.all.drop (q + 1)).Sublist x.all := by
    conv => rhs; rw [split_at hy]
    exact List.Sublist.append (List.Sublist.refl _) (List.sublist_cons_self _ _)
  have mem : ∀ l ∈ x.all.take q ++ x.all.drop (q + 1), l ∈ x.all ∧ l.v ≠ y.v := fun l hl => by
    refine ⟨hsub.subset hl, fun e => ?_⟩
    rcases List.mem_append.1 hl with hl | hl
    · obtain ⟨j, hj⟩ := List.getElem?_of_mem hl
      rw [List.getElem?_take] at hj
      split at hj
      · have := h.notin hy hj e; omega
      · cases hj
    · obtain ⟨j, hj⟩ := List.getElem?_of_mem hl
      rw [List.getElem?_drop] at hj
      have := h.notin hy hj e; omega
  have hlen : (x.all.take q ++ x.all.drop (q + 1)).length = x.all.length - 1 := by simp; omega
  refine ⟨rem_inv h.inv hv, h.parts, h.pp, h.room, h.cc, h.last, ?_, ?_, ?_, ?_, ?_, ?_, ?_⟩
  · show st.live - 1 = (x.all.take q ++ _).length; rw [hlen, h.live]
  · show ((x.all.take q ++ _).length : Int) ≤ _; rw [hlen]; have := h.lroom; show _ ≤ x.cap; omega
  · intro l hl
    show (if l.v = y.v then none else st.ver l.v) = _
    rw [if_neg (mem l hl).2]; exact h.here l (mem l hl).1
  · intro v r hv2
    have hv' : (if v = y.v then none else st.ver v) = some r := hv2
    split at hv'
    · cases hv'
    · rename_i hne
      obtain ⟨l, h1, h2⟩ := h.only v r hv'
      refine ⟨l, ?_, h2⟩
      rw [split_at hy] at h1
      rcases List.mem_append.1 h1 with h3 | h3
      · exact List.mem_append_left _ h3
      · rcases List.mem_cons.1 h3 with h3 | h3
        · subst h3; exact absurd h2.symm hne
        · exact List.mem_append_right _ h3
  · exact h.nod.sublist (hsub.map _)
  · intro k
    show (if k = y.key then (st.ch k).filter (fun z => decide (z ≠ y.v)) else st.ch k) = ((x.all.take q ++ x.all.drop (q + 1)).filter (keyE k)).map (·.v)
    have hA : ∀ r : List EntR, (∀ l ∈ r, l.v ≠ y.v) → ((r.filter (keyE k)).map (·.v)).filter (fun z => decide (z ≠ y.v)) = (r.filter (keyE k)).map (·.v) := fun r hr => List.filter_eq_self.2 fun z hz => by
      obtain ⟨l, hl, rfl⟩ := List.mem_map.1 hz
      simpa using hr l (List.mem_filter.1 hl).1
    have hc : st.ch k = ((x.all.take q).filter (keyE k)).map (·.v) ++ ((if keyE k y then [y.v] else []) ++ ((x.all.drop (q + 1)).filter (keyE k)).map (·.v)) := by
      rw [h.ch k]
      conv => lhs; rw [split_at hy]
      rw [List.filter_append, List.filter_cons, List.map_append]
      cases keyE k y <;> simp
    rw [hc, List.filter_append (p := keyE k), List.map_append]
    split
    · rename_i e
      subst e
      have : keyE y.key y = true := by simp [keyE]
      rw [this, List.filter_append, List.filter_append, hA _ (fun l hl => (mem l (List.mem_append_left _ hl)).2), hA _ (fun l hl => (mem l (List.mem_append_right _ hl)).2)]
      simp
    · rename_i e
      have : keyE k y = false := by simp [keyE, Ne.symm e]
      rw [this]; simp
  · intro l hl
    exact h.bat l (mem l hl).1
theorem Rel.stale {st : StS} {x : RS} (h : Rel st x) {k : Key} {b i : Int} : staleB st k b i = (if topI (blwE k topV) x.all < 0 then false else !(laterV ⟨b, i, false, ⟨false, 0⟩⟩ (verE (x.all.getD (topI (blwE k topV) x.all).toNat ⟨0, ⟨0, 0⟩, 0, 0, false, ⟨false, 0⟩⟩)))) := by
  have hb := (topI_is (blwE k topV) x.all).congr (h.top k)
  generalize topI (blwE k topV) x.all = B at hb
  unfold staleB
  rw [h.ch k]
  by_cases h0 : B < 0
  · rw [if_pos h0]
    have := (hb.none h0).2
    have e : x.all.filter (keyE k) = [] := by
      rw [List.filter_eq_nil_iff]
      intro y hy
      obtain ⟨j, hj⟩ := List.getElem?_of_mem hy
      rw [this j y (List.getElem?_eq_some_iff.1 hj).1 hj]; simp
    rw [e]; rfl
  · rw [if_neg h0]
    obtain ⟨q, y, rfl, h2, h3, h4, h5⟩ := hb.some h0
    have e : x.all.filter (keyE k) = (x.all.take q).filter (keyE k) ++ [y] := by
      conv => lhs; rw [split_at h3]
      rw [List.filter_append, List.filter_cons, if_pos h4]
      have : (x.all.drop (q + 1)).filter (keyE k) = [] := by
        rw [List.filter_eq_nil_iff]
        intro z hz
        obtain ⟨j, hj⟩ := List.getElem?_of_mem hz
        rw [List.getElem?_drop] at hj
        rw [h5 _ z (by omega) (List.getElem?_eq_some_iff.1 hj).1 hj]; simp
      rw [this]
    rw [e, List.map_append]
    simp only [List.map_cons, List.map_nil, List.getLast?_append, List.getLast?_singleton, Option.some_or, Option.bind_some, h.here y (List.mem_of_getElem? h3), Int.toNat_natCast, List.getD_eq_getElem?_getD, h3, Option.getD_some]
    unfold laterV verE recE
    by_cases c1 : b < y.batch
    · have c2 : ¬ y.batch < b := by omega
      have c3 : ¬ b = y.batch := by omega
      simp [c1, c2, c3]
    · by_cases c2 : b = y.batch
      · subst c2
        simp only [Int.lt_irrefl, decide_false, Bool.false_or, decide_true, Bool.true_and]
        by_cases c3 : i ≤ y.index
        · simp [c3, Int.not_lt.2 c3]
        · simp [c3, Int.not_le.1 c3]
      · have c3 : y.batch < b := by omega
        simp [c1, c2, c3]
theorem rel0 {m c : Int} (hm : 1 ≤ m ∧ m ≤ 256) (hc : 1 ≤ c ∧ c ≤ 65536) : Rel (st0 m c) ⟨m, c, [], 0⟩ := ⟨⟨(by simp [st0]), fun v r h => (by simp [st0] at h), fun k v h => (by simp [st0] at h), fun k => (by simp [st0])⟩, rfl, hm, rfl, hc, rfl, rfl, (by simp; omega), fun l hl => (by cases hl), fun v r h => (by simp [st0] at h), .nil, fun k => rfl, fun l hl => (by cases hl)⟩
end Go.Proofs.YtojcddlpkfhodaaGreat.W
