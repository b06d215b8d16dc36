import Derived.Test.YtojcddlpkfhodaaGreatD1
import Derived.Test.YtojcddlpkfhodaaGreatL1
import Derived.KernelRfl
namespace Go.Proofs.YtojcddlpkfhodaaGreat.W
open Go Go.Wk
set_option linter.unusedVariables false
set_option linter.unusedSimpArgs false

/-- the numbers by which a partition's slots came: unlike, and at most c -/
def CBC (ls : List (List (Key × SlotC))) (c : Int) : Prop := 0 ≤ c ∧ ∀ l ∈ ls, (∀ p ∈ l, 0 ≤ p.2.came ∧ p.2.came ≤ c) ∧ (l.map (fun p => p.2.came)).Nodup ∧ (l.length : Int) ≤ c
/-- each key stands in its own partition -/
def PTC (ls : List (List (Key × SlotC))) : Prop := ∀ i l, ls[i]? = some l → ∀ p ∈ l, hashF p.1 % ls.length = i
theorem PTC.new (m : Nat) : PTC (List.replicate m []) := fun i l hl p hp => by
  rw [List.getElem?_replicate] at hl
  split at hl
  · cases hl; cases hp
  · cases hl
theorem PTC.set {ls : List (List (Key × SlotC))} (h : PTC ls) {i : Nat} {l' : List (Key × SlotC)} (hl : ∀ p ∈ l', hashF p.1 % ls.length = i) : PTC (ls.set i l') := fun j l hj p hp => by
  rw [List.length_set]
  rw [List.getElem?_set] at hj
  split at hj
  · rename_i e
    split at hj
    · cases hj; subst e; exact hl p hp
    · cases hj
  · exact h j l hj p hp
theorem PTC.put {ls : List (List (Key × SlotC))} (h : PTC ls) (hdl : 0 < ls.length) (k : Key) (s : SlotC) : PTC (dputC ls k s) := by
  have hi := Nat.mod_lt (hashF k) hdl
  obtain ⟨l, hl⟩ : ∃ l, ls[hashF k % ls.length]? = some l := ⟨_, List.getElem?_eq_getElem hi⟩
  unfold dputC
  rw [List.getD_eq_getElem?_getD, hl, Option.getD_some]
  refine h.set fun p hp => ?_
  have hm : p.1 ∈ (putL l k s).map (·.1) := List.mem_map.2 ⟨p, hp, rfl⟩
  rw [putL_keys] at hm
  have ho : ∀ q ∈ l.map (·.1), hashF q % ls.length = hashF k % ls.length := fun q hq => by
    obtain ⟨z, hz, rfl⟩ := List.mem_map.1 hq
    exact h _ l hl z hz
  split at hm
  · exact ho _ hm
  · rcases List.mem_append.1 hm with hm | hm
    · exact ho _ hm
    · rw [List.mem_singleton] at hm; rw [hm]
theorem PTC.del {ls : List (List (Key × SlotC))} (h : PTC ls) (k : Key) : PTC (ddelC ls k) := by
  unfold ddelC
  cases hl : ls[hashF k % ls.length]? with
  | none => rw [List.getD_eq_getElem?_getD, hl]; exact h.set fun p hp => by cases hp
  | some l =>
    rw [List.getD_eq_getElem?_getD, hl, Option.getD_some]
    exact h.set fun p hp => h _ l hl p ((delL_sub l k).subset hp)
theorem CBC.new (m : Nat) : CBC (List.replicate m []) 0 := ⟨Int.le_refl _, fun l hl => by rw [(List.mem_replicate.1 hl).2]; simp⟩
theorem CBC.mono {ls : List (List (Key × SlotC))} {c d : Int} (h : CBC ls c) (hd : c ≤ d) : CBC ls d := ⟨by have := h.1; omega, fun l hl => ⟨fun p hp => by have := (h.2 l hl).1 p hp; omega, (h.2 l hl).2.1, by have := (h.2 l hl).2.2; omega⟩⟩
theorem CBC.set {ls : List (List (Key × SlotC))} {c : Int} (h : CBC ls c) {i : Nat} {l' : List (Key × SlotC)} (hl : (∀ p ∈ l', 0 ≤ p.2.came ∧ p.2.came ≤ c) ∧ (l'.map (fun p => p.2.came)).Nodup ∧ (l'.length : Int) ≤ c) : CBC (ls.set i l') c := ⟨h.1, fun l hm => by
  rcases List.mem_or_eq_of_mem_set hm with h1 | h1
  · exact h.2 l h1
  · subst h1; exact hl⟩
theorem CBC.putN {ls : List (List (Key × SlotC))} {c : Int} (h : CBC ls c) (hdl : 0 < ls.length) {k : Key} (hn : dgetC ls k = none) (v : Sv) : CBC (dputC ls k ⟨k, v, c + 1⟩) (c + 1) := by
  have hi := Nat.mod_lt (hashF k) hdl
  obtain ⟨l, hl⟩ : ∃ l, ls[hashF k % ls.length]? = some l := ⟨_, List.getElem?_eq_getElem hi⟩
  have hg : getL l k = none := by rw [← dgetC_eq hl]; exact hn
  have e : putL l k (⟨k, v, c + 1⟩ : SlotC) = l ++ [(k, ⟨k, v, c + 1⟩)] := by
    rcases fndL_spec k l 0 with ⟨_, _, h3, _⟩ | ⟨l1, u, l2, _, _, h3, _⟩
    · exact h3 _
    · rw [hg] at h3; cases h3
  unfold dputC
  rw [List.getD_eq_getElem?_getD, hl, Option.getD_some, e]
  have hb := h.2 l (List.mem_of_getElem? hl)
  refine (h.mono (by omega)).set ⟨fun p hp => ?_, ?_, ?_⟩
  · rcases List.mem_append.1 hp with hp | hp
    · have := hb.1 p hp; omega
    · rw [List.mem_singleton] at hp; subst hp; have := h.1; exact ⟨by show 0 ≤ c + 1; omega, Int.le_refl _⟩
  · rw [List.map_append, List.nodup_append]
    refine ⟨hb.2.1, by simp, fun a ha b hb2 e2 => ?_⟩
    obtain ⟨p, hp, rfl⟩ := List.mem_map.1 ha
    simp only [List.map_cons, List.map_nil, List.mem_singleton] at hb2
    have := hb.1 p hp
    omega
  · have := hb.2.2; simp; omega
theorem CBC.putO {ls : List (List (Key × SlotC))} {c : Int} (h : CBC ls c) (hdl : 0 < ls.length) {k : Key} {s0 : SlotC} (hn : dgetC ls k = some s0) (v : Sv) : CBC (dputC ls k ⟨k, v, s0.came⟩) c := by
  have hi := Nat.mod_lt (hashF k) hdl
  obtain ⟨l, hl⟩ : ∃ l, ls[hashF k % ls.length]? = some l := ⟨_, List.getElem?_eq_getElem hi⟩
  have hg : getL l k = some s0 := by rw [← dgetC_eq hl]; exact hn
  have e : (putL l k (⟨k, v, s0.came⟩ : SlotC)).map (fun p => p.2.came) = l.map (fun p => p.2.came) := by
    clear hl
    induction l with
    | nil => cases hg
    | cons p r ih =>
      unfold getL at hg
      unfold putL
      split at hg
      · rename_i e; cases hg; rw [if_pos e]; rfl
      · rename_i e; rw [if_neg e]; simp only [List.map_cons]; rw [ih hg]
  unfold dputC
  rw [List.getD_eq_getElem?_getD, hl, Option.getD_some]
  have hb := h.2 l (List.mem_of_getElem? hl)
  refine h.set ⟨fun p hp => ?_, by rw [e]; exact hb.2.1, ?_⟩
  · have : p.2.came ∈ l.map (fun p => p.2.came) := by rw [← e]; exact List.mem_map.2 ⟨p, hp, rfl⟩
    obtain ⟨q, hq, e2⟩ := List.mem_map.1 this
    have := hb.1 q hq
    omega
  · have := congrArg List.length e
    simp only [List.length_map] at this
    rw [this]; exact hb.2.2
theorem CBC.put {ls : List (List (Key × SlotC))} {c : Int} (h : CBC ls c) (hdl : 0 < ls.length) (hc : c ≤ 17592186044416) (k : Key) (v : Sv) :
    CBC (dputC ls k ⟨k, v, ((dgetC ls k).map (·.came)).getD (IntKind.i64.wrap (c + 1))⟩) (if (dgetC ls k).isSome then c else IntKind.i64.wrap (c + 1)) ∧ (if (dgetC ls k).isSome then c else IntKind.i64.wrap (c + 1)) ≤ c + 1 ∧ (dgetC ls k ≠ none → (if (dgetC ls k).isSome then c else IntKind.i64.wrap (c + 1)) ≤ c) := by
  have h0 := h.1
  have e : IntKind.i64.wrap (c + 1) = c + 1 := IntWalk.i64_in _ (by omega)
  rw [e]
  cases hg : dgetC ls k with
  | none => exact ⟨h.putN hdl hg v, Int.le_refl _, fun h => absurd rfl h⟩
  | some s => exact ⟨h.putO hdl hg v, by simp; omega, fun _ => by simp⟩
theorem CBC.del {ls : List (List (Key × SlotC))} {c : Int} (h : CBC ls c) (k : Key) : CBC (ddelC ls k) c := by
  unfold ddelC
  cases hl : ls[hashF k % ls.length]? with
  | none => rw [List.getD_eq_getElem?_getD, hl]; exact h.set (l' := []) ⟨fun p hp => (by cases hp), .nil, h.1⟩
  | some l =>
    rw [List.getD_eq_getElem?_getD, hl, Option.getD_some]
    have hb := h.2 l (List.mem_of_getElem? hl)
    have hs := delL_sub l k
    exact h.set ⟨fun p hp => hb.1 p (hs.subset hp), hb.2.1.sublist (hs.map _), by have := hs.length_le; have := hb.2.2; omega⟩

structure VerR where
  batch : Int
  index : Int
  key : Key
  filled : Bool
  cell : Cell
def encRec (r : VerR) : List Value := [.int .i64 r.batch, .int .i64 r.index, .int .i64 r.key.table, .int .i64 r.key.row, .bool r.filled, .bool r.cell.is_, .int .i64 r.cell.value]
structure StS where
  room : Int
  parts : Int
  last : Int
  live : Nat
  ver : Int → Option VerR
  ch : Key → List Int
def ltP (a b : VerR) : Prop := a.batch < b.batch ∨ (a.batch = b.batch ∧ a.index < b.index)
structure StInv (st : StS) : Prop where
  last0 : 0 ≤ st.last
  verb : ∀ v r, st.ver v = some r → 1 ≤ v ∧ v ≤ st.last ∧ v ∈ st.ch r.key ∧ okK r.key = true
  chv : ∀ k v, v ∈ st.ch k → ∃ r, st.ver v = some r ∧ r.key = k
  sorted : ∀ k, (st.ch k).Pairwise (fun a b => a < b ∧ ∀ ra rb, st.ver a = some ra → st.ver b = some rb → ltP ra rb)
theorem sorted_len : ∀ (l : List Int) (a b : Int), l.Pairwise (fun a b => a < b) → (∀ x ∈ l, a < x ∧ x ≤ b) → a ≤ b → (l.length : Int) ≤ b - a
  | [], a, b, _, _, h => by simp; omega
  | x :: r, a, b, hp, hb, _ => by
    obtain ⟨h1, h2⟩ := List.pairwise_cons.1 hp
    have hx := hb x (by simp)
    have := sorted_len r x b h2 (fun y hy => ⟨h1 y hy, (hb y (by simp [hy])).2⟩) (by omega)
    simp; omega
theorem StInv.len {st : StS} (h : StInv st) (k : Key) : ((st.ch k).length : Int) ≤ st.last := by
  have := sorted_len (st.ch k) 0 st.last ((h.sorted k).imp fun h => h.1) (fun x hx => ?_) h.last0
  · omega
  · obtain ⟨r, h1, _⟩ := h.chv k x hx
    have := h.verb x r h1
    omega
abbrev iv : Int → Value := fun x => Value.int .i64 x
abbrev pv : Nat → Value := fun b => Value.pointer (some ⟨b, 0, none⟩)
structure StH where
  vr : Nat
  bd : Nat
  bp : Nat
  rs : List Nat
  ls : List (List (Key × SlotC))
  came : Int
  n : Int
  m : List (Int × Nat)
  own : Nat → Option Key
def slv (s : Sv) : Value := .slice s.a s.n s.c
def chainV (ls : List (List (Key × SlotC))) (k : Key) : Sv := ((dgetC ls k).getD zslotC).val
structure StoreR (w : World) (s : Nat) (st : StS) (h : StH) : Prop where
  inv : StInv st
  blk : Blk w s (.cells #[.int .i64 st.room, .int .i64 st.parts, .int .i64 st.last, .map (some h.vr), .pointer (some ⟨h.bd, 0, none⟩)] 61 (0, 0))
  vers : Mp iv pv w h.vr h.m
  vkeys : (h.m.map (·.1)).Nodup
  vals : (h.m.map (·.2)).Nodup
  live : h.m.length = st.live
  some_ : ∀ v b, getL h.m v = some b → ∃ r, st.ver v = some r ∧ Blk w b (.cells (encRec r).toArray 104 (0, 0))
  none_' : ∀ v, getL h.m v = none → st.ver v = none
  dict : DictC w h.bd h.bp h.rs h.ls h.came h.n
  parts : st.parts = h.rs.length
  chain : ∀ k, Sl encI 1 3 w (fun b => h.own b = some k) (slv (chainV h.ls k)) (st.ch k)
  chnone : ∀ k, dgetC h.ls k = none ↔ st.ch k = []
  ownlt : ∀ x, h.own x ≠ none → x < w.heap.size
  disj : ∀ x, h.own x ≠ none → x ≠ s ∧ x ≠ h.vr ∧ ¬ fpD h.bd h.bp h.rs x ∧ x ∉ h.m.map (·.2)
  vrd : h.vr ∉ h.rs
  came : CBC h.ls h.came ∧ h.came ≤ st.last
  ptc : PTC h.ls
def fpS (s : Nat) (h : StH) (x : Nat) : Prop := x = s ∨ x = h.vr ∨ fpD h.bd h.bp h.rs x ∨ x ∈ h.m.map (·.2) ∨ h.own x ≠ none
theorem StoreR.kp {w w' : World} {S : Nat → Prop} {s : Nat} {st : StS} {h : StH} (hr : StoreR w s st h) (hk : Kp S w w') (hs : ∀ x, fpS s h x → ¬ S x) : StoreR w' s st h where
  inv := hr.inv
  blk := hr.blk.kp hk (hs _ (.inl rfl))
  vers := hr.vers.kp hk (hs _ (.inr (.inl rfl)))
  vkeys := hr.vkeys
  vals := hr.vals
  live := hr.live
  some_ v b hb := by
    obtain ⟨r, h1, h2⟩ := hr.some_ v b hb
    exact ⟨r, h1, h2.kp hk (hs _ (.inr (.inr (.inr (.inl (List.mem_map.2 ⟨_, getL_mem hb, rfl⟩))))))⟩
  none_' := hr.none_'
  dict := hr.dict.kp hk (fun x hx => hs x (.inr (.inr (.inl hx))))
  parts := hr.parts
  chain k := (hr.chain k).kp hk (fun b hb => hs b (.inr (.inr (.inr (.inr (by rw [hb]; simp))))))
  chnone := hr.chnone
  ownlt x hx := Nat.lt_of_lt_of_le (hr.ownlt x hx) hk.size
  disj := hr.disj
  vrd := hr.vrd
  came := hr.came
  ptc := hr.ptc
theorem StoreR.keep {w w' : World} {s : Nat} {st : StS} {h : StH} (hr : StoreR w s st h) (hk : Kp none_ w w') : StoreR w' s st h := hr.kp hk (fun _ _ h => h)
theorem StoreR.lt {w : World} {s : Nat} {st : StS} {h : StH} (hr : StoreR w s st h) : ∀ x, fpS s h x → x < w.heap.size := by
  rintro x (rfl | rfl | hx | hx | hx)
  · exact hr.blk.lt
  · exact hr.vers.lt
  · exact hr.dict.lt x hx
  · obtain ⟨p, hp, rfl⟩ := List.mem_map.1 hx
    obtain ⟨r, _, h2⟩ := hr.some_ p.1 p.2 (mem_getL hr.vkeys (a := p.1) (v := p.2) hp)
    exact h2.lt
  · exact hr.ownlt x hx
theorem StoreR.get {w : World} {s : Nat} {st : StS} {h : StH} (hr : StoreR w s st h) {v : Int} {r : VerR} (hv : st.ver v = some r) : ∃ b, getL h.m v = some b ∧ Blk w b (.cells (encRec r).toArray 104 (0, 0)) ∧ b ∈ h.m.map (·.2) := by
  cases hg : getL h.m v with
  | none => rw [hr.none_' v hg] at hv; cases hv
  | some b =>
    obtain ⟨r', h1, h2⟩ := hr.some_ v b hg
    rw [hv] at h1
    cases h1
    exact ⟨b, rfl, h2, List.mem_map.2 ⟨_, getL_mem hg, rfl⟩⟩
theorem StoreR.getN {w : World} {s : Nat} {st : StS} {h : StH} (hr : StoreR w s st h) {v : Int} (hv : st.ver v = none) : getL h.m v = none := by
  cases hg : getL h.m v with
  | none => rfl
  | some b => obtain ⟨r', h1, h2⟩ := hr.some_ v b hg; rw [hv] at h1; cases h1
/-! pure -/
def staleB (st : StS) (k : Key) (b i : Int) : Bool := match (st.ch k).getLast?.bind st.ver with
  | some r => decide (b < r.batch) || (decide (b = r.batch) && decide (i ≤ r.index))
  | none => false
def insErr (st : StS) (k : Key) (b i : Int) : Int := if okK k = false then 20 else if b < 1 ∨ 1099511627776 < b then 80 else if i < 0 ∨ 64 ≤ i then 81 else if st.room ≤ st.live then 92 else if staleB st k b i then 94 else 0
def insSt (st : StS) (k : Key) (b i : Int) : StS := { st with last := st.last + 1, live := st.live + 1, ver := fun v => if v = st.last + 1 then some ⟨b, i, k, false, ⟨false, 0⟩⟩ else st.ver v, ch := fun k' => if k' = k then st.ch k ++ [st.last + 1] else st.ch k' }
theorem ins_inv {st : StS} (h : StInv st) {k : Key} {b i : Int} (hk : okK k = true) (hs : staleB st k b i = false) : StInv (insSt st k b i) where
  last0 := by have := h.last0; simp only [insSt]; omega
  verb v r hv := by
    simp only [insSt] at hv ⊢
    split at hv
    · rename_i e
      cases hv
      have := h.last0
      subst e
      exact ⟨by omega, by omega, by simp, hk⟩
    · obtain ⟨h1, h2, h3, h4⟩ := h.verb v r hv
      refine ⟨h1, by omega, ?_, h4⟩
      split
      · rename_i e; rw [← e]; exact List.mem_append_left _ h3
      · exact h3
  chv k' v hv := by
    simp only [insSt] at hv ⊢
    have old : ∀ k', v ∈ st.ch k' → ∃ r, (if v = st.last + 1 then some (⟨b, i, k, false, ⟨false, 0⟩⟩ : VerR) else st.ver v) = some r ∧ r.key = k' := fun k' hv => by
      obtain ⟨r, h1, h2⟩ := h.chv k' v hv
      have := (h.verb v r h1).2.1
      exact ⟨r, by rw [if_neg (by omega)]; exact h1, h2⟩
    split at hv
    · rename_i e
      rcases List.mem_append.1 hv with hv | hv
      · exact e ▸ old k hv
      · rw [List.mem_singleton] at hv
        exact ⟨_, by rw [if_pos hv], e.symm⟩
    · exact old k' hv
  sorted k' := by
    simp only [insSt]
    have old : ∀ k', (st.ch k').Pairwise (fun x y => x < y ∧ ∀ ra rb, (if x = st.last + 1 then some (⟨b, i, k, false, ⟨false, 0⟩⟩ : VerR) else st.ver x) = some ra → (if y = st.last + 1 then some (⟨b, i, k, false, ⟨false, 0⟩⟩ : VerR) else st.ver y) = some rb → ltP ra rb) := fun k' => by
      refine List.Pairwise.imp_of_mem (fun {x y} hx hy hxy => ⟨hxy.1, fun ra rb h1 h2 => ?_⟩) (h.sorted k')
      obtain ⟨r1, q1, _⟩ := h.chv k' x hx
      obtain ⟨r2, q2, _⟩ := h.chv k' y hy
      have := (h.verb x r1 q1).2.1
      have := (h.verb y r2 q2).2.1
      rw [if_neg (by omega)] at h1 h2
      exact hxy.2 ra rb h1 h2
    split
    · rename_i e
      subst e
      rw [List.pairwise_append]
      refine ⟨old k', by simp, fun x hx y hy => ?_⟩
      rw [List.mem_singleton] at hy
      subst hy
      obtain ⟨r1, q1, _⟩ := h.chv k' x hx
      have hx1 := (h.verb x r1 q1).2.1
      refine ⟨by omega, fun ra rb h1 h2 => ?_⟩
      rw [if_neg (by omega)] at h1
      rw [if_pos rfl] at h2
      cases h2
      -- the head of the chain is not above the new place, and x not above the head
      obtain ⟨hd, hhd⟩ : ∃ v, (st.ch k').getLast? = some v := by
        cases hl : (st.ch k').getLast? with
        | none => rw [List.getLast?_eq_none_iff] at hl; rw [hl] at hx; simp at hx
        | some v => exact ⟨v, rfl⟩
      obtain ⟨ys, hys⟩ := List.getLast?_eq_some_iff.1 hhd
      obtain ⟨rh, q3, _⟩ := h.chv k' hd (by rw [hys]; simp)
      have hst : ltP rh ⟨b, i, k', false, ⟨false, 0⟩⟩ := by
        unfold staleB at hs
        rw [hhd] at hs
        simp only [Option.bind_some, q3, Bool.or_eq_false_iff, decide_eq_false_iff_not, Bool.and_eq_false_iff] at hs
        unfold ltP
        simp only
        omega
      have hp := h.sorted k'
      rw [hys, List.pairwise_append] at hp
      rw [hys] at hx
      rcases List.mem_append.1 hx with hx | hx
      · have h5 := (hp.2.2 x hx hd (by simp)).2 ra rh h1 q3
        unfold ltP at *
        simp only at *
        omega
      · rw [List.mem_singleton] at hx
        subst hx
        rw [q3] at h1
        cases h1
        exact hst
    · exact old k'

def remSt (st : StS) (x : Int) (r : VerR) : StS := { st with live := st.live - 1, ver := fun v => if v = x then none else st.ver v, ch := fun k => if k = r.key then (st.ch k).filter (fun y => decide (y ≠ x)) else st.ch k }
theorem StInv.at {st : StS} (h : StInv st) {v : Int} {r : VerR} (hv : st.ver v = some r) : ∃ j, (st.ch r.key)[j]? = some v ∧ ∀ (i : Nat) (x : Int), i ≠ j → (st.ch r.key)[i]? = some x → x ≠ v := by
  obtain ⟨j, hj⟩ := List.getElem?_of_mem (h.verb v r hv).2.2.1
  refine ⟨j, hj, fun i x hi hx e => ?_⟩
  subst e
  have hp := h.sorted r.key
  rw [List.pairwise_iff_getElem] at hp
  obtain ⟨h1, h2⟩ := List.getElem?_eq_some_iff.1 hj
  obtain ⟨h3, h4⟩ := List.getElem?_eq_some_iff.1 hx
  rcases Nat.lt_or_gt_of_ne hi with q | q
  · have := (hp i j h3 h1 q).1; omega
  · have := (hp j i h1 h3 q).1; omega
theorem ins_bad {w w' : World} {s : Nat} {st : StS} {h : StH} {k : Key} {b i e : Int} (hs : StoreR w s st h) (hk : Kp none_ w w') (he : insErr st k b i = e) (h0 : e ≠ 0) :
    (Value.tuple #[.int .i64 0, .int .i64 e] = .tuple #[.int .i64 (if insErr st k b i = 0 then st.last + 1 else 0), .int .i64 (insErr st k b i)]) ∧ ∃ h', StoreR w' s (if insErr st k b i = 0 then insSt st k b i else st) h' ∧ (∀ x, fpS s h' x → fpS s h x ∨ w.heap.size ≤ x) ∧ Kp (fpS s h) w w' := by
  rw [he, if_neg h0, if_neg h0]
  exact ⟨rfl, h, hs.keep hk, fun x hx => .inl hx, hk.of_none⟩
def tIns (s : Nat) (h : StH) (k : Key) (x : Nat) : Prop := x = s ∨ x = h.vr ∨ h.own x = some k ∨ x = h.bd ∨ x ∈ h.rs
theorem StoreR.s_ne {w : World} {s : Nat} {st : StS} {h : StH} (hs : StoreR w s st h) (k : Key) : ¬ (h.own s = some k ∨ s = h.bd ∨ s ∈ h.rs) := by
  rintro (e | e | e)
  · exact (hs.disj s (by rw [e]; simp)).1 rfl
  · have := hs.blk.eq (e ▸ hs.dict.blk); simp at this
  · obtain ⟨i, hi⟩ := List.getElem?_of_mem e
    obtain ⟨l, hl⟩ : ∃ l, h.ls[i]? = some l := ⟨_, List.getElem?_eq_getElem (by have := (List.getElem?_eq_some_iff.1 hi).1; have := hs.dict.len; omega)⟩
    exact (hs.dict.maps i s l hi hl).ne_cells hs.blk rfl
theorem StoreR.vr_ne {w : World} {s : Nat} {st : StS} {h : StH} (hs : StoreR w s st h) (k : Key) : ¬ (h.own h.vr = some k) ∧ ¬ (h.vr = h.bd ∨ h.vr ∈ h.rs) := by
  refine ⟨fun e => (hs.disj h.vr (by rw [e]; simp)).2.1 rfl, ?_⟩
  rintro (e | e)
  · exact hs.vers.ne_cells hs.dict.blk e.symm
  · exact hs.vrd e
theorem StoreR.s_fp {w : World} {s : Nat} {st : StS} {h : StH} (hs : StoreR w s st h) : ¬ fpD h.bd h.bp h.rs s := by
  rintro (e | e | e)
  · exact hs.s_ne ⟨0, 0⟩ (.inr (.inl e))
  · have := hs.blk.eq (e ▸ hs.dict.arr); simp at this
  · exact hs.s_ne ⟨0, 0⟩ (.inr (.inr e))
theorem StoreR.vr_fp {w : World} {s : Nat} {st : StS} {h : StH} (hs : StoreR w s st h) : ¬ fpD h.bd h.bp h.rs h.vr := by
  rintro (e | e | e)
  · exact (hs.vr_ne ⟨0, 0⟩).2 (.inl e)
  · exact hs.vers.ne_cells hs.dict.arr e.symm
  · exact hs.vrd e
theorem StoreR.new_ne {w : World} {s : Nat} {st : StS} {h : StH} (hs : StoreR w s st h) {x : Nat} (hx : w.heap.size ≤ x) : ¬ fpS s h x := fun e => by have := hs.lt x e; omega
theorem StoreR.new_own {w : World} {s : Nat} {st : StS} {h : StH} (hs : StoreR w s st h) {x : Nat} {k : Key} (e : h.own x = some k) (hx : w.heap.size ≤ x) : False := hs.new_ne hx (.inr (.inr (.inr (.inr (by rw [e]; simp)))))
theorem StoreR.new_put {w : World} {s : Nat} {st : StS} {h : StH} (hs : StoreR w s st h) {x : Nat} (e : x = h.bd ∨ x ∈ h.rs) (hx : w.heap.size ≤ x) : False := hs.new_ne hx (.inr (.inr (.inl (e.elim .inl (fun q => .inr (.inr q))))))
theorem StoreR.rec_ne {w : World} {s : Nat} {st : StS} {h : StH} (hs : StoreR w s st h) (k : Key) {x : Nat} {r : VerR} (hm : x ∈ h.m.map (·.2)) (hx : Blk w x (.cells (encRec r).toArray 104 (0, 0))) : ¬ tIns s h k x := by
  rintro (e | e | e | e | e)
  · have := hx.eq (e ▸ hs.blk); simp at this
  · exact hs.vers.ne_cells hx e
  · exact (hs.disj x (by rw [e]; simp)).2.2.2 hm
  · have := hx.eq (e ▸ hs.dict.blk); simp at this
  · obtain ⟨i, hi⟩ := List.getElem?_of_mem e
    obtain ⟨l, hl⟩ : ∃ l, h.ls[i]? = some l := ⟨_, List.getElem?_eq_getElem (by have := (List.getElem?_eq_some_iff.1 hi).1; have := hs.dict.len; omega)⟩
    exact (hs.dict.maps i x l hi hl).ne_cells hx rfl
theorem rem_inv {st : StS} (h : StInv st) {x : Int} {r : VerR} (hv : st.ver x = some r) : StInv (remSt st x r) where
  last0 := h.last0
  verb v r' hv' := by
    simp only [remSt] at hv' ⊢
    split at hv'
    · cases hv'
    · rename_i hne
      obtain ⟨h1, h2, h3, h4⟩ := h.verb v r' hv'
      refine ⟨h1, h2, ?_, h4⟩
      split
      · exact List.mem_filter.2 ⟨h3, by simpa using hne⟩
      · exact h3
  chv k v hv' := by
    simp only [remSt] at hv' ⊢
    have hne : v ≠ x ∧ v ∈ st.ch k := by
      split at hv'
      · obtain ⟨h1, h2⟩ := List.mem_filter.1 hv'; exact ⟨by simpa using h2, h1⟩
      · rename_i hk
        refine ⟨fun e => ?_, hv'⟩
        subst e
        obtain ⟨r', h1, h2⟩ := h.chv k v hv'
        rw [hv] at h1; cases h1; exact hk h2.symm
    obtain ⟨r', h1, h2⟩ := h.chv k v hne.2
    exact ⟨r', by rw [if_neg hne.1]; exact h1, h2⟩
  sorted k := by
    simp only [remSt]
    have old : (st.ch k).Pairwise (fun a b => a < b ∧ ∀ ra rb, (if a = x then none else st.ver a) = some ra → (if b = x then none else st.ver b) = some rb → ltP ra rb) := (h.sorted k).imp (fun {a b} hab => ⟨hab.1, fun ra rb h1 h2 => by
      split at h1
      · cases h1
      · split at h2
        · cases h2
        · exact hab.2 ra rb h1 h2⟩)
    split
    · exact old.filter _
    · exact old
theorem rem_done {w w' : World} {s A B : Nat} {st : StS} {h : StH} {x : Int} {r : VerR} {ls' : List (List (Key × SlotC))} {came' n' : Int} (hs : StoreR w s st h) (hv : st.ver x = some r)
    (hb : Blk w' s (.cells #[.int .i64 st.room, .int .i64 st.parts, .int .i64 st.last, .map (some h.vr), .pointer (some ⟨h.bd, 0, none⟩)] 61 (0, 0))) (hvm : Mp iv pv w' h.vr (delL h.m x)) (hdn : DictC w' h.bd h.bp h.rs ls' came' n') (hget : ∀ k, k ≠ r.key → dgetC ls' k = dgetC h.ls k)
    (hch : Sl encI 1 3 w' (fun y => A ≤ y ∧ y < B) (slv (chainV ls' r.key)) ((st.ch r.key).filter (fun y => decide (y ≠ x)))) (hnone : dgetC ls' r.key = none ↔ (st.ch r.key).filter (fun y => decide (y ≠ x)) = []) (hA : w.heap.size ≤ A) (hB : B ≤ w'.heap.size) (hk : Kp (fun y => y = h.vr ∨ y = h.bd ∨ y ∈ h.rs) w w') (hcm : CBC ls' came' ∧ came' ≤ st.last) (hpt : PTC ls') :
    ∃ h', StoreR w' s (remSt st x r) h' ∧ (∀ y, fpS s h' y → fpS s h y ∨ w.heap.size ≤ y) ∧ Kp (fpS s h) w w' := by
  have hin : ∀ k y, (y = h.vr ∨ y = h.bd ∨ y ∈ h.rs) → tIns s h k y := fun k y e => e.elim (fun q => .inr (.inl q)) (fun q => q.elim (fun q => .inr (.inr (.inr (.inl q)))) (fun q => .inr (.inr (.inr (.inr q)))))
  have hsome : (getL h.m x).isSome = true := by
    obtain ⟨b, h1, _⟩ := hs.get hv; rw [h1]; rfl
  refine ⟨{ h with ls := ls', came := came', n := n', m := delL h.m x, own := fun y => if A ≤ y ∧ y < B then some r.key else h.own y }, ?_, ?_, hk.mono ?_⟩
  · refine ⟨rem_inv hs.inv hv, hb, hvm, delL_nodup hs.vkeys x, hs.vals.sublist ((delL_sub h.m x).map _), ?_, ?_, ?_, hdn, hs.parts, ?_, ?_, ?_, ?_, hs.vrd, hcm, hpt⟩
    · show (delL h.m x).length = st.live - 1
      rw [delL_length, if_pos hsome, hs.live]
    · intro v b' hv'
      have hv2 : getL (delL h.m x) v = some b' := hv'
      rw [getL_delL hs.vkeys] at hv2
      simp only [remSt]
      split at hv2
      · cases hv2
      · rename_i e
        obtain ⟨r', h1, h2⟩ := hs.some_ v b' hv2
        exact ⟨r', by rw [if_neg e]; exact h1, h2.kp hk (fun q => hs.rec_ne r.key (List.mem_map.2 ⟨_, getL_mem hv2, rfl⟩) h2 (hin _ _ q))⟩
    · intro v hv'
      have hv2 : getL (delL h.m x) v = none := hv'
      rw [getL_delL hs.vkeys] at hv2
      simp only [remSt]
      split at hv2
      · rename_i e; rw [if_pos e]
      · rename_i e; rw [if_neg e]; exact hs.none_' v hv2
    · intro k'
      show Sl encI 1 3 w' _ (slv (chainV ls' k')) (if k' = r.key then (st.ch k').filter (fun y => decide (y ≠ x)) else st.ch k')
      by_cases e : k' = r.key
      · rw [if_pos e, e]
        refine hch.mono (fun y hy => ?_)
        show (if A ≤ y ∧ y < B then some r.key else h.own y) = some r.key
        rw [if_pos hy]
      · rw [if_neg e, show chainV ls' k' = chainV h.ls k' from by unfold chainV; rw [hget k' e]]
        refine ((hs.chain k').kp hk ?_).mono ?_
        · intro y hy q
          have hd := hs.disj y (by rw [hy]; simp)
          rcases q with q | q | q
          · exact hd.2.1 q
          · exact hd.2.2.1 (.inl q)
          · exact hd.2.2.1 (.inr (.inr q))
        · intro y hy
          show (if A ≤ y ∧ y < B then some r.key else h.own y) = some k'
          have := hs.ownlt y (by rw [hy]; simp)
          rw [if_neg (by omega), hy]
    · intro k'
      show dgetC ls' k' = none ↔ (if k' = r.key then (st.ch k').filter (fun y => decide (y ≠ x)) else st.ch k') = []
      by_cases e : k' = r.key
      · rw [if_pos e, e]; exact hnone
      · rw [if_neg e, hget k' e]; exact hs.chnone k'
    · intro y hy
      have hy' : (if A ≤ y ∧ y < B then some r.key else h.own y) ≠ none := hy
      split at hy'
      · omega
      · have := hs.ownlt y hy'; have := hk.size; omega
    · intro y hy
      have hy' : (if A ≤ y ∧ y < B then some r.key else h.own y) ≠ none := hy
      split at hy'
      · rename_i q
        have hn := hs.new_ne (x := y) (by omega)
        exact ⟨fun e => hn (.inl e), fun e => hn (.inr (.inl e)), fun e => hn (.inr (.inr (.inl e))), fun e => hn (.inr (.inr (.inr (.inl (((delL_sub h.m x).map _).subset e)))))⟩
      · have hd := hs.disj y hy'
        exact ⟨hd.1, hd.2.1, hd.2.2.1, fun e => hd.2.2.2 (((delL_sub h.m x).map _).subset e)⟩
  · rintro y (rfl | hy | hy | hy | hy)
    · exact .inl (.inl rfl)
    · exact .inl (.inr (.inl hy))
    · exact .inl (.inr (.inr (.inl hy)))
    · exact .inl (.inr (.inr (.inr (.inl (((delL_sub h.m x).map _).subset hy)))))
    · have hy' : (if A ≤ y ∧ y < B then some r.key else h.own y) ≠ none := hy
      split at hy'
      · exact .inr (by omega)
      · exact .inl (.inr (.inr (.inr (.inr hy'))))
  · rintro y _ (e | e | e)
    · exact .inr (.inl e)
    · exact .inr (.inr (.inl (.inl e)))
    · exact .inr (.inr (.inl (.inr (.inr e))))
theorem filter_len {l : List Int} {j : Nat} {v : Int} (hj : l[j]? = some v) (hn : ∀ (i : Nat) (x : Int), i ≠ j → l[i]? = some x → x ≠ v) : (l.filter (fun x => decide (x ≠ v))).length = l.length - 1 := by
  rw [← erase_filter hj hn, List.length_eraseIdx_of_lt (List.getElem?_eq_some_iff.1 hj).1]
theorem ins_done {w w' : World} {s rb nc A B : Nat} {na : Option Addr} {st : StS} {h : StH} {k : Key} {b i c came' n' : Int} (hs : StoreR w s st h) (he : insErr st k b i = 0)
    (hb : Blk w' s (.cells #[.int .i64 st.room, .int .i64 st.parts, .int .i64 (st.last + 1), .map (some h.vr), .pointer (some ⟨h.bd, 0, none⟩)] 61 (0, 0)))
    (hvm : Mp iv pv w' h.vr (putL h.m (st.last + 1) rb)) (hrec : Blk w' rb (.cells (encRec ⟨b, i, k, false, ⟨false, 0⟩⟩).toArray 104 (0, 0))) (hrb : w.heap.size ≤ rb) (hrbA : rb < A) (hA : w.heap.size ≤ A) (hB : B ≤ w'.heap.size)
    (hdn : DictC w' h.bd h.bp h.rs (dputC h.ls k ⟨k, ⟨na, (st.ch k).length + 1, nc⟩, c⟩) came' n') (hcn : Sl encI 1 3 w' (fun x => (h.own x = some k ∨ A ≤ x) ∧ x < B) (.slice na ((st.ch k).length + 1) nc) (st.ch k ++ [st.last + 1])) (hk : Kp (tIns s h k) w w') (hsrb : s ≠ rb) (hcm : CBC (dputC h.ls k ⟨k, ⟨na, (st.ch k).length + 1, nc⟩, c⟩) came' ∧ came' ≤ st.last + 1) :
    (Value.tuple #[.int .i64 (st.last + 1), .int .i64 0] = .tuple #[.int .i64 (if insErr st k b i = 0 then st.last + 1 else 0), .int .i64 (insErr st k b i)]) ∧ ∃ h', StoreR w' s (if insErr st k b i = 0 then insSt st k b i else st) h' ∧ (∀ x, fpS s h' x → fpS s h x ∨ w.heap.size ≤ x) ∧ Kp (fpS s h) w w' := by
  rw [he, if_pos rfl, if_pos rfl]
  have hok : okK k = true ∧ staleB st k b i = false := by
    unfold insErr at he
    split at he
    · cases he
    · rename_i h1
      split at he
      · cases he
      · split at he
        · cases he
        · split at he
          · cases he
          · split at he
            · cases he
            · rename_i h2; exact ⟨by simpa using h1, by simpa using h2⟩
  have hnone : getL h.m (st.last + 1) = none := hs.getN (by
    cases hv : st.ver (st.last + 1) with
    | none => rfl
    | some r => have := (hs.inv.verb _ _ hv).2.1; omega)
  have hdl : 0 < h.ls.length := by have := hs.dict.len; have := hs.dict.pos; omega
  have hrbm : rb ∉ h.m.map (·.2) := fun hm => hs.new_ne hrb (.inr (.inr (.inr (.inl hm))))
  refine ⟨rfl, { h with ls := dputC h.ls k ⟨k, ⟨na, (st.ch k).length + 1, nc⟩, c⟩, came := came', n := n', m := putL h.m (st.last + 1) rb, own := fun x => if (h.own x = some k ∨ A ≤ x) ∧ x < B then some k else h.own x }, ?_, ?_, hk.mono ?_⟩
  · have hmm : putL h.m (st.last + 1) rb = h.m ++ [(st.last + 1, rb)] := by
      rcases fndL_spec (st.last + 1) h.m 0 with ⟨_, _, h3, _⟩ | ⟨l1, u, l2, _, _, h3, _⟩
      · exact h3 rb
      · rw [hnone] at h3; cases h3
    have ch' : ∀ k', chainV (dputC h.ls k ⟨k, ⟨na, (st.ch k).length + 1, nc⟩, c⟩) k' = if k' = k then ⟨na, (st.ch k).length + 1, nc⟩ else chainV h.ls k' := by
      intro k'
      unfold chainV
      rw [dgetC_put hdl]
      split <;> rfl
    refine ⟨ins_inv hs.inv hok.1 hok.2, hb, hvm, putL_nodup hs.vkeys _ _, ?_, ?_, ?_, ?_, hdn, hs.parts, ?_, ?_, ?_, ?_, hs.vrd, hcm, hs.ptc.put hdl _ _⟩
    · show ((putL h.m (st.last + 1) rb).map (·.2)).Nodup
      rw [hmm, List.map_append, List.nodup_append]
      refine ⟨hs.vals, by simp, fun x hx y hy e => ?_⟩
      simp only [List.map_cons, List.map_nil, List.mem_singleton] at hy
      subst hy; subst e
      exact hrbm hx
    · show (putL h.m (st.last + 1) rb).length = st.live + 1
      rw [hmm, List.length_append, hs.live]; rfl
    · intro v b' hv
      have hv' : getL (putL h.m (st.last + 1) rb) v = some b' := hv
      rw [getL_putL] at hv'
      simp only [insSt]
      split at hv'
      · rename_i e
        cases hv'
        exact ⟨_, by rw [if_pos e], hrec⟩
      · rename_i e
        obtain ⟨r, h1, h2⟩ := hs.some_ v b' hv'
        exact ⟨r, by rw [if_neg e]; exact h1, h2.kp hk (hs.rec_ne k (List.mem_map.2 ⟨_, getL_mem hv', rfl⟩) h2)⟩
    · intro v hv
      have hv' : getL (putL h.m (st.last + 1) rb) v = none := hv
      rw [getL_putL] at hv'
      simp only [insSt]
      split at hv'
      · cases hv'
      · rename_i e; rw [if_neg e]; exact hs.none_' v hv'
    · intro k'
      show Sl encI 1 3 w' _ (slv (chainV (dputC h.ls k ⟨k, ⟨na, (st.ch k).length + 1, nc⟩, c⟩) k')) (if k' = k then st.ch k ++ [st.last + 1] else st.ch k')
      rw [ch']
      by_cases e : k' = k
      · rw [if_pos e, if_pos e]
        refine hcn.mono (fun x hx => ?_)
        show (if (h.own x = some k ∨ A ≤ x) ∧ x < B then some k else h.own x) = some k'
        rw [if_pos hx, e]
      · rw [if_neg e, if_neg e]
        refine ((hs.chain k').kp hk ?_).mono ?_
        · intro x hx
          have hd := hs.disj x (by rw [hx]; simp)
          rintro (q | q | q | q | q)
          · exact hd.1 q
          · exact hd.2.1 q
          · rw [hx] at q; cases q; exact e rfl
          · exact hd.2.2.1 (.inl q)
          · exact hd.2.2.1 (.inr (.inr q))
        · intro x hx
          show (if (h.own x = some k ∨ A ≤ x) ∧ x < B then some k else h.own x) = some k'
          have := hs.ownlt x (by rw [hx]; simp)
          rw [if_neg, hx]
          rintro ⟨q | q, _⟩
          · rw [hx] at q; cases q; exact e rfl
          · omega
    · intro k'
      show dgetC (dputC h.ls k ⟨k, ⟨na, (st.ch k).length + 1, nc⟩, c⟩) k' = none ↔ (if k' = k then st.ch k ++ [st.last + 1] else st.ch k') = []
      rw [dgetC_put hdl]
      by_cases e : k' = k
      · rw [if_pos e, if_pos e]; simp
      · rw [if_neg e, if_neg e]; exact hs.chnone k'
    · intro x hx
      have hx' : (if (h.own x = some k ∨ A ≤ x) ∧ x < B then some k else h.own x) ≠ none := hx
      split at hx'
      · rename_i q; omega
      · have := hs.ownlt x hx'; have := hk.size; omega
    · intro x hx
      have hx' : (if (h.own x = some k ∨ A ≤ x) ∧ x < B then some k else h.own x) ≠ none := hx
      have key : (h.own x ≠ none) ∨ (A ≤ x ∧ h.own x = none) := by
        split at hx'
        · rename_i q
          rcases q with ⟨q | q, _⟩
          · left; rw [q]; simp
          · cases ho : h.own x with
            | none => right; exact ⟨q, rfl⟩
            | some y => left; simp
        · exact .inl hx'
      have hmem : x ∉ h.m.map (·.2) → x ≠ rb → x ∉ (putL h.m (st.last + 1) rb).map (·.2) := fun h1 h2 => by
        rw [hmm, List.map_append]
        simp only [List.map_cons, List.map_nil, List.mem_append, List.mem_singleton]
        rintro (h | h)
        · exact h1 h
        · exact h2 h
      rcases key with key | ⟨key, _⟩
      · have hd := hs.disj x key
        have := hs.ownlt x key
        exact ⟨hd.1, hd.2.1, hd.2.2.1, hmem hd.2.2.2 (by omega)⟩
      · have hn := hs.new_ne (x := x) (by omega)
        exact ⟨fun e => hn (.inl e), fun e => hn (.inr (.inl e)), fun e => hn (.inr (.inr (.inl e))), hmem (fun e => hn (.inr (.inr (.inr (.inl e))))) (by omega)⟩
  · rintro x (rfl | hx | hx | hx | hx)
    · exact .inl (.inl rfl)
    · exact .inl (.inr (.inl hx))
    · exact .inl (.inr (.inr (.inl hx)))
    · have hx' : x ∈ (putL h.m (st.last + 1) rb).map (·.2) := hx
      obtain ⟨p, hp, rfl⟩ := List.mem_map.1 hx'
      have hg := mem_getL (putL_nodup hs.vkeys (st.last + 1) rb) (a := p.1) (v := p.2) hp
      rw [getL_putL] at hg
      split at hg
      · cases hg; exact .inr hrb
      · exact .inl (.inr (.inr (.inr (.inl (List.mem_map.2 ⟨_, getL_mem hg, rfl⟩)))))
    · have hx' : (if (h.own x = some k ∨ A ≤ x) ∧ x < B then some k else h.own x) ≠ none := hx
      split at hx'
      · rename_i q
        rcases q with ⟨q | q, _⟩
        · exact .inl (.inr (.inr (.inr (.inr (by rw [q]; simp)))))
        · exact .inr (by omega)
      · exact .inl (.inr (.inr (.inr (.inr hx'))))
  · rintro x _ (e | e | e | e | e)
    · exact .inl e
    · exact .inr (.inl e)
    · exact .inr (.inr (.inr (.inr (by rw [e]; simp))))
    · exact .inr (.inr (.inl (.inl e)))
    · exact .inr (.inr (.inl (.inr (.inr e))))
end Go.Proofs.YtojcddlpkfhodaaGreat.W
