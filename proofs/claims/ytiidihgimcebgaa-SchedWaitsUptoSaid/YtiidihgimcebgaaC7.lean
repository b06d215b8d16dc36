import Derived.Test.YtiidihgimcebgaaC6
import Derived.KernelRfl
namespace Go.Proofs.Ytiidihgimcebgaa.W
open Go Go.Wk
set_option linter.unusedVariables false

theorem dne {p q : Prop} [Decidable p] [Decidable q] (h : p ↔ q) : decide (decide p ≠ decide q) = false := by simp [h]
theorem mkCs_len : ∀ (l : List MakeR) (k : Nat), (mkCs k l).length = l.length
  | [], _ => rfl
  | _ :: r, k => congrArg (· + 1) (mkCs_len r (k + 1))
theorem mkCs_at : ∀ {l : List MakeR} {k i : Nat} {c : Cho}, (mkCs k l)[i]? = some c → ∃ x, l[i]? = some x ∧ c = ⟨clip x.steps, bhF (k + i) x.bl⟩
  | x :: r, k, 0, c, h => by cases h; exact ⟨x, rfl, rfl⟩
  | x :: r, k, i + 1, c, h => by
    obtain ⟨y, h1, h2⟩ := mkCs_at (l := r) (k := k + 1) (i := i) (by simpa [mkCs] using h)
    exact ⟨y, by simpa using h1, by rw [h2]; congr 2; omega⟩
theorem mkTs_len (n : Nat) (turn : Int) : ∀ (f i : Nat), (mkTs n turn i f).length = f
  | 0, _ => rfl
  | f + 1, i => congrArg (· + 1) (mkTs_len n turn f (i + 1))
theorem mkTs_at {n : Nat} {turn : Int} : ∀ {f i k : Nat}, k < f → (mkTs n turn i f)[k]? = some (some (withinF (((i + k : Nat) : Int) + withinF turn (n : Int)) (n : Int)).toNat)
  | f + 1, i, 0, _ => rfl
  | f + 1, i, k + 1, h => by
    show (mkTs n turn (i + 1) f)[k]? = _
    rw [mkTs_at (by omega)]; congr 5; omega
theorem mkTs_mem {n : Nat} {turn : Int} {j : Nat} (h : some j ∈ mkTs n turn 0 n) : j < n := by
  obtain ⟨k, hk⟩ := List.mem_iff_getElem?.1 h
  have hlt := (List.getElem?_eq_some_iff.1 hk).1
  rw [mkTs_len] at hlt
  rw [mkTs_at hlt] at hk
  have h2 := withinF_in (n := ((0 + k : Nat) : Int) + withinF turn (n : Int)) (m := (n : Int)) (by omega)
  have h3 := Option.some.inj (Option.some.inj hk)
  omega
/-- each chore waits for ones that were made ahead of it -/
def Dag (cs : List Cho) : Prop := ∀ (i : Nat) (c : Cho), cs[i]? = some c → ∀ j, some j ∈ c.bh → j < i
/-- each chore is a task -/
def Cov (cs : List Cho) (ts : List (Option Nat)) : Prop := ∀ j, j < cs.length → some j ∈ ts
structure Jn (cs : List Cho) (ts : List (Option Nat)) : Prop where
  wf : WfC cs ts
  dag : Dag cs
  cov : Cov cs ts
theorem mk_dag (l : List MakeR) : Dag (mkCs 0 l) := fun i c h j hj => by
  obtain ⟨x, _, rfl⟩ := mkCs_at h
  have := bhF_lt hj
  omega
theorem mk_wf {n : Nat} {l : List MakeR} {turn : Int} (hn : n = l.length) (hb : ∀ x ∈ l, x.bl.length ≤ 4398046511104) (hn2 : n ≤ 4398046511104) : WfC (mkCs 0 l) (mkTs n turn 0 n) := by
  refine ⟨fun i c h => ?_, fun i c h => ?_, fun j hj => by rw [mkCs_len, ← hn]; exact mkTs_mem hj, by rw [mkTs_len]; exact hn2⟩
  · obtain ⟨x, hx, rfl⟩ := mkCs_at h
    have h1 := (List.getElem?_eq_some_iff.1 hx).1
    exact ⟨(clip_in _).1, (clip_in _).2, fun j hj => by have := bhF_lt hj; rw [mkCs_len]; omega⟩
  · obtain ⟨x, hx, rfl⟩ := mkCs_at h
    exact Nat.le_trans (bhF_len _ _) (hb x (List.mem_of_getElem? hx))
theorem mk_cov {n : Nat} {l : List MakeR} {turn : Int} (hn : n = l.length) : Cov (mkCs 0 l) (mkTs n turn 0 n) := fun j hj => by
  rw [mkCs_len, ← hn] at hj
  have h1 := withinF_in (n := turn) (m := (n : Int)) (by omega)
  have h2 := withinF_in (n := ((j : Nat) : Int) - withinF turn (n : Int)) (m := (n : Int)) (by omega)
  refine List.mem_of_getElem? (i := (withinF (((j : Nat) : Int) - withinF turn (n : Int)) (n : Int)).toNat) ?_
  rw [mkTs_at (by omega)]
  congr 2
  have h3 : (((0 + (withinF (((j : Nat) : Int) - withinF turn (n : Int)) (n : Int)).toNat : Nat)) : Int) = withinF (((j : Nat) : Int) - withinF turn (n : Int)) (n : Int) := by omega
  rw [h3]
  have h4 : withinF (withinF (((j : Nat) : Int) - withinF turn (n : Int)) (n : Int) + withinF turn (n : Int)) (n : Int) = ((j : Nat) : Int) := by
    have e : ∀ x : Int, withinF x (n : Int) = x % (n : Int) := fun x => by unfold withinF; rw [if_neg (by omega)]
    rw [e, e (((j : Nat) : Int) - _), Int.emod_add_emod, Int.sub_add_cancel]
    exact Int.emod_eq_of_lt (by omega) (by omega)
  rw [h4]; rfl
theorem mk_tot : ∀ (l : List MakeR) (k : Nat), ((totL (mkCs k l) : Nat) : Int) = totF (l.map (·.steps))
  | [], _ => rfl
  | x :: r, k => by
    have h1 := mk_tot r (k + 1)
    have h2 := clip_in x.steps
    simp only [mkCs, totL, List.map_cons, totF]
    omega
theorem totL_zero : ∀ {cs : List Cho}, OkB cs → totL cs = 0 → (cs.all fun c => decide (c.left = 0)) = true := fun {cs} hok h => by
  rw [List.all_eq_true]
  intro c hc
  obtain ⟨i, hi⟩ := List.mem_iff_getElem?.1 hc
  have h1 := hok i c hi
  have h2 : ∀ (cs : List Cho), c ∈ cs → c.left.toNat ≤ totL cs := by
    intro cs
    induction cs with
    | nil => intro h; cases h
    | cons d r ih =>
      intro h
      rcases List.mem_cons.1 h with rfl | h
      · simp only [totL]; omega
      · have := ih h; simp only [totL]; omega
  have := h2 cs hc
  simp; omega
theorem totL_pos : ∀ {cs : List Cho}, 0 < totL cs → ∃ (i : Nat) (c : Cho), cs[i]? = some c ∧ 0 < c.left ∧ ∀ (j : Nat) (d : Cho), j < i → cs[j]? = some d → d.left ≤ 0
  | [], h => by simp [totL] at h
  | c :: r, h => by
    by_cases hc : 0 < c.left
    · exact ⟨0, c, rfl, hc, fun j d hj => by omega⟩
    · simp only [totL] at h
      obtain ⟨i, d, h1, h2, h3⟩ := totL_pos (cs := r) (by omega)
      refine ⟨i + 1, d, by simpa using h1, h2, fun j e hj he => ?_⟩
      cases j with
      | zero => cases he; omega
      | succ j => exact h3 j e (by omega) (by simpa using he)
theorem rdyL_of {cs : List Cho} : ∀ {ts : List (Option Nat)} {k j : Nat}, some j ∈ ts → rdy cs j = true → 0 < (rdyL cs k ts).length
  | t :: r, k, j, h, hr => by
    simp only [rdyL, List.length_append]
    rcases List.mem_cons.1 h with rfl | h
    · simp only [hr, cond_true, List.length_singleton]; omega
    · have := rdyL_of (k := k + 1) h hr; omega
/-- as long as a step is left, a task is ready -/
theorem Jn.live {cs : List Cho} {ts : List (Option Nat)} (h : Jn cs ts) : 0 < (rdyL cs 0 ts).length ↔ 0 < totL cs := by
  constructor
  · intro h0
    rcases takeI_spec cs ts 0 with ⟨h1, _⟩ | ⟨i, j, h1, _⟩
    · rw [h1] at h0; simp at h0
    · have := takeC_tot h.wf 0
      rw [h1] at this
      have h2 : totL (takeC cs ts 0) + 1 = totL cs := this
      omega
  · intro h0
    obtain ⟨i, c, h1, h2, h3⟩ := totL_pos h0
    refine rdyL_of (h.cov i (List.getElem?_eq_some_iff.1 h1).1) ?_
    unfold rdy; rw [h1]
    simp only [rdyC, Bool.and_eq_true, decide_eq_true_eq, List.all_eq_true]
    refine ⟨by omega, fun b hb => ?_⟩
    cases b with
    | none => rfl
    | some j =>
      have hj := h.dag i c h1 j hb
      have hl := (List.getElem?_eq_some_iff.1 h1).1
      obtain ⟨d, hd⟩ : ∃ d, cs[j]? = some d := ⟨_, List.getElem?_eq_getElem (by omega)⟩
      simp only [okb, leftOf_at hd, decide_eq_true_eq]
      exact h3 j d hj hd
theorem takeV_iff {cs : List Cho} {ts : List (Option Nat)} {p : Int} : 0 ≤ takeV cs ts p ↔ 0 < (rdyL cs 0 ts).length := by
  constructor
  · intro h
    obtain ⟨i, hi⟩ := takeV_pos h
    rcases takeI_spec cs ts p with ⟨_, h1⟩ | ⟨_, _, _, _, _, _, h1⟩
    · rw [h1] at hi; cases hi
    · exact h1
  · intro h
    rcases takeI_spec cs ts p with ⟨h1, _⟩ | ⟨i, j, h1, _⟩
    · rw [h1] at h; simp at h
    · unfold takeV; rw [h1]; show (0 : Int) ≤ ((i : Nat) : Int); omega
theorem stepC_at {cs : List Cho} {j i : Nat} {c : Cho} (h : (stepC cs j)[i]? = some c) : ∃ d, cs[i]? = some d ∧ c.bh = d.bh := by
  unfold stepC at h
  split at h
  · rename_i e he
    split at h
    · rw [List.getElem?_set] at h
      split at h
      · rename_i hij
        split at h
        · cases h; subst hij; exact ⟨e, he, rfl⟩
        · cases h
      · exact ⟨c, h, rfl⟩
    · exact ⟨c, h, rfl⟩
  · exact ⟨c, h, rfl⟩
theorem Jn.take {cs : List Cho} {ts : List (Option Nat)} (h : Jn cs ts) (p : Int) : Jn (takeC cs ts p) ts := by
  refine ⟨h.wf.take p, ?_, fun j hj => h.cov j (by rw [takeC_len] at hj; exact hj)⟩
  rcases takeI_spec cs ts p with ⟨_, h1⟩ | ⟨i, j, _, _, _, h1, _⟩
  · unfold takeC; rw [h1]; exact h.dag
  · rw [h1]
    intro k c hc q hq
    obtain ⟨d, h2, h3⟩ := stepC_at hc
    exact h.dag k d h2 q (h3 ▸ hq)
theorem drain_full {ts : List (Option Nat)} : ∀ {f : Nat} {cs : List Cho} {m : Int}, Jn cs ts → totL cs < f → ((totL cs : Nat) : Int) ≤ m → (drainS ts f cs m).2 = totL cs ∧ totL (drainS ts f cs m).1 = 0 ∧ Jn (drainS ts f cs m).1 ts
  | 0, _, _, _, h, _ => by omega
  | f + 1, cs, m, hj, h, hm => by
    have h1 := takeC_tot hj.wf 0
    rcases takeI_spec cs ts 0 with ⟨h2, h3⟩ | ⟨i, j, h2, _⟩
    · have h4 : ¬ 0 < totL cs := fun h4 => by have := hj.live.2 h4; rw [h2] at this; simp at this
      rw [drain_none (.inr h3)]
      exact ⟨by simp; omega, by simp; omega, hj⟩
    · rw [h2] at h1
      have h4 : totL (takeC cs ts 0) + 1 = totL cs := h1
      have h5 := drain_full (f := f) (m := m - 1) (hj.take 0) (by omega) (by omega)
      have e : drainS ts (f + 1) cs m = ((drainS ts f (takeC cs ts 0) (m - 1)).1, (drainS ts f (takeC cs ts 0) (m - 1)).2 + 1) := by
        conv => lhs; unfold drainS
        rw [if_pos (by omega), h2]
      rw [e]
      exact ⟨by simp only [h5.1]; omega, h5.2.1, h5.2.2⟩
theorem drain_none2 {ts : List (Option Nat)} {cs : List Cho} {m : Int} {f : Nat} (hj : Jn cs ts) (h : totL cs = 0) : drainS ts f cs m = (cs, 0) := by
  cases f with
  | zero => rfl
  | succ f =>
    refine drain_none (.inr ?_)
    rcases takeI_spec cs ts 0 with ⟨_, h1⟩ | ⟨i, j, h1, _, _, _, h2⟩
    · exact h1
    · have := hj.live.1 h2; omega

theorem playC_jn {ts : List (Option Nat)} : ∀ {l : List Int} {cs : List Cho}, Jn cs ts → Jn (playC ts cs l) ts
  | [], _, h => h
  | p :: r, cs, h => playC_jn (l := r) (h.take p)
theorem playC_len {ts : List (Option Nat)} : ∀ (l : List Int) (cs : List Cho), (playC ts cs l).length = cs.length
  | [], _ => rfl
  | p :: r, cs => (playC_len r (takeC cs ts p)).trans (takeC_len cs ts p)

theorem map_of {cs : List Cho} {lf : List Int} (hl : lf.length = cs.length) (h : ∀ j, j < cs.length → lf[j]? = (cs[j]?).map (·.left)) : lf = cs.map (·.left) := by
  apply List.ext_getElem?
  intro j
  by_cases hj : j < cs.length
  · rw [h j hj, List.getElem?_map]
  · rw [List.getElem?_eq_none (by omega), List.getElem?_eq_none (by simp; omega)]
theorem set_step {cs : List Cho} {lf : List Int} {i : Nat} {d : Cho} (hi : i < lf.length) (hd : cs[i]? = some d) (h : ∀ j, j < i → lf[j]? = (cs[j]?).map (·.left)) : ∀ j, j < i + 1 → (lf.set i d.left)[j]? = (cs[j]?).map (·.left) := fun j hj => by
  rw [List.getElem?_set]
  split
  · rename_i e; subst e; rw [hd]; first | rfl | (rw [if_pos hi]; rfl)
  · first | exact h j (by omega) | (rename_i e; exact absurd e (by omega))
theorem takeV_lt {cs : List Cho} {ts : List (Option Nat)} {p : Int} (h : 0 ≤ takeV cs ts p) : takeV cs ts p < ((ts.length : Nat) : Int) := by
  rcases takeI_spec cs ts p with ⟨_, h1⟩ | ⟨i, j, h1, h2, _⟩
  · unfold takeV at h; rw [h1] at h; exact absurd h (by decide)
  · have := (List.getElem?_eq_some_iff.1 h2).1
    unfold takeV; rw [h1]; show ((i : Nat) : Int) < _; omega
theorem lf_next {cs cs' : List Cho} {lf : List Int} {k : Nat} {d e : Cho} (h4 : ∀ j, j < k → lf[j]? = (cs'[j]?).map (·.left)) (h5 : ∀ j, k ≤ j → lf[j]? = (cs[j]?).map (·.left)) (he : cs[k]? = some e) (hd : cs'[k]? = some d) (hz : e.left = d.left) : ∀ j, j < k + 1 → lf[j]? = (cs'[j]?).map (·.left) := fun j hj => by
  rcases Nat.lt_or_ge j k with h | h
  · exact h4 j h
  · obtain rfl : j = k := by omega
    rw [h5 j (Nat.le_refl _), hd, he]; exact congrArg some hz
/-- which chore took the step, if one did -/
def Who (cs cs' : List Cho) (n : Nat) (who : Int) : Prop := (who = -1 ∧ cs' = cs) ∨ ∃ j : Nat, who = ((j : Nat) : Int) ∧ j < n ∧ rdy cs j = true ∧ cs' = stepC cs j
theorem who_of {cs : List Cho} {n : Nat} {turn p : Int} (hw : WfC cs (mkTs n turn 0 n)) (h : 0 ≤ takeV cs (mkTs n turn 0 n) p) : Who cs (takeC cs (mkTs n turn 0 n) p) n (withinF (takeV cs (mkTs n turn 0 n) p + withinF turn (n : Int)) (n : Int)) := by
  rcases takeI_spec cs (mkTs n turn 0 n) p with ⟨_, h1⟩ | ⟨i, j, h1, h2, h3, h4, _⟩
  · unfold takeV at h; rw [h1] at h; exact absurd h (by decide)
  · have hv : takeV cs (mkTs n turn 0 n) p = ((i : Nat) : Int) := by unfold takeV; rw [h1]; rfl
    have hi := (List.getElem?_eq_some_iff.1 h2).1
    rw [mkTs_len] at hi
    rw [mkTs_at hi] at h2
    have h5 := withinF_in (n := ((0 + i : Nat) : Int) + withinF turn (n : Int)) (m := (n : Int)) (by omega)
    have h6 := Option.some.inj (Option.some.inj h2)
    rw [Nat.zero_add] at h5 h6
    rw [hv]
    exact .inr ⟨j, by omega, by omega, h3, h4⟩
theorem who_left {cs cs' : List Cho} {n : Nat} {who : Int} (h : Who cs cs' n who) {k : Nat} {d : Cho} (hd : cs'[k]? = some d) (hok : OkB cs) : ∃ c, cs[k]? = some c ∧ d.left = c.left - (if ((k : Nat) : Int) = who then 1 else 0) ∧ 0 ≤ d.left ∧ d.left ≤ 65536 ∧ 0 ≤ c.left ∧ c.left ≤ 65536 := by
  rcases h with ⟨rfl, rfl⟩ | ⟨j, rfl, _, hr, rfl⟩
  · have := hok k d hd
    exact ⟨d, hd, by rw [if_neg (by omega)]; omega, this.1, this.2.1, this.1, this.2.1⟩
  · unfold rdy at hr
    split at hr
    · rename_i c hc
      have hs : stepC cs j = cs.set j { c with left := c.left - 1 } := by unfold stepC; rw [hc]; simp only [hr, if_true]
      rw [hs, List.getElem?_set] at hd
      have hl : c.left ≠ 0 := by intro e; unfold rdyC at hr; rw [e] at hr; simp at hr
      split at hd
      · rename_i e; subst e
        split at hd
        · cases hd
          have := hok j c hc
          exact ⟨c, hc, by rw [if_pos rfl], by show 0 ≤ c.left - 1; omega, by show c.left - 1 ≤ 65536; omega, this.1, this.2.1⟩
        · cases hd
      · rename_i e
        have := hok k d hd
        exact ⟨d, hd, by rw [if_neg (by omega)]; omega, this.1, this.2.1, this.1, this.2.1⟩
    · cases hr
theorem who_len {cs cs' : List Cho} {n : Nat} {who : Int} (h : Who cs cs' n who) : cs'.length = cs.length := by
  rcases h with ⟨_, rfl⟩ | ⟨j, _, _, _, rfl⟩
  · rfl
  · exact stepC_len cs j
/-- behind whom each was made -/
def BhS (cs : List Cho) (l : List MakeR) : Prop := ∀ (i : Nat) (c : Cho), cs[i]? = some c → ∃ x, l[i]? = some x ∧ c.bh = bhF i x.bl
theorem mk_bhs (l : List MakeR) : BhS (mkCs 0 l) l := fun i c h => by
  obtain ⟨x, h1, rfl⟩ := mkCs_at h
  exact ⟨x, h1, by rw [Nat.zero_add]⟩
theorem BhS.take {cs : List Cho} {l : List MakeR} {ts : List (Option Nat)} (h : BhS cs l) (p : Int) : BhS (takeC cs ts p) l := by
  rcases takeI_spec cs ts p with ⟨_, h1⟩ | ⟨i, j, _, _, _, h1, _⟩
  · unfold takeC; rw [h1]; exact h
  · rw [h1]
    intro k c hc
    obtain ⟨d, h2, h3⟩ := stepC_at hc
    obtain ⟨x, h4, h5⟩ := h k d h2
    exact ⟨x, h4, h3.trans h5⟩
/-- those behind which it was made have ended -/
theorem who_ends {cs cs' : List Cho} {n k : Nat} {who b : Int} {l : List MakeR} {x : MakeR} (h : Who cs cs' n who) (h0 : 0 < who) (hb : BhS cs l) (hok : OkB cs) (hx : l[who.toNat]? = some x) (hk : x.bl[k]? = some b) (hl : cs.length = n) : (cs'.map (·.left))[(withinF b who).toNat]? = some 0 := by
  rcases h with ⟨rfl, _⟩ | ⟨j, rfl, hj, hr, rfl⟩
  · omega
  · have hw := withinF_in (n := b) (m := ((j : Nat) : Int)) (by omega)
    unfold rdy at hr
    split at hr
    · rename_i c hc
      have hs : stepC cs j = cs.set j { c with left := c.left - 1 } := by unfold stepC; rw [hc]; simp only [hr, if_true]
      obtain ⟨y, hy, hbh⟩ := hb j c hc
      rw [Int.toNat_natCast] at hx
      rw [hx] at hy; cases hy
      have hm : some (withinF b ((j : Nat) : Int)).toNat ∈ c.bh := by
        rw [hbh]; unfold bhF; rw [if_neg (by omega)]
        exact List.mem_map.2 ⟨b, List.mem_of_getElem? hk, rfl⟩
      simp only [rdyC, Bool.and_eq_true, List.all_eq_true] at hr
      have h2 := hr.2 _ hm
      have h3 := (hok j c hc).2.2 _ hm
      obtain ⟨d, hd⟩ : ∃ d, cs[(withinF b ((j : Nat) : Int)).toNat]? = some d := ⟨_, List.getElem?_eq_getElem h3⟩
      simp only [okb, leftOf_at hd, decide_eq_true_eq] at h2
      have h4 := (hok _ d hd).1
      rw [hs, List.getElem?_map, List.getElem?_set, if_neg (by omega), hd]
      show some d.left = some 0
      congr 1; omega
    · cases hr
end Go.Proofs.Ytiidihgimcebgaa.W
