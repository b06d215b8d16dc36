/- THE WALK KIT, second part: assertions with their blocks, contracts over them. -/
import Derived.Test.YtphllgfbjfajfaaWk
import Derived.RangeFuncNested
import Derived.Scope
namespace Go.Wk
set_option linter.unusedVariables false

/-! ## 23. What is owned: assertions, each with the blocks that it speaks of -/
structure HP where
  P : World → (Nat → Prop) → Prop
  lt : ∀ {w S}, P w S → ∀ b, S b → b < w.heap.size
  kp : ∀ {w S w' T}, P w S → Kp T w w' → (∀ b, S b → ¬ T b) → P w' S
def emp : HP := ⟨fun _ S => ∀ b, ¬ S b, fun h b hb => absurd hb (h b), fun h _ _ => h⟩
def getH : List HP → Nat → HP
  | [], _ => emp
  | A :: _, 0 => A
  | _ :: l, k + 1 => getH l k
def setH : List HP → Nat → HP → List HP
  | [], _, _ => []
  | _ :: l, 0, B => B :: l
  | A :: l, k + 1, B => A :: setH l k B
def pickH (l : List HP) (is : List Nat) : List HP := is.map (getH l)
/-- new assertions in the places of old ones; what is left over comes last -/
def putsH : List HP → List Nat → List HP → List HP
  | l, [], m => l ++ m
  | l, i :: is, [] => putsH (setH l i emp) is []
  | l, i :: is, A :: m => putsH (setH l i A) is m
structure OwnF (w : World) (F : Nat → Nat → Prop) (l : List HP) : Prop where
  at_ : ∀ i, (getH l i).P w (F i)
  sep : ∀ {i j b}, F i b → F j b → i = j
def Tot (F : Nat → Nat → Prop) : Nat → Prop := fun b => ∃ i, F i b
/-- From w0 to w nothing but S0 has turned, and what is new; R is only read, l is owned. -/
structure St (w0 : World) (S0 : Nat → Prop) (R : List HP) (w : World) (l : List HP) : Prop where
  own : ∃ F, OwnF w F l ∧ ∀ b, Tot F b → S0 b ∨ w0.heap.size ≤ b
  kpt : Kp S0 w0 w
  ro : ∀ i, ∃ S, (getH R i).P w S ∧ ∀ b, S b → ¬ S0 b ∧ b < w0.heap.size
/-- a contract -/
def Tr (P : Program) (k : FuncId) (vs : List Value) (R pre : List HP) (post : Value → List HP → Prop) : Prop :=
  ∀ w S0, St w S0 R w pre → Ret P k vs w fun v w' => ∃ l, post v l ∧ St w S0 R w' l
def fset (F : Nat → Nat → Prop) (i : Nat) (S : Nat → Prop) : Nat → Nat → Prop := fun j b => (j = i ∧ S b) ∨ (j ≠ i ∧ F j b)
theorem fset_same (F : Nat → Nat → Prop) (i : Nat) (S : Nat → Prop) : fset F i S i = S := by
  funext b; simp [fset]
theorem fset_ne (F : Nat → Nat → Prop) {i j : Nat} (S : Nat → Prop) (h : j ≠ i) : fset F i S j = F j := by
  funext b; simp [fset, h]
theorem getH_set_same : ∀ {l : List HP} {i : Nat} {A : HP}, i < l.length → getH (setH l i A) i = A
  | _ :: _, 0, _, _ => rfl
  | _ :: l, i + 1, A, h => getH_set_same (l := l) (Nat.lt_of_succ_lt_succ h)
theorem getH_set_ne : ∀ {l : List HP} {i j : Nat} {A : HP}, j ≠ i → getH (setH l i A) j = getH l j
  | [], _, _, _, _ => rfl
  | _ :: _, 0, 0, _, h => absurd rfl h
  | _ :: _, 0, _ + 1, _, _ => rfl
  | _ :: _, _ + 1, 0, _, _ => rfl
  | _ :: l, i + 1, j + 1, A, h => getH_set_ne (l := l) (fun e => h (congrArg (· + 1) e))
theorem setH_len : ∀ {l : List HP} {i : Nat} {A : HP}, (setH l i A).length = l.length
  | [], _, _ => rfl
  | _ :: _, 0, _ => rfl
  | _ :: l, i + 1, A => congrArg (· + 1) (setH_len (l := l))
theorem getH_emp : ∀ {l : List HP} {i : Nat}, l.length ≤ i → getH l i = emp
  | [], _, _ => rfl
  | _ :: l, 0, h => by simp at h
  | _ :: l, i + 1, h => getH_emp (l := l) (Nat.le_of_succ_le_succ h)
theorem getH_app : ∀ {l m : List HP} {i : Nat}, getH (l ++ m) i = if i < l.length then getH l i else getH m (i - l.length)
  | [], m, i => by simp
  | A :: l, m, 0 => by simp [getH]
  | A :: l, m, i + 1 => by
    show getH (l ++ m) i = _
    rw [getH_app]
    simp only [List.length_cons, Nat.add_lt_add_iff_right, Nat.add_sub_add_right]
    rfl
theorem getH_set_out {l : List HP} {i : Nat} {A : HP} (h : l.length ≤ i) : setH l i A = l := by
  induction l generalizing i with
  | nil => rfl
  | cons B l ih =>
    cases i with
    | zero => simp at h
    | succ i => simp only [setH]; rw [ih (Nat.le_of_succ_le_succ h)]
theorem setH_set : ∀ {l : List HP} {i : Nat} {A B : HP}, setH (setH l i A) i B = setH l i B
  | [], _, _, _ => rfl
  | _ :: _, 0, _, _ => rfl
  | C :: l, i + 1, _, _ => congrArg (C :: ·) (setH_set (l := l))
section
variable {w w' : World} {F : Nat → Nat → Prop} {l m R : List HP} {S0 S T : Nat → Prop} {w0 : World} {A B : HP}
theorem OwnF.emp_ (h : OwnF w F l) {i : Nat} (hi : getH l i = emp) : ∀ b, ¬ F i b := by
  have := h.at_ i; rw [hi] at this; exact this
theorem OwnF.set (h : OwnF w F l) {i : Nat} (hi : i < l.length) (hA : A.P w S) (hd : ∀ j, j ≠ i → ∀ b, F j b → ¬ S b) : OwnF w (fset F i S) (setH l i A) := by
  refine ⟨fun j => ?_, fun {j k b} h1 h2 => ?_⟩
  · by_cases e : j = i
    · subst e; rw [fset_same, getH_set_same hi]; exact hA
    · rw [fset_ne _ _ e, getH_set_ne e]; exact h.at_ j
  · rcases h1 with ⟨rfl, h1⟩ | ⟨e1, h1⟩ <;> rcases h2 with ⟨rfl, h2⟩ | ⟨e2, h2⟩
    · rfl
    · exact absurd h1 (hd _ e2 _ h2)
    · exact absurd h2 (hd _ e1 _ h1)
    · exact h.sep h1 h2
theorem OwnF.app (h : OwnF w F l) (hA : A.P w S) (hd : ∀ j b, F j b → ¬ S b) : OwnF w (fset F l.length S) (l ++ [A]) := by
  refine ⟨fun j => ?_, fun {j k b} h1 h2 => ?_⟩
  · by_cases e : j = l.length
    · subst e; rw [fset_same, getH_app, if_neg (Nat.lt_irrefl _), Nat.sub_self]; exact hA
    · rw [fset_ne _ _ e, getH_app]
      by_cases h1 : j < l.length
      · rw [if_pos h1]; exact h.at_ j
      · rw [if_neg h1]
        have := h.at_ j
        rw [getH_emp (by omega)] at this
        rw [getH_emp (by simp; omega)]; exact this
  · rcases h1 with ⟨rfl, h1⟩ | ⟨e1, h1⟩ <;> rcases h2 with ⟨rfl, h2⟩ | ⟨e2, h2⟩
    · rfl
    · exact absurd h1 (hd _ _ h2)
    · exact absurd h2 (hd _ _ h1)
    · exact h.sep h1 h2
theorem OwnF.kp (h : OwnF w F l) (hk : Kp T w w') (hd : ∀ b, Tot F b → ¬ T b) : OwnF w' F l :=
  ⟨fun i => (getH l i).kp (h.at_ i) hk (fun b hb => hd b ⟨i, hb⟩), h.sep⟩
theorem fset_tot {i : Nat} {b : Nat} (h : Tot (fset F i S) b) : Tot F b ∨ S b := by
  obtain ⟨j, ⟨_, h⟩ | ⟨_, h⟩⟩ := h
  · exact .inr h
  · exact .inl ⟨j, h⟩
/-- new ones m in the places is, which are empty -/
theorem OwnF.puts : ∀ (is : List Nat) {m : List HP} {l : List HP} {F G : Nat → Nat → Prop}, OwnF w F l → (∀ i ∈ is, i < l.length ∧ getH l i = emp) → is.Nodup → OwnF w G m → (∀ b, Tot F b → ¬ Tot G b) → ∃ F', OwnF w F' (putsH l is m) ∧ ∀ b, Tot F' b → Tot F b ∨ Tot G b
  | [], m, l, F, G, h, _, _, hm, hd => by
    have key : ∀ (m : List HP) (l : List HP) (F G : Nat → Nat → Prop), OwnF w F l → OwnF w G m → (∀ b, Tot F b → ¬ Tot G b) → ∃ F', OwnF w F' (l ++ m) ∧ ∀ b, Tot F' b → Tot F b ∨ Tot G b := by
      intro m
      induction m with
      | nil => intro l F G h hm hd; exact ⟨F, by simpa using h, fun b hb => .inl hb⟩
      | cons A m ih =>
        intro l F G h hm hd
        have h1 := h.app (A := A) (S := G 0) (hm.at_ 0) (fun j b hj hg => hd b ⟨j, hj⟩ ⟨0, hg⟩)
        obtain ⟨F', h2, h3⟩ := ih (l ++ [A]) _ (fun i => G (i + 1)) h1 ⟨fun i => hm.at_ (i + 1), fun a b => Nat.succ.inj (hm.sep a b)⟩ (fun b hb ⟨i, hg⟩ => by
          rcases fset_tot hb with hb | hb
          · exact hd b hb ⟨_, hg⟩
          · exact absurd (hm.sep hb hg) (by omega))
        refine ⟨F', by simpa using h2, fun b hb => ?_⟩
        rcases h3 b hb with hb | ⟨i, hb⟩
        · rcases fset_tot hb with hb | hb
          · exact .inl hb
          · exact .inr ⟨_, hb⟩
        · exact .inr ⟨_, hb⟩
    exact key m l F G h hm hd
  | i :: is, [], l, F, G, h, hi, hn, hm, hd => by
    have e : setH l i emp = l := by
      have := (hi i (by simp)).2
      clear h hi hm hd hn
      induction l generalizing i with
      | nil => rfl
      | cons A l ih =>
        cases i with
        | zero => simp only [getH] at this; rw [this]; rfl
        | succ i => simp only [setH]; rw [ih i this]
    simp only [putsH]; rw [e]
    exact OwnF.puts is h (fun j hj => hi j (by simp [hj])) (List.nodup_cons.1 hn).2 hm hd
  | i :: is, A :: m, l, F, G, h, hi, hn, hm, hd => by
    simp only [putsH]
    have h0 := hi i (by simp)
    have h1 := h.set (A := A) (S := G 0) h0.1 (hm.at_ 0) (fun j _ b hj hg => hd b ⟨j, hj⟩ ⟨0, hg⟩)
    obtain ⟨F', h2, h3⟩ := OwnF.puts is h1 (fun j hj => by
        have hne : j ≠ i := fun e => (List.nodup_cons.1 hn).1 (e ▸ hj)
        have := hi j (by simp [hj])
        exact ⟨by rw [setH_len]; exact this.1, by rw [getH_set_ne hne]; exact this.2⟩) (List.nodup_cons.1 hn).2 (G := fun i => G (i + 1)) ⟨fun i => hm.at_ (i + 1), fun a b => Nat.succ.inj (hm.sep a b)⟩ (fun b hb ⟨q, hg⟩ => by
        rcases fset_tot hb with hb | hb
        · exact hd b hb ⟨_, hg⟩
        · exact absurd (hm.sep hb hg) (by omega))
    refine ⟨F', h2, fun b hb => ?_⟩
    rcases h3 b hb with hb | ⟨q, hb⟩
    · rcases fset_tot hb with hb | hb
      · exact .inl hb
      · exact .inr ⟨_, hb⟩
    · exact .inr ⟨_, hb⟩
def clearH (l : List HP) : List Nat → List HP
  | [] => l
  | i :: is => clearH (setH l i emp) is
theorem putsH_clear (is : List Nat) (l m : List HP) (hn : is.Nodup) : putsH (clearH l is) is m = putsH l is m := by
    have set_set : ∀ {l : List HP} {i : Nat} {A B : HP}, setH (setH l i A) i B = setH l i B := by
      intro l
      induction l with
      | nil => intros; rfl
      | cons C l ih => intro i A B; cases i with
        | zero => rfl
        | succ i => simp only [setH]; rw [ih]
    have set_comm : ∀ {l : List HP} {i j : Nat} {A B : HP}, i ≠ j → setH (setH l i A) j B = setH (setH l j B) i A := by
      intro l
      induction l with
      | nil => intros; rfl
      | cons C l ih => intro i j A B h; cases i with
        | zero => cases j with
          | zero => exact absurd rfl h
          | succ j => rfl
        | succ i => cases j with
          | zero => rfl
          | succ j => simp only [setH]; rw [ih (fun e => h (congrArg _ e))]
    have cl : ∀ (is : List Nat) (l : List HP) (i : Nat) (A : HP), i ∉ is → setH (clearH l is) i A = clearH (setH l i A) is := by
      intro is
      induction is with
      | nil => intros; rfl
      | cons j is ih =>
        intro l i A h
        simp only [clearH]
        rw [ih _ _ _ (fun h' => h (by simp [h'])), set_comm (fun e => h (by simp [e]))]
    induction is generalizing l m with
    | nil => rfl
    | cons i is ih =>
      have h1 := List.nodup_cons.1 hn
      have ih := fun l m => ih l m h1.2
      cases m with
      | nil => simp only [putsH, clearH]; rw [cl _ _ _ _ h1.1, set_set, ih]
      | cons A m => simp only [putsH, clearH]; rw [cl _ _ _ _ h1.1, set_set, ih]
theorem OwnF.clear (is : List Nat) {F : Nat → Nat → Prop} {l : List HP} (h : OwnF w F l) : ∃ F', OwnF w F' (clearH l is) ∧ (∀ i, i ∉ is → F' i = F i) ∧ (∀ i ∈ is, ∀ b, ¬ F' i b) ∧ (∀ i b, F' i b → F i b) := by
  induction is generalizing F l with
  | nil => exact ⟨F, h, fun _ _ => rfl, fun i hi => by simp at hi, fun _ _ h => h⟩
  | cons i is ih =>
    by_cases hi : i < l.length
    · obtain ⟨F', h1, h2, h3, h4⟩ := ih (h.set (A := emp) (S := fun _ => False) hi (fun _ h => h) (fun _ _ _ _ h => h))
      refine ⟨F', h1, fun j hj => ?_, fun j hj b hb => ?_, fun j b hb => ?_⟩
      · have h5 : j ∉ is := fun h' => hj (by simp [h'])
        have h6 : j ≠ i := fun e => hj (by simp [e])
        rw [h2 j h5, fset_ne _ _ h6]
      · by_cases hj' : j ∈ is
        · exact h3 j hj' b hb
        · have : j = i := by simpa [hj'] using hj
          subst this
          rw [h2 j hj', fset_same] at hb; exact hb
      · have := h4 j b hb
        rcases this with ⟨_, h⟩ | ⟨_, h⟩
        · exact h.elim
        · exact h
    · obtain ⟨F', h1, h2, h3, h4⟩ := ih h
      refine ⟨F', by simp only [clearH]; rw [getH_set_out (by omega)]; exact h1, fun j hj => h2 j (fun h' => hj (by simp [h'])), fun j hj b hb => ?_, h4⟩
      by_cases hj' : j ∈ is
      · exact h3 j hj' b hb
      · have : j = i := by simpa [hj'] using hj
        subst this
        rw [h2 j hj'] at hb
        have := h.emp_ (getH_emp (by omega : l.length ≤ j)) b
        exact this hb
theorem getH_pick (l : List HP) (is : List Nat) (i : Nat) : getH (pickH l is) i = match is[i]? with | some j => getH l j | none => emp := by
  induction is generalizing i with
  | nil => rfl
  | cons a is ih => cases i with
    | zero => rfl
    | succ i => show getH (pickH l is) i = _; rw [ih]; simp
theorem OwnF.pick (hF : OwnF w F l) (is : List Nat) (hn : is.Nodup) : OwnF w (fun i b => ∃ j, is[i]? = some j ∧ F j b) (pickH l is) := by
  refine ⟨fun i => ?_, fun {i j b} ⟨a, ha, h1⟩ ⟨c, hc, h2⟩ => ?_⟩
  · rw [getH_pick]
    cases e : is[i]? with
    | none => intro b ⟨j, hj, _⟩; simp at hj
    | some j =>
      have : (fun b => ∃ j_1, some j = some j_1 ∧ F j_1 b) = F j := by funext b; simp
      simp only
      rw [this]; exact hF.at_ j
  · have := hF.sep h1 h2
    subst this
    exact nd_inj hn ha hc
theorem clearH_len : ∀ {is : List Nat} {l : List HP}, (clearH l is).length = l.length
  | [], _ => rfl
  | i :: is, l => (clearH_len (is := is)).trans setH_len
theorem clearH_get : ∀ {is : List Nat} {l : List HP} {i : Nat}, i < l.length → i ∈ is → getH (clearH l is) i = emp
  | j :: is, l, i, hl, hi => by
    by_cases h : i ∈ is
    · exact clearH_get (is := is) (l := setH l j emp) (by rw [setH_len]; exact hl) h
    · have e : i = j := by simpa [h] using hi
      subst e
      have : ∀ (is : List Nat) (l : List HP), i ∉ is → getH (clearH l is) i = getH l i := by
        intro is
        induction is with
        | nil => intros; rfl
        | cons k is ih => intro l h; simp only [clearH]; rw [ih _ (fun h' => h (by simp [h'])), getH_set_ne (fun e => h (by simp [e]))]
      simp only [clearH]; rw [this is _ h, getH_set_same hl]
end
/-- where what is only read lies: owned, or read already -/
def Le (A B : HP) : Prop := ∀ w S, A.P w S → ∃ S', B.P w S' ∧ ∀ b, S' b → S b
theorem Le.rfl {A : HP} : Le A A := fun _ S h => ⟨S, h, fun _ h => h⟩
theorem Le.of_eq {A B : HP} (h : A = B) : Le A B := h ▸ Le.rfl
theorem Le.trans {A B C : HP} (h : Le A B) (k : Le B C) : Le A C := fun w S hA => let ⟨S1, h1, h2⟩ := h w S hA; let ⟨S2, h3, h4⟩ := k w S1 h1; ⟨S2, h3, fun b hb => h2 b (h4 b hb)⟩
inductive Src (R l : List HP) (is : List Nat) : List HP → Prop
  | nil : Src R l is []
  | own {B : HP} {r : List HP} (j : Nat) (hj : is.contains j = false) (hl : Le (getH l j) B) (h : Src R l is r) : Src R l is (B :: r)
  | ro {B : HP} {r : List HP} (j : Nat) (hl : Le (getH R j) B) (h : Src R l is r) : Src R l is (B :: r)
  | non {B : HP} {r : List HP} (hl : Le Go.Wk.emp B) (h : Src R l is r) : Src R l is (B :: r)
section
variable {P : Program} {w w' w0 : World} {F : Nat → Nat → Prop} {l m R R' : List HP} {S0 S T : Nat → Prop} {A B : HP}
theorem St.keep (H : St w0 S0 R w l) (hk : Kp none_ w w') : St w0 S0 R w' l :=
  ⟨let ⟨F, h1, h2⟩ := H.own; ⟨F, h1.kp hk (fun _ _ h => h), h2⟩, H.kpt.comp hk (fun _ _ h => h.elim), fun i => let ⟨S, h1, h2⟩ := H.ro i; ⟨S, (getH R i).kp h1 hk (fun _ _ h => h), h2⟩⟩
theorem St.start (h : OwnF w F l) (hr : ∀ i, ∃ S, (getH R i).P w S ∧ ∀ b, S b → ¬ Tot F b) : St w (Tot F) R w l :=
  ⟨⟨F, h, fun _ h => .inl h⟩, Kp.refl w, fun i => let ⟨S, h1, h2⟩ := hr i; ⟨S, h1, fun b hb => ⟨h2 b hb, (getH R i).lt h1 b hb⟩⟩⟩
theorem Src.get : ∀ {is : List Nat} {R' : List HP}, Src R l is R' → OwnF w F l → (∀ i, ∃ S, (getH R i).P w S ∧ ∀ b, S b → ¬ Tot F b) → ∀ i, ∃ S, (getH R' i).P w S ∧ ∀ b, S b → ∀ j ∈ is, ¬ F j b
  | _, _, .nil, _, _ => fun i => ⟨fun _ => False, fun _ h => h, fun _ h => h.elim⟩
  | _, _, .own j hj hl h, ho, hr => fun i => by
    cases i with
    | zero =>
      obtain ⟨S', h1, h2⟩ := hl w _ (ho.at_ j)
      refine ⟨S', h1, fun b hb k hk hb2 => ?_⟩
      have e := ho.sep (h2 b hb) hb2
      subst e
      rw [List.contains_eq_mem, decide_eq_false_iff_not] at hj
      exact hj hk
    | succ i => exact Src.get h ho hr i
  | _, _, .ro j hl h, ho, hr => fun i => by
    cases i with
    | zero =>
      obtain ⟨S, h3, h4⟩ := hr j
      obtain ⟨S', h1, h2⟩ := hl w _ h3
      exact ⟨S', h1, fun b hb k _ hb2 => h4 b (h2 b hb) ⟨k, hb2⟩⟩
    | succ i => exact Src.get h ho hr i
  | _, _, .non hl h, ho, hr => fun i => by
    cases i with
    | zero =>
      obtain ⟨S', h1, h2⟩ := hl w (fun _ => False) (fun _ h => h)
      exact ⟨S', h1, fun b hb => (h2 b hb).elim⟩
    | succ i => exact Src.get h ho hr i
/-- The call: what it owns stands at the places is; what it only reads lies elsewhere. -/
theorem Tr.call {k : FuncId} {vs : List Value} {pre : List HP} {post : Value → List HP → Prop} (h : Tr P k vs R' pre post) (H : St w0 S0 R w l) (is : List Nat) (hn : is.Nodup) (hlt : ∀ i ∈ is, i < l.length) (hp : pickH l is = pre) (hs : Src R l is R') :
    Ret P k vs w fun v w' => ∃ m, post v m ∧ St w0 S0 R w' (putsH l is m) := by
  obtain ⟨F, hF, hS⟩ := H.own
  subst hp
  -- the part that is handed over
  obtain ⟨G, hG⟩ : ∃ G : Nat → Nat → Prop, G = fun i b => ∃ j, is[i]? = some j ∧ F j b := ⟨_, rfl⟩
  have hOG : OwnF w G (pickH l is) := hG ▸ hF.pick is hn
  have hGF : ∀ b, Tot G b ↔ ∃ j ∈ is, F j b := by
    intro b; rw [hG]
    constructor
    · rintro ⟨i, j, hj, hb⟩; exact ⟨j, List.mem_of_getElem? hj, hb⟩
    · rintro ⟨j, hj, hb⟩
      obtain ⟨i, hi⟩ := List.mem_iff_getElem?.1 hj
      exact ⟨i, j, hi, hb⟩
  have hro := H.ro
  have hsrc := hs.get hF (fun i => let ⟨S, h1, h2⟩ := hro i; ⟨S, h1, fun b hb hT => by
    have h3 := h2 b hb
    rcases hS b hT with h4 | h4
    · exact h3.1 h4
    · omega⟩)
  have hst : St w (Tot G) R' w (pickH l is) := St.start hOG (fun i => let ⟨S, h1, h2⟩ := hsrc i; ⟨S, h1, fun b hb hT => by
    obtain ⟨j, hj, hb2⟩ := (hGF b).1 hT
    exact h2 b hb j hj hb2⟩)
  refine (h w (Tot G) hst).mono fun v w' ⟨m, hpost, H'⟩ => ⟨m, hpost, ?_⟩
  obtain ⟨F1, c1, c2, c3, c4⟩ := hF.clear (is := is)
  have hdis : ∀ b, Tot F1 b → ¬ Tot G b := by
    rintro b ⟨i, hi⟩ hT
    obtain ⟨j, hj, hb⟩ := (hGF b).1 hT
    have := hF.sep (c4 i b hi) hb
    subst this
    exact c3 _ hj _ hi
  have hlt1 : ∀ b, Tot F1 b → b < w.heap.size := fun b ⟨i, hi⟩ => (getH _ i).lt (c1.at_ i) b hi
  have hk := H'.kpt
  have c1' := c1.kp hk hdis
  obtain ⟨F2, hF2, hS2⟩ := H'.own
  obtain ⟨F3, d1, d2⟩ := OwnF.puts is (m := m) c1' (fun i hi => ⟨by rw [clearH_len]; exact hlt i hi, clearH_get (hlt i hi) hi⟩) hn hF2 (fun b hb hb2 => by
    rcases hS2 b hb2 with h3 | h3
    · exact hdis b hb h3
    · have := hlt1 b hb; omega)
  rw [putsH_clear _ _ _ hn] at d1
  have hGS : ∀ b, Tot G b → S0 b ∨ w0.heap.size ≤ b := fun b hb => by
    obtain ⟨j, _, hb⟩ := (hGF b).1 hb
    exact hS b ⟨j, hb⟩
  refine ⟨⟨F3, d1, fun b hb => ?_⟩, H.kpt.comp hk (fun b hb hT => ?_), fun i => ?_⟩
  · rcases d2 b hb with ⟨i, h3⟩ | h3
    · exact hS b ⟨i, c4 i b h3⟩
    · rcases hS2 b h3 with h3 | h3
      · exact hGS b h3
      · exact .inr (Nat.le_trans H.kpt.size h3)
  · rcases hGS b hT with h3 | h3
    · exact h3
    · omega
  · obtain ⟨S, h3, h4⟩ := hro i
    refine ⟨S, (getH R i).kp h3 hk (fun b hb hT => ?_), h4⟩
    have h5 := h4 b hb
    rcases hGS b hT with h6 | h6
    · exact h5.1 h6
    · omega
/-- what is owned at the places is, said in other words -/
theorem St.conv (H : St w0 S0 R w l) (is : List Nat) (m : List HP) (hn : is.Nodup) (hlt : ∀ i ∈ is, i < l.length) (hc : ∀ F, OwnF w F (pickH l is) → ∃ F', OwnF w F' m ∧ ∀ b, Tot F' b → Tot F b) : St w0 S0 R w (putsH l is m) := by
  obtain ⟨F, hF, hS⟩ := H.own
  obtain ⟨F1, c1, c2, c3, c4⟩ := hF.clear (is := is)
  obtain ⟨G, hG⟩ : ∃ G : Nat → Nat → Prop, G = fun i b => ∃ j, is[i]? = some j ∧ F j b := ⟨_, rfl⟩
  have hOG : OwnF w G (pickH l is) := hG ▸ hF.pick is hn
  obtain ⟨G', g1, g2⟩ := hc G hOG
  have hGF : ∀ b, Tot G b → ∃ j ∈ is, F j b := by
    intro b; rw [hG]
    rintro ⟨i, j, hj, hb⟩; exact ⟨j, List.mem_of_getElem? hj, hb⟩
  obtain ⟨F3, d1, d2⟩ := OwnF.puts is (m := m) c1 (fun i hi => ⟨by rw [clearH_len]; exact hlt i hi, clearH_get (hlt i hi) hi⟩) hn g1 (fun b ⟨i, hb⟩ hb2 => by
    obtain ⟨j, hj, hb3⟩ := hGF b (g2 b hb2)
    have := hF.sep (c4 i b hb) hb3
    subst this
    exact c3 _ hj _ hb)
  rw [putsH_clear _ _ _ hn] at d1
  refine ⟨⟨F3, d1, fun b hb => ?_⟩, H.kpt, H.ro⟩
  rcases d2 b hb with ⟨i, h3⟩ | h3
  · exact hS b ⟨i, c4 i b h3⟩
  · obtain ⟨j, _, h4⟩ := hGF b (g2 b h3)
    exact hS b ⟨j, h4⟩
/-- in another order, some left out -/
theorem St.pick (H : St w0 S0 R w l) (is : List Nat) (hn : is.Nodup) : St w0 S0 R w (pickH l is) := by
  obtain ⟨F, hF, hS⟩ := H.own
  exact ⟨⟨_, hF.pick is hn, fun b ⟨i, j, _, hb⟩ => hS b ⟨j, hb⟩⟩, H.kpt, H.ro⟩
theorem St.get (H : St w0 S0 R w l) (k : Nat) (hA : getH l k = A) : ∃ S, A.P w S := let ⟨F, h, _⟩ := H.own; ⟨F k, hA ▸ h.at_ k⟩
theorem St.getR (H : St w0 S0 R w l) (k : Nat) (hA : getH R k = A) : ∃ S, A.P w S := let ⟨S, h, _⟩ := H.ro k; ⟨S, hA ▸ h⟩
/-- one of them has turned -/
theorem St.upd (H : St w0 S0 R w l) (k : Nat) (hA : getH l k = A) (hlt : k < l.length) (hw : Kp T w w') (hT : ∀ S, A.P w S → ∀ b, b < w.heap.size → T b → S b) (hB : ∀ S, A.P w S → ∃ S', B.P w' S' ∧ ∀ b, S' b → S b ∨ w.heap.size ≤ b) : St w0 S0 R w' (setH l k B) := by
  obtain ⟨F, hF, hS⟩ := H.own
  have hk := hA ▸ hF.at_ k
  obtain ⟨S', h1, h2⟩ := hB _ hk
  have hlt' : ∀ i b, F i b → b < w.heap.size := fun i b hb => (getH l i).lt (hF.at_ i) b hb
  have hT' : ∀ b, b < w.heap.size → T b → F k b := hT _ hk
  -- the others stand
  have hF0 : OwnF w (fset F k (fun _ => False)) (setH l k emp) := hF.set hlt (fun _ h => h) (fun _ _ _ _ h => h)
  have hF1 : OwnF w' (fset F k (fun _ => False)) (setH l k emp) := by
    refine hF0.kp hw fun b ⟨i, hb⟩ hTb => ?_
    rcases hb with ⟨_, hb⟩ | ⟨hne, hb⟩
    · exact hb
    · exact hne (hF.sep hb (hT' b (hlt' i b hb) hTb))
  have hF2 := hF1.set (i := k) (A := B) (S := S') (by rw [setH_len]; exact hlt) h1 (fun j hj b hb hs => by
    rcases hb with ⟨hb, _⟩ | ⟨_, hb⟩
    · exact hj hb
    · rcases h2 b hs with h3 | h3
      · exact hj (hF.sep hb h3)
      · have := hlt' j b hb; omega)
  have e : setH (setH l k emp) k B = setH l k B := setH_set
  rw [e] at hF2
  have hTS : ∀ b, b < w0.heap.size → T b → S0 b := fun b hb hTb => by
    have hb' : b < w.heap.size := Nat.lt_of_lt_of_le hb H.kpt.size
    rcases hS b ⟨k, hT' b hb' hTb⟩ with h3 | h3
    · exact h3
    · omega
  refine ⟨⟨_, hF2, fun b hb => ?_⟩, H.kpt.comp hw hTS, fun i => ?_⟩
  · rcases fset_tot hb with hb | hb
    · rcases fset_tot hb with hb | hb
      · exact hS b hb
      · exact hb.elim
    · rcases h2 b hb with h3 | h3
      · exact hS b ⟨k, h3⟩
      · exact .inr (Nat.le_trans H.kpt.size h3)
  · obtain ⟨S, h3, h4⟩ := H.ro i
    exact ⟨S, (getH R i).kp h3 hw (fun b hb hTb => (h4 b hb).1 (hTS b (h4 b hb).2 hTb)), h4⟩
/-- something new -/
theorem St.new (H : St w0 S0 R w l) (hw : Kp none_ w w') (hB : B.P w' S) (hS : ∀ b, S b → w.heap.size ≤ b) : St w0 S0 R w' (l ++ [B]) := by
  obtain ⟨F, hF, hS0⟩ := H.own
  have hF1 := hF.kp hw (fun _ _ h => h)
  have hF2 := hF1.app hB (fun j b hb hs => by
    have := (getH l j).lt (hF.at_ j) b hb
    have := hS b hs
    omega)
  refine ⟨⟨_, hF2, fun b hb => ?_⟩, H.kpt.comp hw (fun _ _ h => h.elim), fun i => ?_⟩
  · rcases fset_tot hb with hb | hb
    · exact hS0 b hb
    · exact .inr (Nat.le_trans H.kpt.size (hS b hb))
  · obtain ⟨S, h3, h4⟩ := H.ro i
    exact ⟨S, (getH R i).kp h3 hw (fun _ _ h => h), h4⟩
end
end Go.Wk

namespace Go.Wk
set_option linter.unusedVariables false

/-! ## 24. The kinds of assertions -/
def ab : Option Addr → Nat
  | some x => x.block
  | none => 0
def ao : Option Addr → Nat
  | some x => x.off
  | none => 0
def blkH (b : Nat) (A : Array Value) (e : TypeId) : HP := ⟨fun w S => Blk w b (.cells A e (0, 0)) ∧ ∀ x, S x ↔ x = b, fun h x hx => (h.2 x).1 hx ▸ h.1.lt, fun h hk hd => ⟨h.1.kp hk (hd _ ((h.2 _).2 rfl)), h.2⟩⟩
section
variable {α β : Type}
/-- a slice of its own: address, length, capacity, elements -/
def slH (enc : α → List Value) (sz : Nat) (e : TypeId) (a : Option Addr) (n c : Nat) (l : List α) : HP :=
  ⟨fun w S => n = l.length ∧ ((a = none ∧ c = 0 ∧ l = [] ∧ ∀ x, ¬ S x) ∨ ∃ b o, a = some ⟨b, o, none⟩ ∧ SlAt enc sz e w b o c l ∧ ∀ x, S x ↔ x = b),
   fun h x hx => by
    obtain ⟨_, ⟨_, _, _, h⟩ | ⟨b, o, _, h, hs⟩⟩ := h
    · exact absurd hx (h x)
    · exact (hs x).1 hx ▸ h.lt,
   fun h hk hd => by
    obtain ⟨hn, h | ⟨b, o, h1, h2, hs⟩⟩ := h
    · exact ⟨hn, .inl h⟩
    · exact ⟨hn, .inr ⟨b, o, h1, h2.kp hk (hd _ ((hs _).2 rfl)), hs⟩⟩⟩
/-- a slice that is read -/
def rdH (enc : α → List Value) (sz : Nat) (a : Option Addr) (n c : Nat) (l : List α) : HP :=
  ⟨fun w S => n = l.length ∧ Rd enc sz w S (.slice a n c) l ∧ ∀ x, S x → x < w.heap.size, fun h x hx => h.2.2 x hx, fun h hk hd => ⟨h.1, h.2.1.kp hk hd, fun x hx => Nat.lt_of_lt_of_le (h.2.2 x hx) hk.size⟩⟩
def mapH (ek : α → Value) (ev : β → Value) (r : Nat) (l : List (α × β)) : HP :=
  ⟨fun w S => Mp ek ev w r l ∧ ∀ x, S x ↔ x = r, fun h x hx => (h.2 x).1 hx ▸ h.1.lt, fun h hk hd => ⟨h.1.kp hk (hd _ ((h.2 _).2 rfl)), h.2⟩⟩
def itH (ek : α → Value) (ev : β → Value) (ri rm : Nat) (l done : List (α × β)) : HP :=
  ⟨fun w S => It ek ev w ri rm l done ∧ ∀ x, S x ↔ (x = ri ∨ x = rm), fun h x hx => by have := h.1.lt; rcases (h.2 x).1 hx with rfl | rfl <;> omega, fun h hk hd => ⟨h.1.kp hk (fun y hy => hd y ((h.2 y).2 hy)), h.2⟩⟩
end
/-- several as one -/
def allH (m : List HP) : HP :=
  ⟨fun w S => ∃ F, OwnF w F m ∧ ∀ b, S b ↔ Tot F b, fun ⟨F, h, hs⟩ b hb => let ⟨i, hi⟩ := (hs b).1 hb; (getH m i).lt (h.at_ i) b hi, fun ⟨F, h, hs⟩ hk hd => ⟨F, h.kp hk (fun b hb => hd b ((hs b).2 hb)), hs⟩⟩
/-- something hidden: a value of which φ holds, and what is owned beside it -/
def repH {α : Type} (φ : α → Prop) (L : α → List HP) : HP :=
  ⟨fun w S => ∃ x, φ x ∧ (allH (L x)).P w S, fun ⟨x, _, h⟩ => (allH (L x)).lt h, fun ⟨x, h1, h2⟩ hk hd => ⟨x, h1, (allH (L x)).kp h2 hk hd⟩⟩
section
variable {α β : Type} {enc : α → List Value} {sz : Nat} {e : TypeId} {w w0 w' : World} {a : Option Addr} {n c : Nat} {l : List α} {S S0 : Nat → Prop} {R H' : List HP} {L : List HP} {A : Array Value} {b : Nat} {ek : α → Value} {ev : β → Value} {r : Nat} {ms : List (α × β)}
theorem slH_rd : Le (slH enc sz e a n c l) (rdH enc sz a n c l) := fun w S h => by
  refine ⟨S, ?_, fun _ h => h⟩
  obtain ⟨hn, ⟨rfl, rfl, rfl, h⟩ | ⟨b, o, rfl, h2, hs⟩⟩ := h
  · subst hn; exact ⟨rfl, Rd.nil _ _, fun x hx => absurd hx (h x)⟩
  · subst hn; exact ⟨rfl, h2.rd ((hs b).2 rfl), fun x hx => (hs x).1 hx ▸ h2.lt⟩
theorem St.blk (H : St w0 S0 R w L) (k : Nat) (hA : getH L k = blkH b A e) : Blk w b (.cells A e (0, 0)) := let ⟨_, h⟩ := H.get k hA; h.1
theorem St.map (H : St w0 S0 R w L) (k : Nat) (hA : getH L k = mapH ek ev r ms) : Mp ek ev w r ms := let ⟨_, h⟩ := H.get k hA; h.1
theorem St.rdO (H : St w0 S0 R w L) (k : Nat) (hA : Le (getH L k) (rdH enc sz a n c l)) : ∃ S, (rdH enc sz a n c l).P w S := let ⟨S, h⟩ := H.get k rfl; let ⟨S', h', _⟩ := hA w S h; ⟨S', h'⟩
theorem St.rdR (H : St w0 S0 R w L) (k : Nat) (hA : Le (getH R k) (rdH enc sz a n c l)) : ∃ S, (rdH enc sz a n c l).P w S := let ⟨S, h⟩ := H.getR k rfl; let ⟨S', h', _⟩ := hA w S h; ⟨S', h'⟩
theorem rd_len (h : ∃ S, (rdH enc sz a n c l).P w S) : n = l.length ∧ n ≤ c := by
  obtain ⟨S, h1, ⟨a', c', h2, h3, _⟩, _⟩ := h
  cases h2; exact ⟨h1, by omega⟩
theorem rd_at (h : ∃ S, (rdH enc sz a n c l).P w S) (hp : 0 < n) : a = some ⟨ab a, ao a, none⟩ := by
  obtain ⟨S, h1, ⟨a', c', h2, h3, h4⟩, _⟩ := h
  cases h2
  obtain ⟨b, o, h5, _⟩ := h4 (by omega)
  rw [h5]; rfl
/-- the cells of an element -/
theorem rd_el (h : ∃ S, (rdH enc sz a n c l).P w S) {i : Nat} {x : α} (hx : l[i]? = some x) : ∀ j u, (enc x)[j]? = some u → w.cell? ⟨ab a, ao a + i * sz + j, none⟩ = some u := by
  obtain ⟨S, h1, ⟨a', c', h2, h3, h4⟩, _⟩ := h
  cases h2
  have hi := (List.getElem?_eq_some_iff.1 hx).1
  obtain ⟨b, o, h5, h6, h7, h8⟩ := h4 (by omega)
  rw [h5]; exact h8 i x hx
theorem rd_Rd (h : ∃ S, (rdH enc sz a n c l).P w S) : ∃ G, Rd enc sz w G (.slice a n c) l := let ⟨S, _, h, _⟩ := h; ⟨S, h⟩
/-- slices of slices -/
def dropA (a : Option Addr) (sz k c : Nat) : Option Addr := if c = k then a else a.map (·.add (k * sz))
theorem rdH_take (k : Nat) (hk : k ≤ n) : Le (rdH enc sz a n c l) (rdH enc sz a k c (l.take k)) := fun w S ⟨h1, h2, h3⟩ =>
  ⟨S, ⟨by simp; omega, h2.take k (by omega), h3⟩, fun _ h => h⟩
theorem rdH_drop (k : Nat) (hk : k ≤ n) : Le (rdH enc sz a n c l) (rdH enc sz (dropA a sz k c) (n - k) (c - k) (l.drop k)) := fun w S ⟨h1, h2, h3⟩ => by
  refine ⟨S, ⟨by simp; omega, ?_, h3⟩, fun _ h => h⟩
  obtain ⟨a', c', h4, h5, h6⟩ := h2
  cases h4
  refine ⟨dropA a sz k c, c - k, ?_, by simp; omega, fun hp => ?_⟩
  · rw [List.length_drop]
  · simp only [List.length_drop] at hp
    obtain ⟨b, o, h7, h8, h9, h10⟩ := h6 (by omega)
    refine ⟨b, o + k * sz, ?_, h8, h9, fun i x hx j u hu => ?_⟩
    · unfold dropA; rw [if_neg (by omega), h7]; simp [add_at]
    · rw [List.getElem?_drop] at hx
      have := h10 (k + i) x hx j u hu
      rw [Nat.add_mul] at this
      rw [Nat.add_assoc o]; exact this
end
section
variable {P : Program} {n : NN} {f : Nat → Value} {w w0 : World} {S0 : Nat → Prop} {R L : List HP} {Q : Exit → Act → World → Prop} {ops : Array Oper} {rest : List Oper} {d : Option Nat} {ty : TypeId} {ps : String} {es : Array Edge} {α β : Type} {enc : α → List Value} {sz : Nat}
theorem rf_indexAddrH {t e : TypeId} {x ix : Operand} {a : Option Addr} {len cap : Nat} {l : List α} {k : IntKind} {i : Int} {z : Option Value} {bytes : Nat} (hu : P.underlying t = some (.slice e)) (hi : TI P e z sz bytes) (hx : okx n x = true) (hix : okx n ix = true)
    (hv : ev f x = .slice a len cap) (hiv : ev f ix = .int k i) (h0 : 0 ≤ i) (h1 : i < len) (hr : ∃ S, (rdH enc sz a len cap l).P w S) :
    (execOp (fr n f).eval ⟨d, .indexAddr t x ix, ty, ps, es, none⟩).run P w = .ok (.value (.pointer (some ⟨ab a, ao a + i.toNat * sz, none⟩))) w :=
  rf_indexAddr hu hi hx hix (hv.trans (by rw [rd_at hr (by omega)]; rfl)) hiv h0 h1
/-- the walk's state behind an operation that turns one assertion -/
theorem wl_storeH (H : St w0 S0 R w L) (k : Nat) {t : TypeId} {x y : Operand} {v : Value} {z : Option Value} {bytes b o : Nat} {A A' : Array Value} {e : TypeId} (hA : getH L k = blkH b A e) (hlt : Nat.blt k L.length = true) (hi : TI P t z 1 bytes) (hx : okx n x = true) (hy : okx n y = true) (hv : ev f x = .pointer (some ⟨b, o, none⟩)) (hw : ev f y = v) (h1 : v.oneCell' = true)
    (ho : o < A.size) (hA' : A.setIfInBounds o v = A') (h : ∀ w', St w0 S0 R w' (setH L k (blkH b A' e)) → WL P ops Q rest n (putD f d undef) w') :
    WL P ops Q (⟨d, .store t x y, ty, ps, es, none⟩ :: rest) n f w := by
  subst hA'
  exact wl_store hi hx hy hv hw h1 (H.blk k hA) ho fun w' hk hb => h w' (H.upd k hA (Nat.lt_of_succ_le (Nat.le_of_ble_eq_true hlt)) hk (fun S hS x _ hx => (hS.2 x).2 hx) (fun S hS => ⟨S, ⟨hb, hS.2⟩, fun b hb => .inl hb⟩))
theorem wl_storeAggH (H : St w0 S0 R w L) (k : Nat) {t : TypeId} {x y : Operand} {cs : List Value} {z : Option Value} {size bytes b o : Nat} {A A' : Array Value} {e : TypeId} (hA : getH L k = blkH b A e) (hlt : Nat.blt k L.length = true) (hi : TI P t z size bytes) (hx : okx n x = true) (hy : okx n y = true) (hv : ev f x = .pointer (some ⟨b, o, none⟩)) (hw : ev f y = .agg cs.toArray) (hl : cs.length = size) (h1 : ∀ u ∈ cs, u.oneCell' = true)
    (ho : o + size ≤ A.size) (hA' : spl A o cs = A') (h : ∀ w', St w0 S0 R w' (setH L k (blkH b A' e)) → WL P ops Q rest n (putD f d undef) w') :
    WL P ops Q (⟨d, .store t x y, ty, ps, es, none⟩ :: rest) n f w := by
  subst hA'
  exact wl_storeAgg hi hx hy hv hw hl h1 (H.blk k hA) ho fun w' hk hb => h w' (H.upd k hA (Nat.lt_of_succ_le (Nat.le_of_ble_eq_true hlt)) hk (fun S hS x _ hx => (hS.2 x).2 hx) (fun S hS => ⟨S, ⟨hb, hS.2⟩, fun b hb => .inl hb⟩))
/-- part of an element of a slice (a whole element: j = 0) -/
theorem wl_storeElH (H : St w0 S0 R w L) (k : Nat) {t e : TypeId} {x y : Operand} {u : Value} {cs : List Value} {i j size bytes : Nat} {p q : α} {z : Option Value} {a : Option Addr} {m c : Nat} {l : List α} (hA : getH L k = slH enc sz e a m c l) (hlt : Nat.blt k L.length = true) (hsz : ∀ x, (enc x).length = sz) (hi : TI P t z size bytes) (hx : okx n x = true) (hy : okx n y = true) (hv : ev f x = .pointer (some ⟨ab a, ao a + i * sz + j, none⟩)) (hw : ev f y = u) (hc : u.cells.toList = cs) (hcl : cs.length = size) (hone : ∀ a ∈ cs, a.oneCell' = true)
    (hp : l[i]? = some p) (hj : j + cs.length ≤ sz) (hq : enc q = (enc p).take j ++ cs ++ (enc p).drop (j + cs.length)) (h : ∀ w', St w0 S0 R w' (setH L k (slH enc sz e a m c (l.set i q))) → WL P ops Q rest n (putD f d undef) w') :
    WL P ops Q (⟨d, .store t x y, ty, ps, es, none⟩ :: rest) n f w := by
  obtain ⟨S, hS⟩ := H.get k hA
  obtain ⟨hn, ⟨_, _, rfl, _⟩ | ⟨b, o, rfl, h2, hs⟩⟩ := hS
  · simp at hp
  · refine wl_storeEl (b := b) (o := o) (i := i) (j := j) (p := p) (q := q) hsz hi hx hy hv rfl hw hc hcl hone h2 hp hj hq fun w' hk hsl => h w' (H.upd k hA (Nat.lt_of_succ_le (Nat.le_of_ble_eq_true hlt)) hk ?_ ?_)
    · rintro S ⟨_, ⟨h, _⟩ | ⟨b', o', h, _, hs'⟩⟩ x _ rfl
      · cases h
      · cases h; exact (hs' _).2 rfl
    · rintro S ⟨_, ⟨h, _⟩ | ⟨b', o', h, _, hs'⟩⟩
      · cases h
      · cases h; exact ⟨S, ⟨by rw [List.length_set]; exact hn, .inr ⟨_, _, rfl, hsl, hs'⟩⟩, fun _ h => .inl h⟩
theorem St.newBlk (H : St w0 S0 R w L) {w' : World} {b : Nat} {A : Array Value} {e : TypeId} (hg : w.heap.size ≤ b) (hk : Kp none_ w w') (hb : Blk w' b (.cells A e (0, 0))) : St w0 S0 R w' (L ++ [blkH b A e]) :=
  H.new hk (B := blkH b A e) (S := fun x => x = b) ⟨hb, fun _ => Iff.rfl⟩ (fun x hx => hx ▸ hg)
theorem wl_allocH (H : St w0 S0 R w L) {t : TypeId} {z : Value} {size bytes : Nat} (hi : TI P t (some z) size bytes) (h : ∀ b w', St w0 S0 R w' (L ++ [blkH b z.cells t]) → WL P ops Q rest n (putD f d (.pointer (some ⟨b, 0, none⟩))) w') :
    WL P ops Q (⟨d, .alloc t, ty, ps, es, none⟩ :: rest) n f w := wl_alloc hi fun b w' hg hk hb => h b w' (H.newBlk hg hk hb)
theorem wl_boxH (H : St w0 S0 R w L) {t : TypeId} {x : Operand} {v : Value} (hx : okx n x = true) (hv : ev f x = v) (h : ∀ b w', St w0 S0 R w' (L ++ [blkH b v.cells t]) → WL P ops Q rest n (putD f d (.pointer (some ⟨b, 0, none⟩))) w') :
    WL P ops Q (⟨d, .box t x, ty, ps, es, none⟩ :: rest) n f w := wl_box hx hv fun b w' hg hk hb => h b w' (H.newBlk hg hk hb)
theorem wl_makeMapH (H : St w0 S0 R w L) (ek : α → Value) (ev : β → Value) {t : TypeId} (h : ∀ r w', St w0 S0 R w' (L ++ [mapH ek ev r []]) → WL P ops Q rest n (putD f d (.map (some r))) w') :
    WL P ops Q (⟨d, .makeMap t none, ty, ps, es, none⟩ :: rest) n f w := wl_makeMap fun b w' hg hk hb => h b w' (H.new hk (B := mapH ek ev b []) (S := fun x => x = b) ⟨Mp.new ek ev hb, fun _ => Iff.rfl⟩ (fun x hx => hx ▸ hg))
theorem slH_of_at {e : TypeId} {b o c : Nat} {l : List α} {m : Nat} (hm : m = l.length) (h : SlAt enc sz e w b o c l) : (slH enc sz e (some ⟨b, o, none⟩) m c l).P w (fun x => x = b) := ⟨hm, .inr ⟨b, o, rfl, h, fun _ => Iff.rfl⟩⟩
theorem wl_makeSliceH (H : St w0 S0 R w L) {t e : TypeId} {x y : Operand} {z : Value} {bytes : Nat} {l c : Nat} (z0 : α) (hz0 : enc z0 = z.cells.toList) (hsz : ∀ x, (enc x).length = sz) (hu : P.underlying t = some (.slice e)) (hi : TI P e (some z) sz bytes) (hx : okx n x = true) (hy : okx n y = true) (hv : ev f x = .int .i64 l) (hw : ev f y = .int .i64 c)
    (hlc : l = c) (hc : c ≤ 9223372036854775807) (hb : bytes * c ≤ 281474976710656)
    (h : ∀ a w', St w0 S0 R w' (L ++ [slH enc sz e a l l (List.replicate l z0)]) → WL P ops Q rest n (putD f d (.slice a l l)) w') :
    WL P ops Q (⟨d, .makeSlice t x y, ty, ps, es, none⟩ :: rest) n f w := by
  subst hlc
  refine wl_makeSlice hu hi (by have := hsz z0; rw [hz0] at this; simpa using this) hx hy hv hw (Nat.le_refl _) hc hb fun b w' hg hk hb => h (some ⟨b, 0, none⟩) w' (H.new hk (B := slH enc sz e (some ⟨b, 0, none⟩) l l (List.replicate l z0)) (slH_of_at (by simp) ?_) (fun x hx => hx ▸ hg))
  have e1 : ∀ m, (List.replicate m z.cells.toList).flatten = (List.replicate m z0).flatMap enc := by
    intro m
    rw [← hz0]
    induction m with
    | zero => rfl
    | succ m ih => simp only [List.replicate_succ, List.flatten_cons, List.flatMap_cons, ih]
  rw [e1] at hb
  have := SlAt.of_blk (l := List.replicate l z0) hsz (by simpa using hc) hb
  simpa using this
theorem wl_buildSliceH (H : St w0 S0 R w L) {t e : TypeId} {z : Value} {bytes len : Nat} {parts : List (Nat × Operand)} (xs : List α) (hsz : ∀ x, (enc x).length = sz) (hu : P.underlying t = some (.slice e)) (hi : TI P e (some z) sz bytes) (hl : xs.length = len) (hpos : Nat.ble 1 (len * sz) = true) (hsm : Nat.ble (len * sz) 16777216 = true)
    (hbp : BP n f (fun i => some (i * sz, sz)) (len * sz) parts (enumOff sz 0 (xs.map enc)))
    (h : ∀ a w', St w0 S0 R w' (L ++ [slH enc sz e a len len xs]) → WL P ops Q rest n (putD f d (.slice a len len)) w') :
    WL P ops Q (⟨d, .buildSlice t len parts.toArray, ty, ps, es, none⟩ :: rest) n f w := by
  refine wl_buildSlice (css := xs.map enc) hu hi (by simpa using hl) hpos hsm hbp (by simpa using fun c _ => hsz c) fun b w' hg hk hb => h (some ⟨b, 0, none⟩) w' (H.new hk (B := slH enc sz e (some ⟨b, 0, none⟩) len len xs) (slH_of_at hl.symm ?_) (fun x hx => hx ▸ hg))
  subst hl
  refine SlAt.of_blk hsz ?_ (by simpa [List.flatMap] using hb)
  by_cases h0 : sz = 0
  · subst h0; simp at hpos
  · have h3 := Nat.le_of_ble_eq_true hsm
    have : xs.length * 1 ≤ xs.length * sz := Nat.mul_le_mul_left _ (by omega)
    omega
theorem wl_buildSlice0H (H : St w0 S0 R w L) {t e : TypeId} {z : Option Value} {size bytes : Nat} (hsz : ∀ x, (enc x).length = sz) (hu : P.underlying t = some (.slice e)) (hi : TI P e z size bytes)
    (h : ∀ a w', St w0 S0 R w' (L ++ [slH enc sz e a 0 0 []]) → WL P ops Q rest n (putD f d (.slice a 0 0)) w') :
    WL P ops Q (⟨d, .buildSlice t 0 #[], ty, ps, es, none⟩ :: rest) n f w :=
  wl_buildSlice0 hu hi fun b w' hg hk hb => h (some ⟨b, 0, none⟩) w' (H.new hk (B := slH enc sz e (some ⟨b, 0, none⟩) 0 0 []) (slH_of_at rfl (SlAt.of_blk (l := []) hsz (by simp) (by simpa using hb))) (fun x hx => hx ▸ hg))
theorem wl_appendH (H : St w0 S0 R w L) (k : Nat) {t e : TypeId} {x y : Operand} {z : Value} {bytes : Nat} {a1 a2 : Option Addr} {n1 c1 n2 c2 : Nat} {l r : List α} {N : Nat} (hA : getH L k = slH enc sz e a1 n1 c1 l) (hlt : Nat.blt k L.length = true) (hsz : ∀ x, (enc x).length = sz) (h1 : ∀ x, ∀ c ∈ enc x, c.oneCell' = true) (hu : P.underlying t = some (.slice e)) (hi : TI P e (some z) sz bytes) (hz : z.cells.size = sz) (hx : okx n x = true) (hy : okx n y = true) (hv : ev f x = .slice a1 n1 c1) (hw : ev f y = .slice a2 n2 c2)
    (hr : ∃ S, (rdH enc sz a2 n2 c2 r).P w S) (hN : n1 + n2 = N) (h63 : N ≤ 9223372036854775807) (hb : N * bytes ≤ 140737488355328)
    (h : ∀ a' c' w', N ≤ c' → c' ≤ 9223372036854775807 → St w0 S0 R w' (setH L k (slH enc sz e a' N c' (l ++ r))) → WL P ops Q rest n (putD f d (.slice a' N c')) w') :
    WL P ops Q (⟨d, .call { callee := .builtin .append, args := #[x, y], argTypes := #[t, t] }, ty, ps, es, none⟩ :: rest) n f w := by
  subst hN
  obtain ⟨S, hS⟩ := H.get k hA
  obtain ⟨G, hR⟩ := rd_Rd hr
  have hrl := (rd_len hr).1
  have hn : n1 = l.length := hS.1
  have hlt' : k < L.length := Nat.lt_of_succ_le (Nat.le_of_ble_eq_true hlt)
  have hs : Sl enc sz e w S (.slice a1 n1 c1) l := by
    obtain ⟨hn, ⟨rfl, rfl, rfl, _⟩ | ⟨b, o, rfl, h2, hs⟩⟩ := hS
    · subst hn; exact Sl.nil _ _
    · subst hn; exact h2.sl ((hs b).2 rfl)
  have hF : ∀ S', (slH enc sz e a1 n1 c1 l).P w S' → ∀ b, S b → S' b := by
    intro S' hS' b hb
    obtain ⟨_, ⟨rfl, _, _, h0⟩ | ⟨b1, o1, rfl, h2, hs⟩⟩ := hS
    · exact absurd hb (h0 b)
    · obtain ⟨_, ⟨h0, _⟩ | ⟨b2, o2, h3, h4, hs'⟩⟩ := hS'
      · cases h0
      · cases h3; exact (hs' b).2 ((hs b).1 hb)
  refine wl_append (l := l) (r := r) (F := S) hsz h1 hu hi hz hx hy hv hw hs hR (by omega) (by rw [← hn, ← hrl]; exact hb) fun v' w' hk hsl => ?_
  rcases hsl with ⟨rfl, h2⟩ | ⟨b, o, cap, A', rfl, h2, h3, h4, h5, h6, h7⟩
  · have h3 := List.append_eq_nil_iff.1 h2
    have e1 : n1 + n2 = 0 := by rw [hn, hrl, h3.1, h3.2]; rfl
    have := h none 0 w' (by omega) (by omega) (H.upd k hA hlt' hk (fun S' hS' b _ hb => hF S' hS' b hb) (fun S' hS' => ⟨fun _ => False, ⟨by rw [h2, e1]; rfl, .inl ⟨rfl, rfl, h2, fun _ h => h⟩⟩, fun _ h => h.elim⟩))
    rw [e1] at this; exact this
  · have e1 : n1 + n2 = (l ++ r).length := by rw [List.length_append, hn, hrl]
    have := h (some ⟨b, o, none⟩) cap w' (by rw [e1]; exact h4) h5 (H.upd k hA hlt' hk (fun S' hS' b _ hb => hF S' hS' b hb) (fun S' hS' => ⟨fun x => x = b, slH_of_at e1 ⟨A', h3, h4, h5, h6, h7⟩, fun x hx => hx ▸ h2.imp (hF S' hS' _) id⟩))
    rw [← e1]; exact this
end
end Go.Wk

namespace Go.Wk
set_option linter.unusedVariables false

/-! ## 25. Calls, maps, what is hidden -/
def hasH : List HP → Nat → Bool
  | [], _ => false
  | _ :: _, 0 => true
  | _ :: l, k + 1 => hasH l k
theorem hasH_lt : ∀ {l : List HP} {k : Nat}, hasH l k = true → k < l.length
  | _ :: _, 0, _ => Nat.succ_pos _
  | _ :: l, k + 1, h => Nat.succ_lt_succ (hasH_lt (l := l) h)
def okI (l : List HP) : List Nat → Bool
  | [] => true
  | i :: is => (hasH l i && is.all fun j => !Nat.beq j i) && okI l is
theorem okI_ok {l : List HP} : ∀ {is : List Nat}, okI l is = true → is.Nodup ∧ ∀ i ∈ is, i < l.length
  | [], _ => ⟨by simp, fun i h => by simp at h⟩
  | i :: is, h => by
    simp only [okI, Bool.and_eq_true, List.all_eq_true, Bool.not_eq_true'] at h
    obtain ⟨⟨h1, h2⟩, h3⟩ := h
    have ih := okI_ok h3
    refine ⟨List.nodup_cons.2 ⟨fun hm => ?_, ih.1⟩, fun j hj => ?_⟩
    · have := h2 i hm; simp at this
    · rcases List.mem_cons.1 hj with rfl | hj
      · exact hasH_lt h1
      · exact ih.2 j hj
section
variable {P : Program} {n : NN} {f : Nat → Value} {w w0 w' : World} {S0 : Nat → Prop} {R R' L m pre : List HP} {Q : Exit → Act → World → Prop} {ops : Array Oper} {rest : List Oper} {d : Option Nat} {ty : TypeId} {ps : String} {es : Array Edge} {post : Value → List HP → Prop} {k : FuncId} {vs : List Value} {A B : HP}
theorem wl_tr (H : St w0 S0 R w L) {o : Oper} (hg : o.guard = none) (is : List Nat) (hc : Tr P k vs R' pre post) (hp : pickH L is = pre) (hs : Src R L is R') (hr : (execOp (fr n f).eval o).run P w = .ok (.enter k vs.toArray) w) (hi : okI L is = true)
    (h : ∀ v w' m, post v m → St w0 S0 R w' (putsH L is m) → WL P ops Q rest n (putD f o.dst v) w') : WL P ops Q (o :: rest) n f w :=
  wl_ret hg (hc.call H is (okI_ok hi).1 (okI_ok hi).2 hp hs) hr fun v w' ⟨m, h1, h2⟩ => h v w' m h1 h2
/-- a call that makes and turns nothing of which anybody is told -/
theorem Tr.quiet (hc : Tr P k vs R' [] post) (H : St w0 S0 R w L) (hs : Src R L [] R') {V : Value} (hv : ∀ v m, post v m → v = V) : Ret P k vs w fun u w' => u = V ∧ Kp none_ w w' := by
  obtain ⟨F, hF, hS⟩ := H.own
  have hro := H.ro
  have hsrc := hs.get hF (fun i => let ⟨S, h1, h2⟩ := hro i; ⟨S, h1, fun b hb hT => by
    have h3 := h2 b hb
    rcases hS b hT with h4 | h4
    · exact h3.1 h4
    · omega⟩)
  have hst : St w none_ R' w [] := ⟨⟨fun _ _ => False, ⟨fun i => (fun _ h => h), fun h => h.elim⟩, fun b ⟨_, h⟩ => h.elim⟩, Kp.refl w, fun i => let ⟨S, h1, _⟩ := hsrc i; ⟨S, h1, fun b hb => ⟨fun h => h, (getH R' i).lt h1 b hb⟩⟩⟩
  exact (hc w none_ hst).mono fun v w' ⟨m, h1, h2⟩ => ⟨hv v m h1, h2.kpt⟩
theorem St.pick' (H : St w0 S0 R w L) (is : List Nat) (hi : okI L is = true) (hp : pickH L is = m) : St w0 S0 R w m := hp ▸ H.pick is (okI_ok hi).1
/-- opened, shut -/
theorem St.open_ {α : Type} (H : St w0 S0 R w L) (k : Nat) {φ : α → Prop} {M : α → List HP} (hA : getH L k = repH φ M) (hlt : hasH L k = true) : ∃ x, φ x ∧ St w0 S0 R w (putsH L [k] (M x)) := by
  obtain ⟨S, x, hx, F, hF, _⟩ := H.get k hA
  -- the same witness must serve: take it from the state itself
  obtain ⟨F0, h1, h2⟩ := H.own
  have hk := h1.at_ k
  rw [hA] at hk
  obtain ⟨x, hx, G, hG, hGS⟩ := hk
  refine ⟨x, hx, ?_⟩
  have hlt' := hasH_lt hlt
  obtain ⟨F1, c1, c2, c3, c4⟩ := h1.clear (is := [k])
  obtain ⟨F3, d1, d2⟩ := OwnF.puts [k] (m := M x) c1 (fun i hi => by
    simp only [List.mem_singleton] at hi; subst hi
    exact ⟨by rw [clearH_len]; exact hlt', clearH_get hlt' (by simp)⟩) (by simp) hG (fun b ⟨i, hb⟩ hb2 => by
    have h5 := (hGS b).2 hb2
    have h6 := h1.sep (c4 i b hb) h5
    subst h6
    exact c3 _ (by simp) _ hb)
  rw [putsH_clear _ _ _ (by simp)] at d1
  exact ⟨⟨F3, d1, fun b hb => by
    rcases d2 b hb with ⟨i, h3⟩ | h3
    · exact h2 b ⟨i, c4 i b h3⟩
    · exact h2 b ⟨k, (hGS b).2 h3⟩⟩, H.kpt, H.ro⟩
theorem OwnF.one {w : World} {A : HP} {S : Nat → Prop} (h : A.P w S) : OwnF w (fun i b => i = 0 ∧ S b) [A] :=
  ⟨fun i => by
    cases i with
    | zero => have e : (fun b => (0 : Nat) = 0 ∧ S b) = S := by funext b; simp
              show A.P w (fun b => (0 : Nat) = 0 ∧ S b)
              rw [e]; exact h
    | succ i => intro b hb; exact absurd hb.1 (by simp), fun h1 h2 => h1.1.trans h2.1.symm⟩
theorem St.close_ {α : Type} (H : St w0 S0 R w L) (is : List Nat) {φ : α → Prop} {M : α → List HP} (x : α) (hx : φ x) (hM : pickH L is = M x) (hi : okI L is = true) : St w0 S0 R w (putsH L is [repH φ M]) :=
  H.conv is [repH φ M] (okI_ok hi).1 (okI_ok hi).2 fun F hF => ⟨_, OwnF.one (S := Tot F) ⟨x, hx, F, hM ▸ hF, fun _ => Iff.rfl⟩, fun b ⟨_, _, hb⟩ => hb⟩
theorem St.flat (H : St w0 S0 R w L) (k : Nat) (hA : getH L k = allH m) (hlt : hasH L k = true) : St w0 S0 R w (putsH L [k] m) :=
  H.conv [k] m (by simp) (fun i hi => by simp only [List.mem_singleton] at hi; subst hi; exact hasH_lt hlt) fun F hF => by
    have := hF.at_ 0
    have e : getH (pickH L [k]) 0 = allH m := hA
    rw [e] at this
    obtain ⟨G, hG, hGS⟩ := this
    exact ⟨G, hG, fun b hb => ⟨0, (hGS b).2 hb⟩⟩
theorem St.fold (H : St w0 S0 R w L) (is : List Nat) (hM : pickH L is = m) (hi : okI L is = true) : St w0 S0 R w (putsH L is [allH m]) :=
  H.conv is [allH m] (okI_ok hi).1 (okI_ok hi).2 fun F hF => ⟨_, OwnF.one (S := Tot F) ⟨F, hM ▸ hF, fun _ => Iff.rfl⟩, fun b ⟨_, _, hb⟩ => hb⟩
/-- one out of several -/
theorem St.takeI (H : St w0 S0 R w L) (k i : Nat) (hA : getH L k = allH m) (hlt : hasH L k = true) (hm : i < m.length) (hB : getH m i = B) : St w0 S0 R w (setH L k (allH (setH m i emp)) ++ [B]) :=
  H.conv [k] [allH (setH m i emp), B] (by simp) (fun j hi => by simp only [List.mem_singleton] at hi; subst hi; exact hasH_lt hlt) fun F hF => by
    have h0 := hF.at_ 0
    have e : getH (pickH L [k]) 0 = allH m := hA
    rw [e] at h0
    obtain ⟨G, hG, hGS⟩ := h0
    have h1 := hG.set (A := emp) (S := fun _ => False) hm (fun _ h => h) (fun _ _ _ _ h => h)
    refine ⟨fun j b => (j = 0 ∧ Tot (fset G i fun _ => False) b) ∨ (j = 1 ∧ G i b), ⟨fun j => ?_, ?_⟩, ?_⟩
    · match j with
      | 0 =>
        refine ⟨_, h1, fun b => ?_⟩
        constructor
        · rintro (⟨_, h⟩ | ⟨h, _⟩)
          · exact h
          · exact absurd h (by simp)
        · exact fun h => .inl ⟨rfl, h⟩
      | 1 =>
        have e : (fun b => (1 = 0 ∧ Tot (fset G i fun _ => False) b) ∨ (1 = 1 ∧ G i b)) = G i := by funext b; simp
        show B.P w (fun b => (1 = 0 ∧ Tot (fset G i fun _ => False) b) ∨ (1 = 1 ∧ G i b))
        rw [e, ← hB]; exact hG.at_ i
      | j + 2 => intro b hb; simp at hb
    · rintro j j' b (⟨rfl, h2⟩ | ⟨rfl, h2⟩) (⟨rfl, h3⟩ | ⟨rfl, h3⟩)
      · rfl
      · obtain ⟨q, ⟨_, h⟩ | ⟨hne, h⟩⟩ := h2
        · exact h.elim
        · exact absurd (hG.sep h h3) hne
      · obtain ⟨q, ⟨_, h⟩ | ⟨hne, h⟩⟩ := h3
        · exact h.elim
        · exact absurd (hG.sep h h2) hne
      · rfl
    · rintro b ⟨j, ⟨_, q, ⟨_, h⟩ | ⟨_, h⟩⟩ | ⟨_, h⟩⟩
      · exact h.elim
      · exact ⟨0, (hGS b).2 ⟨q, h⟩⟩
      · exact ⟨0, (hGS b).2 ⟨i, h⟩⟩
theorem St.giveI (H : St w0 S0 R w L) (k j i : Nat) (hA : getH L k = allH m) (hB : getH L j = B) (hi : okI L [k, j] = true) (hm : i < m.length) (he : getH m i = emp) : St w0 S0 R w (setH (setH L k (allH (setH m i B))) j emp) :=
  have hh := H.conv [k, j] [allH (setH m i B)] (okI_ok hi).1 (okI_ok hi).2 fun F hF => by
    have h0 := hF.at_ 0
    have e : getH (pickH L [k, j]) 0 = allH m := hA
    rw [e] at h0
    obtain ⟨G, hG, hGS⟩ := h0
    have h1 := hF.at_ 1
    have e : getH (pickH L [k, j]) 1 = B := hB
    rw [e] at h1
    have h2 := hG.set (A := B) (S := F 1) hm h1 (fun q _ b hq hb => by have := hF.sep ((hGS b).2 ⟨q, hq⟩) hb; cases this)
    exact ⟨_, OwnF.one (S := Tot (fset G i (F 1))) ⟨_, h2, fun _ => Iff.rfl⟩, fun b ⟨_, _, hb⟩ => by
      rcases fset_tot hb with hb | hb
      · exact ⟨0, (hGS b).2 hb⟩
      · exact ⟨1, hb⟩⟩
  by simpa only [putsH, List.append_nil] using hh
theorem St.pushI (H : St w0 S0 R w L) (k j : Nat) (hA : getH L k = allH m) (hB : getH L j = B) (hi : okI L [k, j] = true) : St w0 S0 R w (setH (setH L k (allH (m ++ [B]))) j emp) :=
  have hh := H.conv [k, j] [allH (m ++ [B])] (okI_ok hi).1 (okI_ok hi).2 fun F hF => by
    have h0 := hF.at_ 0
    have e : getH (pickH L [k, j]) 0 = allH m := hA
    rw [e] at h0
    obtain ⟨G, hG, hGS⟩ := h0
    have h1 := hF.at_ 1
    have e : getH (pickH L [k, j]) 1 = B := hB
    rw [e] at h1
    have h2 := hG.app (A := B) (S := F 1) h1 (fun q b hq hb => by have := hF.sep ((hGS b).2 ⟨q, hq⟩) hb; cases this)
    exact ⟨_, OwnF.one (S := Tot (fset G m.length (F 1))) ⟨_, h2, fun _ => Iff.rfl⟩, fun b ⟨_, _, hb⟩ => by
      rcases fset_tot hb with hb | hb
      · exact ⟨0, (hGS b).2 hb⟩
      · exact ⟨1, hb⟩⟩
  by simpa only [putsH, List.append_nil] using hh
theorem setH_map {α : Type} (g : α → HP) : ∀ (l : List α) (i : Nat) (y : α), setH (l.map g) i (g y) = (l.set i y).map g
  | [], _, _ => rfl
  | _ :: _, 0, _ => rfl
  | x :: l, i + 1, y => congrArg (g x :: ·) (setH_map g l i y)
theorem getH_map {α : Type} (g : α → HP) : ∀ {l : List α} {i : Nat} {y : α}, l[i]? = some y → getH (l.map g) i = g y
  | _ :: _, 0, _, h => by cases h; rfl
  | _ :: l, i + 1, y, h => getH_map g (l := l) (i := i) (by simpa using h)
/-- the same said in other words -/
theorem St.le (H : St w0 S0 R w L) (k : Nat) (hA : Le (getH L k) B) (hlt : hasH L k = true) : St w0 S0 R w (setH L k B) :=
  H.upd k rfl (hasH_lt hlt) (Kp.refl (S := none_) w) (fun _ _ _ _ h => h.elim) (fun S hS => let ⟨S', h1, h2⟩ := hA w S hS; ⟨S', h1, fun b hb => .inl (h2 b hb)⟩)
end
section
variable {P : Program} {n : NN} {f : Nat → Value} {w w0 w' : World} {S0 : Nat → Prop} {R L : List HP} {Q : Exit → Act → World → Prop} {ops : Array Oper} {rest : List Oper} {d : Option Nat} {ty : TypeId} {ps : String} {es : Array Edge} {α β : Type} {enc : α → List Value} {sz : Nat} {ek : α → Value} {ev : β → Value} {r : Nat} {l : List (α × β)} {t k e : TypeId}
theorem slH_len {e : TypeId} {a : Option Addr} {m c : Nat} {xs : List α} (H : St w0 S0 R w L) (i : Nat) (hA : getH L i = slH enc sz e a m c xs) : m = xs.length ∧ m ≤ c ∧ c ≤ 9223372036854775807 := by
  obtain ⟨S, h1, ⟨_, rfl, rfl, _⟩ | ⟨b, o, _, ⟨_, _, h2, h3, _⟩, _⟩⟩ := H.get i hA
  · subst h1; simp
  · subst h1; exact ⟨rfl, h2, h3⟩
theorem slH_drop {e : TypeId} {a : Option Addr} {m c : Nat} {xs : List α} (j : Nat) (hj : j ≤ m) : Le (slH enc sz e a m c xs) (slH enc sz e (dropA a sz j c) (m - j) (c - j) (xs.drop j)) := fun w S ⟨h1, h2⟩ => by
  refine ⟨S, ⟨by rw [List.length_drop, h1], ?_⟩, fun _ h => h⟩
  rcases h2 with ⟨rfl, rfl, rfl, h⟩ | ⟨b, o, rfl, h2, hs⟩
  · exact .inl ⟨by unfold dropA; split <;> rfl, by omega, by simp, h⟩
  · right
    by_cases e1 : c = j
    · subst e1
      refine ⟨b, o, by unfold dropA; rw [if_pos rfl], ?_, hs⟩
      obtain ⟨A, q1, q2, q3, q4, q5⟩ := h2
      rw [Nat.sub_self]
      refine ⟨A, q1, by simp; omega, by omega, by omega, fun i x hx => ?_⟩
      rw [List.drop_eq_nil_of_le (by omega)] at hx; simp at hx
    · exact ⟨b, o + j * sz, by unfold dropA; rw [if_neg e1]; simp [add_at], h2.drop j (by have := h2.le; omega), hs⟩
theorem slH_take {e : TypeId} {a : Option Addr} {m c : Nat} {xs : List α} (j : Nat) (hj : j ≤ m) : Le (slH enc sz e a m c xs) (slH enc sz e a j c (xs.take j)) := fun w S ⟨h1, h2⟩ => by
  refine ⟨S, ⟨by rw [List.length_take, ← h1, Nat.min_eq_left hj], ?_⟩, fun _ h => h⟩
  rcases h2 with ⟨rfl, rfl, rfl, h⟩ | ⟨b, o, rfl, h2, hs⟩
  · exact .inl ⟨rfl, rfl, by simp, h⟩
  · exact .inr ⟨b, o, rfl, h2.take j, hs⟩
theorem slH_cap {e : TypeId} {a : Option Addr} {m c : Nat} {xs : List α} (c' : Nat) (h0 : m ≤ c') (hc : c' ≤ c) : Le (slH enc sz e a m c xs) (slH enc sz e a m c' xs) := fun w S ⟨h1, h2⟩ => by
  refine ⟨S, ⟨h1, ?_⟩, fun _ h => h⟩
  rcases h2 with ⟨rfl, rfl, rfl, h⟩ | ⟨b, o, rfl, ⟨A, q1, q2, q3, q4, q5⟩, hs⟩
  · exact .inl ⟨rfl, by omega, rfl, h⟩
  · exact .inr ⟨b, o, rfl, ⟨A, q1, by omega, by omega, Nat.le_trans (Nat.add_le_add_left (Nat.mul_le_mul_right _ hc) _) q4, q5⟩, hs⟩
theorem slH_nil {e : TypeId} : (slH enc sz e none 0 0 ([] : List α)).P w (fun _ => False) := ⟨rfl, .inl ⟨rfl, rfl, rfl, fun _ h => h⟩⟩
/-- a slice that is nil: nothing is owned -/
theorem St.addNil (H : St w0 S0 R w L) (enc : α → List Value) (sz : Nat) (e : TypeId) : St w0 S0 R w (L ++ [slH enc sz e none 0 0 ([] : List α)]) := H.new (Kp.refl w) slH_nil (fun _ h => h.elim)
theorem wl_mapUpdateH (H : St w0 S0 R w L) (i : Nat) [DecidableEq α] {x y z : Operand} {a : α} {u : β} (hA : getH L i = mapH ek ev r l) (hlt : hasH L i = true) (K : KL P k ek) (hu : P.underlying t = some (.map k e)) (hx : okx n x = true) (hy : okx n y = true) (hz : okx n z = true) (hv : Go.Wk.ev f x = .map (some r)) (hw : Go.Wk.ev f y = ek a) (hw2 : Go.Wk.ev f z = ev u)
    (h : ∀ w', St w0 S0 R w' (setH L i (mapH ek ev r (putL l a u))) → WL P ops Q rest n (putD f d undef) w') : WL P ops Q (⟨d, .mapUpdate t x y z, ty, ps, es, none⟩ :: rest) n f w :=
  wl_mapUpdate K hu hx hy hz hv hw hw2 (H.map i hA) fun w' hk hm => h w' (H.upd i hA (hasH_lt hlt) hk (fun S hS x _ hx => (hS.2 x).2 hx) (fun S hS => ⟨S, ⟨hm, hS.2⟩, fun b hb => .inl hb⟩))
theorem wl_deleteH (H : St w0 S0 R w L) (i : Nat) [DecidableEq α] {x y : Operand} {a : α} {kt : TypeId} (hA : getH L i = mapH ek ev r l) (hlt : hasH L i = true) (K : KL P k ek) (hu : P.underlying t = some (.map k e)) (hx : okx n x = true) (hy : okx n y = true) (hv : Go.Wk.ev f x = .map (some r)) (hw : Go.Wk.ev f y = ek a)
    (h : ∀ w', St w0 S0 R w' (setH L i (mapH ek ev r (delL l a))) → WL P ops Q rest n (putD f d (.tuple #[])) w') : WL P ops Q (⟨d, .call { callee := .builtin .delete, args := #[x, y], argTypes := #[t, kt] }, ty, ps, es, none⟩ :: rest) n f w :=
  wl_delete K hu hx hy hv hw (H.map i hA) fun w' hk hm => h w' (H.upd i hA (hasH_lt hlt) hk (fun S hS x _ hx => (hS.2 x).2 hx) (fun S hS => ⟨S, ⟨hm, hS.2⟩, fun b hb => .inl hb⟩))
theorem wl_clearMH (H : St w0 S0 R w L) (i : Nat) {x : Operand} (hA : getH L i = mapH ek ev r l) (hlt : hasH L i = true) (hu : P.underlying t = some (.map k e)) (hx : okx n x = true) (hv : Go.Wk.ev f x = .map (some r))
    (h : ∀ w', St w0 S0 R w' (setH L i (mapH ek ev r [])) → WL P ops Q rest n (putD f d (.tuple #[])) w') : WL P ops Q (⟨d, .call { callee := .builtin .clear, args := #[x], argTypes := #[t] }, ty, ps, es, none⟩ :: rest) n f w :=
  wl_clearM hu hx hv (H.map i hA) fun w' hk hm => h w' (H.upd i hA (hasH_lt hlt) hk (fun S hS x _ hx => (hS.2 x).2 hx) (fun S hS => ⟨S, ⟨hm, hS.2⟩, fun b hb => .inl hb⟩))
theorem St.it (H : St w0 S0 R w L) (i : Nat) {ri : Nat} {done : List (α × β)} (hA : getH L i = itH ek ev ri r l done) : It ek ev w ri r l done := let ⟨_, h⟩ := H.get i hA; h.1
theorem wl_rangeH (H : St w0 S0 R w L) (i : Nat) {x : Operand} (hA : getH L i = mapH ek ev r l) (hlt : hasH L i = true) (hu : P.underlying t = some (.map k e)) (hx : okx n x = true) (hv : Go.Wk.ev f x = .map (some r))
    (h : ∀ ri w', St w0 S0 R w' (setH L i (itH ek ev ri r l [])) → WL P ops Q rest n (putD f d (.pointer (some ⟨ri, 0, none⟩))) w') :
    WL P ops Q (⟨d, .range t x, ty, ps, es, none⟩ :: rest) n f w :=
  wl_range hu hx hv (H.map i hA) fun ri w' hri hk hit => h ri w' (H.upd i hA (hasH_lt hlt) hk (fun _ _ _ _ h => h.elim) (fun S hS => ⟨fun y => y = ri ∨ y = r, ⟨hit, fun _ => Iff.rfl⟩, fun b hb => by
    rcases hb with rfl | rfl
    · exact .inr hri
    · exact .inl ((hS.2 _).2 rfl)⟩))
theorem wl_nextH (H : St w0 S0 R w L) (i : Nat) {x : Operand} {ri : Nat} {done : List (α × β)} (hA : getH L i = itH ek ev ri r l done) (hlt : hasH L i = true) (hx : okx n x = true) (hv : Go.Wk.ev f x = .pointer (some ⟨ri, 0, none⟩))
    (h1 : done.Perm l → WL P ops Q rest n (putD f d (.tuple #[.bool false])) w)
    (h2 : ∀ p w', p ∈ l → St w0 S0 R w' (setH L i (itH ek ev ri r l (done ++ [p]))) → WL P ops Q rest n (putD f d (.tuple #[.bool true, ek p.1, ev p.2])) w') :
    WL P ops Q (⟨d, .next x false, ty, ps, es, none⟩ :: rest) n f w :=
  wl_next hx hv (H.it i hA) h1 fun p w' hp hk hit => h2 p w' hp (H.upd i hA (hasH_lt hlt) hk (fun S hS b _ hb => (hS.2 b).2 (.inl hb)) (fun S hS => ⟨S, ⟨hit, hS.2⟩, fun b hb => .inl hb⟩))
theorem itH_map {ri : Nat} {done : List (α × β)} : Le (itH ek ev ri r l done) (mapH ek ev r l) := fun w S ⟨h, hs⟩ => by
  obtain ⟨es, clock, since, seen, idx, h1, h2, h3, _⟩ := h
  exact ⟨fun x => x = r, ⟨⟨es, clock, h1, h2, h3⟩, fun _ => Iff.rfl⟩, fun b hb => (hs b).2 (.inr hb)⟩
end
/-- an elder assertion on the world, with its blocks -/
def oldH {α : Type} (Rp : World → α → Prop) (fp : α → Nat → Prop) (lt : ∀ {w x}, Rp w x → ∀ b, fp x b → b < w.heap.size) (kp : ∀ {w x w' T}, Rp w x → Kp T w w' → (∀ b, fp x b → ¬ T b) → Rp w' x) : HP :=
  ⟨fun w S => ∃ x, Rp w x ∧ ∀ b, S b ↔ fp x b, fun ⟨x, h, hs⟩ b hb => lt h b ((hs b).1 hb), fun ⟨x, h, hs⟩ hk hd => ⟨x, kp h hk (fun b hb => hd b ((hs b).2 hb)), hs⟩⟩
theorem OwnF.get1 {w : World} {F : Nat → Nat → Prop} {A : HP} {l : List HP} (h : OwnF w F (A :: l)) : A.P w (F 0) := h.at_ 0
/-- an elder contract over one such assertion -/
theorem Tr.of_old {P : Program} {k : FuncId} {vs : List Value} {R : List HP} {α : Type} {Rp Rp' : World → α → Prop} {fp : α → Nat → Prop} {lt kp lt' kp'} {post : Value → Prop}
    (h : ∀ w x, Rp w x → Ret P k vs w fun v w' => post v ∧ ∃ x', Rp' w' x' ∧ (∀ b, fp x' b → fp x b ∨ w.heap.size ≤ b) ∧ Kp (fp x) w w') :
    Tr P k vs R [oldH Rp fp lt kp] fun v m => post v ∧ m = [oldH Rp' fp lt' kp'] := by
  intro w S0 H
  obtain ⟨F, hF, hS⟩ := H.own
  obtain ⟨x, hx, hfp⟩ := hF.get1
  have hfS : ∀ b, b < w.heap.size → fp x b → S0 b := fun b hb hx => by
    rcases hS b ⟨0, (hfp b).2 hx⟩ with h3 | h3
    · exact h3
    · omega
  refine (h w x hx).mono fun v w' ⟨hv, x', hx', hsub, hk⟩ => ⟨_, ⟨hv, rfl⟩, ⟨_, OwnF.one (S := fp x') ⟨x', hx', fun _ => Iff.rfl⟩, fun b ⟨_, _, hb⟩ => ?_⟩, hk.mono hfS, fun i => ?_⟩
  · rcases hsub b hb with h3 | h3
    · exact hS b ⟨0, (hfp b).2 h3⟩
    · exact .inr h3
  · obtain ⟨S, h1, h2⟩ := H.ro i
    exact ⟨S, (getH R i).kp h1 hk (fun b hb hT => (h2 b hb).1 (hfS b (h2 b hb).2 hT)), h2⟩
/-- an elder contract that turns nothing -/
theorem Tr.of_quiet {P : Program} {k : FuncId} {vs : List Value} {α : Type} {Rp : World → α → Prop} {fp : α → Nat → Prop} {lt kp} {post : Value → Prop}
    (h : ∀ w x, Rp w x → Ret P k vs w fun v w' => post v ∧ Kp none_ w w') : Tr P k vs [oldH Rp fp lt kp] [] fun v m => post v ∧ m = [] := by
  intro w S0 H
  obtain ⟨S, x, hx, _⟩ := H.getR 0 rfl
  exact (h w x hx).mono fun v w' ⟨hv, hk⟩ => ⟨[], ⟨hv, rfl⟩, H.keep hk⟩
/-- ... that asks nothing -/
theorem Tr.of_plain {P : Program} {k : FuncId} {vs : List Value} {R : List HP} {post : Value → Prop}
    (h : ∀ w, Ret P k vs w fun v w' => post v ∧ Kp none_ w w') : Tr P k vs R [] fun v m => post v ∧ m = [] := fun w S0 H =>
  (h w).mono fun v w' ⟨hv, hk⟩ => ⟨[], ⟨hv, rfl⟩, H.keep hk⟩
end Go.Wk

namespace Go.Wk
set_option linter.unusedVariables false

/-! ## 26. Small words -/
theorem ltb {a b : Nat} (h : Nat.blt a b = true) : a < b := Nat.lt_of_succ_le (Nat.le_of_ble_eq_true h)
theorem leb {a b : Nat} (h : Nat.ble a b = true) : a ≤ b := Nat.le_of_ble_eq_true h
theorem oneAll {cs : List Value} (h : cs.all Value.oneCell' = true := by rfl) : ∀ u ∈ cs, u.oneCell' = true := fun u hu => List.all_eq_true.1 h u hu
theorem bifB (c x y : Bool) : (bif c then Value.bool x else Value.bool y) = .bool (bif c then x else y) := by cases c <;> rfl
theorem el_sub' {w : World} {b p : Nat} {cs cs' : List Value} (h : ∀ j u, cs[j]? = some u → w.cell? ⟨b, p + j, none⟩ = some u) (k n : Nat) (e : (cs.drop k).take n = cs') : ∀ j u, cs'[j]? = some u → w.cell? ((⟨b, p + k, none⟩ : Addr).add j) = some u := fun j u hj => by
  subst e
  rw [add_at, Nat.add_assoc]
  refine h _ u ?_
  rw [List.getElem?_take] at hj
  split at hj
  · rw [List.getElem?_drop] at hj; exact hj
  · cases hj
section
variable {α β : Type} {w w0 : World} {S0 : Nat → Prop} {R L : List HP} {b : Nat} {A : Array Value} {e : TypeId} {ek : α → Value} {ev : β → Value} {r : Nat} {ms : List (α × β)}
theorem St.blkR (H : St w0 S0 R w L) (k : Nat) (hA : getH R k = blkH b A e) : Blk w b (.cells A e (0, 0)) := let ⟨_, h⟩ := H.getR k hA; h.1
theorem St.mapR (H : St w0 S0 R w L) (k : Nat) (hA : getH R k = mapH ek ev r ms) : Mp ek ev w r ms := let ⟨_, h⟩ := H.getR k hA; h.1
end
def encP (x : Nat) : List Value := [.pointer (some ⟨x, 0, none⟩)]
theorem encP_len (x : Nat) : (encP x).length = 1 := rfl
theorem encP_one (x : Nat) : ∀ u ∈ encP x, u.oneCell' = true := oneAll
/-- a law over what it is handed -/
theorem Tr.top {P : Program} {k : FuncId} {vs : List Value} {R : List HP} {V : Value} {W : World} (h : Tr P k vs R [] fun v m => v = V) (hr : ∀ i, ∃ S, (getH R i).P W S) : Ret P k vs W fun v w' => v = V ∧ Kp none_ W w' :=
  (h W none_ ⟨⟨fun _ _ => False, ⟨fun i => (fun _ h => h), fun h => h.elim⟩, fun b ⟨_, h⟩ => h.elim⟩, Kp.refl W, fun i => let ⟨S, h1⟩ := hr i; ⟨S, h1, fun b hb => ⟨fun h => h, (getH R i).lt h1 b hb⟩⟩⟩).mono fun v w' ⟨m, h1, h2⟩ => ⟨h1, h2.kpt⟩
theorem rdH_of {α : Type} {enc : α → List Value} {sz : Nat} {w : World} {F : Nat → Prop} {a : Option Addr} {n c : Nat} {l : List α} (h : Rd enc sz w F (.slice a n c) l) : ∃ S, (rdH enc sz a n c l).P w S := by
  obtain ⟨a', c', h1, h2, h3⟩ := h
  cases h1
  refine ⟨fun b => F b ∧ b < w.heap.size, rfl, ⟨_, _, rfl, h2, fun hp => ?_⟩, fun _ h => h.2⟩
  obtain ⟨b, o, h4, h5, h6, h7⟩ := h3 hp
  exact ⟨b, o, h4, ⟨h5, h6⟩, h6, h7⟩
theorem getH_nil {W : World} (i : Nat) : ∃ S, (getH [] i).P W S := ⟨fun _ => False, fun _ h => h⟩
theorem getH_cons {W : World} {A : HP} {R : List HP} (h : ∃ S, A.P W S) (hr : ∀ i, ∃ S, (getH R i).P W S) : ∀ i, ∃ S, (getH (A :: R) i).P W S
  | 0 => h
  | i + 1 => hr i
end Go.Wk

namespace Go.Wk
set_option linter.unusedVariables false

/-! ## 27. More that is read; opened for reading -/
/-- several, each to be read; they may share -/
def shH (m : List HP) : HP :=
  ⟨fun w S => (∀ b, S b → b < w.heap.size) ∧ ∀ i, ∃ S', (getH m i).P w S' ∧ ∀ b, S' b → S b, fun h => h.1, fun h hk hd => ⟨fun b hb => Nat.lt_of_lt_of_le (h.1 b hb) hk.size, fun i => let ⟨S', h1, h2⟩ := h.2 i; ⟨S', (getH m i).kp h1 hk (fun b hb => hd b (h2 b hb)), h2⟩⟩⟩
section
variable {w w0 w' : World} {S0 : Nat → Prop} {R X L m : List HP} {A B : HP}
/-- what is read may be read in parts -/
theorem St.addR (H : St w0 S0 R w L) (hX : ∀ i, ∃ S, (getH X i).P w S ∧ ∀ b, S b → ¬ S0 b ∧ b < w0.heap.size) : St w0 S0 (R ++ X) w L :=
  ⟨H.own, H.kpt, fun i => by
    rw [getH_app]
    by_cases h : i < R.length
    · rw [if_pos h]; exact H.ro i
    · rw [if_neg h]; exact hX _⟩
theorem St.dropR (H : St w0 S0 (R ++ X) w L) : St w0 S0 R w L :=
  ⟨H.own, H.kpt, fun i => by
    by_cases h : i < R.length
    · have := H.ro i; rw [getH_app, if_pos h] at this; exact this
    · rw [getH_emp (by omega)]; exact ⟨fun _ => False, fun _ h => h, fun _ h => h.elim⟩⟩
/-- by a list said outright -/
theorem St.weakR (H : St w0 S0 R w L) (k : Nat) (hX : R.take k = X) : St w0 S0 X w L := by
  subst hX
  have := List.take_append_drop k R
  rw [← this] at H
  exact H.dropR
theorem St.openR {α : Type} (H : St w0 S0 R w L) (k : Nat) {φ : α → Prop} {M : α → List HP} (hA : getH R k = repH φ M) : ∃ x, φ x ∧ St w0 S0 (R ++ M x) w L := by
  obtain ⟨S, h1, h2⟩ := H.ro k
  rw [hA] at h1
  obtain ⟨x, hx, F, hF, hFS⟩ := h1
  exact ⟨x, hx, H.addR fun i => ⟨F i, hF.at_ i, fun b hb => h2 b ((hFS b).2 ⟨i, hb⟩)⟩⟩
theorem St.allR (H : St w0 S0 R w L) (k i : Nat) (hA : getH R k = allH m) (hB : getH m i = B) : St w0 S0 (R ++ [B]) w L := by
  obtain ⟨S, h1, h2⟩ := H.ro k
  rw [hA] at h1
  obtain ⟨F, hF, hFS⟩ := h1
  refine H.addR fun j => ?_
  cases j with
  | zero => exact ⟨F i, hB ▸ hF.at_ i, fun b hb => h2 b ((hFS b).2 ⟨i, hb⟩)⟩
  | succ j => exact ⟨fun _ => False, fun _ h => h, fun _ h => h.elim⟩
theorem St.shR (H : St w0 S0 R w L) (k i : Nat) (hA : getH R k = shH m) (hB : getH m i = B) : St w0 S0 (R ++ [B]) w L := by
  obtain ⟨S, h1, h2⟩ := H.ro k
  rw [hA] at h1
  obtain ⟨S', h3, h4⟩ := h1.2 i
  refine H.addR fun j => ?_
  cases j with
  | zero => exact ⟨S', hB ▸ h3, fun b hb => h2 b (h4 b hb)⟩
  | succ j => exact ⟨fun _ => False, fun _ h => h, fun _ h => h.elim⟩
theorem allH_sh : Le (allH m) (shH m) := fun w S ⟨F, hF, hS⟩ => ⟨S, ⟨fun b hb => let ⟨i, hi⟩ := (hS b).1 hb; (getH m i).lt (hF.at_ i) b hi, fun i => ⟨F i, hF.at_ i, fun b hb => (hS b).2 ⟨i, hb⟩⟩⟩, fun _ h => h⟩
end
/-! interface values -/
section
variable {P : Program} {n : NN} {f : Nat → Value} {w : World} {d : Option Nat} {ty : TypeId} {ps : String} {es : Array Edge} {t yt : TypeId} {x y : Operand}
theorem rf_makeInterface {td : TypeDesc} (hu : P.underlying t = some td) (hni : (match td with | .interface _ => true | _ => false) = false) (hx : okx n x = true) :
    (execOp (fr n f).eval ⟨d, .makeInterface t x, ty, ps, es, none⟩).run P w = .ok (.value (.iface t (ev f x))) w := by
  simp only [execOp]; rw [eval_fr hx]
  cases td <;> simp_all [Instr.makeInterface, run_underlying hu]
/-- the method that a dynamic type has -/
def Meth (P : Program) (t : TypeId) (name : String) (k : FuncId) : Prop := ∀ (a : Option Addr) (w : World), (Go.method (P.types.size + Made.depth) t (.pointer a) name).run P w = .ok (k, .pointer a) w
theorem rf_invoke {k : FuncId} {name : String} {l : List Operand} {ats : Array TypeId} {vs : List Value} {a : Option Addr} (hk : Callable P k) (hm : Meth P t name k) (hx : okx n x = true) (hv : ev f x = .iface t (.pointer a)) (ho : l.all (okx n) = true) (hl : l.map (ev f) = vs) :
    (execOp (fr n f).eval ⟨d, .call { callee := .invoke x name, args := l.toArray, argTypes := ats }, ty, ps, es, none⟩).run P w = .ok (.enter k (.pointer a :: vs).toArray) w := by
  have hm' := hm a w
  simp only [execOp, resolve, map_eval ho hl]
  rw [eval_fr hx, hv]
  simp [invoke, callMethod, hm', hk.run]
theorem rf_neqIN {ms : Array (String × TypeId)} {v : Value} {b : Bool} (hu : P.underlying t = some (.interface ms)) (hx : okx n x = true) (hv : ev f x = v) (hb : (v = .nilIface ∧ b = false) ∨ (∃ t' u, v = .iface t' u ∧ b = true)) :
    (execOp (fr n f).eval ⟨d, .binOp .neq t x (.const .nilIface) yt, ty, ps, es, none⟩).run P w = .ok (.value (.bool b)) w := by
  have he0 : ∀ d, (Op.equalIn (d + 1) t v .nilIface).run P w = .ok (!b) w := by
    intro d
    rcases hb with ⟨rfl, rfl⟩ | ⟨t', u, rfl, rfl⟩ <;> simp [Op.equalIn, run_underlying hu]
  have he' : (Op.equal t v .nilIface).run P w = .ok (!b) w := he0 9999
  have hn : (fr n f).eval (.const .nilIface) = .nilIface := rfl
  simp only [execOp]
  rw [eval_fr hx, hv, hn]
  rcases hb with ⟨rfl, rfl⟩ | ⟨t', u, rfl, rfl⟩ <;> simp [eqGuard, binOp, he']
end
end Go.Wk

namespace Go.Wk
set_option linter.unusedVariables false

/-! ## 28. min, max, cap, len of an array; lists -/
section
variable {P : Program} {n : NN} {f : Nat → Value} {w : World} {d : Option Nat} {ty : TypeId} {ps : String} {es : Array Edge} {t t' : TypeId} {x y : Operand}
theorem rf_min {k : IntKind} {a b : Int} (hx : okx n x = true) (hy : okx n y = true) (hv : ev f x = .int k a) (hw : ev f y = .int k b) :
    (execOp (fr n f).eval ⟨d, .call { callee := .builtin .min, args := #[x, y], argTypes := #[t, t'] }, ty, ps, es, none⟩).run P w = .ok (.value (.int k (min a b))) w := by
  simp only [execOp, resolve, invoke, builtin, List.map_toArray, List.map_cons, List.map_nil, eval_fr hx, eval_fr hy, hv, hw]
  simp [Builtin.min_, Builtin.min2]
  omega
theorem rf_max {k : IntKind} {a b : Int} (hx : okx n x = true) (hy : okx n y = true) (hv : ev f x = .int k a) (hw : ev f y = .int k b) :
    (execOp (fr n f).eval ⟨d, .call { callee := .builtin .max, args := #[x, y], argTypes := #[t, t'] }, ty, ps, es, none⟩).run P w = .ok (.value (.int k (max a b))) w := by
  simp only [execOp, resolve, invoke, builtin, List.map_toArray, List.map_cons, List.map_nil, eval_fr hx, eval_fr hy, hv, hw]
  simp [Builtin.max_, Builtin.max2]
  omega
theorem rf_cap_slice {e : TypeId} {a : Option Addr} {len cap : Nat} (hu : P.underlying t = some (.slice e)) (hx : okx n x = true) (hv : ev f x = .slice a len cap) :
    (execOp (fr n f).eval ⟨d, .call { callee := .builtin .cap, args := #[x], argTypes := #[t] }, ty, ps, es, none⟩).run P w = .ok (.value (.int .i64 cap)) w := by
  simp [execOp, resolve, invoke, builtin, eval_fr hx, hv, Builtin.cap_, run_underlying hu, goInt]
end
theorem drop_at {α : Type} {l : List α} {i : Nat} {x : α} (h : l[i]? = some x) : l.drop i = x :: l.drop (i + 1) := by
  obtain ⟨hi, rfl⟩ := List.getElem?_eq_some_iff.1 h
  exact List.drop_eq_getElem_cons hi
theorem take_at {α : Type} {l : List α} {i : Nat} {x : α} (h : l[i]? = some x) : l.take (i + 1) = l.take i ++ [x] := by
  obtain ⟨hi, rfl⟩ := List.getElem?_eq_some_iff.1 h
  exact List.take_succ_eq_append_getElem hi
theorem drop_all {α : Type} {l : List α} {i : Nat} (h : l.length ≤ i) : l.drop i = [] := List.drop_eq_nil_of_le h
theorem nil_rd {α : Type} {enc : α → List Value} {sz : Nat} : Le emp (rdH enc sz none 0 0 ([] : List α)) := fun w S h => ⟨S, ⟨rfl, Rd.nil _ _, fun x hx => absurd hx (h x)⟩, fun _ h => h⟩
theorem St.addAll {w0 w : World} {S0 : Nat → Prop} {R L : List HP} (H : St w0 S0 R w L) : St w0 S0 R w (L ++ [allH []]) :=
  H.new (Kp.refl w) (B := allH []) (S := fun _ => False) ⟨fun _ _ => False, ⟨fun i => (fun _ h => h), fun h => h.elim⟩, fun b => ⟨fun h => h.elim, fun ⟨_, h⟩ => h⟩⟩ (fun _ h => h.elim)
theorem shH_map {α : Type} {g : α → HP} {l : List α} {W : World} (h : ∀ y ∈ l, ∃ S, (g y).P W S) : ∃ S, (shH (l.map g)).P W S := by
  refine ⟨fun b => b < W.heap.size, fun b h => h, fun i => ?_⟩
  by_cases hi : i < l.length
  · obtain ⟨S, hS⟩ := h _ (List.getElem_mem hi)
    rw [getH_map g (List.getElem?_eq_getElem hi)]
    exact ⟨S, hS, fun b hb => (g _).lt hS b hb⟩
  · rw [getH_emp (by simp; omega)]; exact ⟨fun _ => False, fun _ h => h, fun _ h => h.elim⟩
end Go.Wk

namespace Go.Wk
set_option linter.unusedVariables false

/-! ## 29. Slices of slices -/
structure Sv where
  a : Option Addr
  n : Nat
  c : Nat
def encSv (x : Sv) : List Value := [.slice x.a x.n x.c]
theorem encSv_len (x : Sv) : (encSv x).length = 1 := rfl
theorem encSv_one (x : Sv) : ∀ u ∈ encSv x, u.oneCell' = true := oneAll
section
variable {α : Type} (enc : α → List Value) (sz : Nat) (e : TypeId)
def ssL : List Sv → List (List α) → List HP
  | s :: hs, l :: ls => slH enc sz e s.a s.n s.c l :: ssL hs ls
  | _, _ => []
def ssH (hs : List Sv) (ls : List (List α)) : HP := allH (ssL enc sz e hs ls)
/-- one of them is elsewhere -/
def ssO (hs : List Sv) (ls : List (List α)) (i : Nat) : HP := allH (setH (ssL enc sz e hs ls) i emp)
variable {enc sz e}
theorem ssL_get : ∀ {hs : List Sv} {ls : List (List α)} {i : Nat} {s : Sv} {l : List α}, hs[i]? = some s → ls[i]? = some l → getH (ssL enc sz e hs ls) i = slH enc sz e s.a s.n s.c l
  | _ :: _, _ :: _, 0, _, _, h1, h2 => by cases h1; cases h2; rfl
  | _ :: hs, _ :: ls, i + 1, _, _, h1, h2 => ssL_get (hs := hs) (ls := ls) (i := i) (by simpa using h1) (by simpa using h2)
theorem ssL_set : ∀ {hs : List Sv} {ls : List (List α)} {i : Nat} {s : Sv} {l : List α}, i < hs.length → i < ls.length → setH (ssL enc sz e hs ls) i (slH enc sz e s.a s.n s.c l) = ssL enc sz e (hs.set i s) (ls.set i l)
  | _ :: _, _ :: _, 0, _, _, _, _ => rfl
  | h :: hs, x :: ls, i + 1, s, l, h1, h2 => congrArg (slH enc sz e h.a h.n h.c x :: ·) (ssL_set (hs := hs) (ls := ls) (i := i) (Nat.lt_of_succ_lt_succ h1) (Nat.lt_of_succ_lt_succ h2))
theorem ssL_len : ∀ {hs : List Sv} {ls : List (List α)}, hs.length = ls.length → (ssL enc sz e hs ls).length = ls.length
  | [], [], _ => rfl
  | _ :: hs, _ :: ls, h => congrArg (· + 1) (ssL_len (hs := hs) (ls := ls) (Nat.succ.inj h))
theorem ssL_app {s : Sv} {l : List α} : ∀ {hs : List Sv} {ls : List (List α)}, hs.length = ls.length → ssL enc sz e (hs ++ [s]) (ls ++ [l]) = ssL enc sz e hs ls ++ [slH enc sz e s.a s.n s.c l]
  | [], [], _ => rfl
  | h :: hs, x :: ls, he => congrArg (slH enc sz e h.a h.n h.c x :: ·) (ssL_app (hs := hs) (ls := ls) (Nat.succ.inj he))
variable {w0 w : World} {S0 : Nat → Prop} {R L : List HP} {hs : List Sv} {ls : List (List α)} {i : Nat} {s t : Sv} {l m : List α}
theorem St.ssNil (H : St w0 S0 R w L) (enc : α → List Value) (sz : Nat) (e : TypeId) : St w0 S0 R w (L ++ [ssH enc sz e [] []]) := H.addAll
theorem St.ssTake (H : St w0 S0 R w L) (k : Nat) (hA : getH L k = ssH enc sz e hs ls) (hlt : hasH L k = true) (hs' : hs[i]? = some s) (hl : ls[i]? = some l) : St w0 S0 R w (setH L k (ssO enc sz e hs ls i) ++ [slH enc sz e s.a s.n s.c l]) :=
  H.takeI k i hA hlt (by
    have : ∀ {hs : List Sv} {ls : List (List α)} {i : Nat}, i < hs.length → i < ls.length → i < (ssL enc sz e hs ls).length := by
      intro hs
      induction hs with
      | nil => intro ls i h; cases h
      | cons h hs ih =>
        intro ls i h1 h2
        cases ls with
        | nil => cases h2
        | cons x ls =>
          cases i with
          | zero => exact Nat.succ_pos _
          | succ i => exact Nat.succ_lt_succ (ih (Nat.lt_of_succ_lt_succ h1) (Nat.lt_of_succ_lt_succ h2))
    exact this (List.getElem?_eq_some_iff.1 hs').1 (List.getElem?_eq_some_iff.1 hl).1) (ssL_get hs' hl)
theorem St.ssGive (H : St w0 S0 R w L) (k j : Nat) (hA : getH L k = ssO enc sz e hs ls i) (hB : getH L j = slH enc sz e t.a t.n t.c m) (hi : okI L [k, j] = true) (he : hs.length = ls.length) (hlt : i < ls.length) : St w0 S0 R w (setH (setH L k (ssH enc sz e (hs.set i t) (ls.set i m))) j emp) := by
  have h := H.giveI k j i hA hB hi (by rw [setH_len, ssL_len he]; exact hlt) (getH_set_same (by rw [ssL_len he]; exact hlt))
  rw [setH_set, ssL_set (by omega) hlt] at h
  exact h
theorem St.ssPush (H : St w0 S0 R w L) (k j : Nat) (hA : getH L k = ssH enc sz e hs ls) (hB : getH L j = slH enc sz e t.a t.n t.c m) (hi : okI L [k, j] = true) (he : hs.length = ls.length) : St w0 S0 R w (setH (setH L k (ssH enc sz e (hs ++ [t]) (ls ++ [m]))) j emp) := by
  have h := H.pushI k j hA hB hi
  rw [← ssL_app he] at h
  exact h
/-- one of them, for reading -/
theorem St.ssR (H : St w0 S0 R w L) (k i : Nat) (hA : getH R k = ssH enc sz e hs ls) (hs' : hs[i]? = some s) (hl : ls[i]? = some l) : St w0 S0 (R ++ [slH enc sz e s.a s.n s.c l]) w L := H.allR k i hA (ssL_get hs' hl)
/-- an owned one opened beside what is owned: to be read alone -/
theorem St.ssRd (H : St w0 S0 R w L) (k i : Nat) (hA : getH L k = ssH enc sz e hs ls) (hs' : hs[i]? = some s) (hl : ls[i]? = some l) : ∃ S, (rdH enc sz s.a s.n s.c l).P w S := by
  obtain ⟨S, hS⟩ := H.get k hA
  obtain ⟨F, hF, _⟩ := hS
  have h := hF.at_ i
  rw [ssL_get hs' hl] at h
  obtain ⟨S', h', _⟩ := slH_rd w _ h
  exact ⟨S', h'⟩
end
/-- all that is owned, for reading alone -/
theorem St.asRead {w0 w : World} {S0 : Nat → Prop} {R L : List HP} (H : St w0 S0 R w L) : St w none_ (R ++ L) w [] :=
  ⟨⟨fun _ _ => False, ⟨fun i => (fun _ h => h), fun h => h.elim⟩, fun b ⟨_, h⟩ => h.elim⟩, Kp.refl w, fun i => by
    rw [getH_app]
    by_cases hi : i < R.length
    · rw [if_pos hi]
      obtain ⟨S, h1, h2⟩ := H.ro i
      exact ⟨S, h1, fun b hb => ⟨fun h => h, (getH R i).lt h1 b hb⟩⟩
    · rw [if_neg hi]
      obtain ⟨F, hF, _⟩ := H.own
      exact ⟨_, hF.at_ _, fun b hb => ⟨fun h => h, (getH L _).lt (hF.at_ _) b hb⟩⟩⟩
end Go.Wk

namespace Go.Wk
set_option linter.unusedVariables false

/-! ## 30. A slice that grows beside the one that it came of -/
section
variable {P : Program} {n : NN} {f : Nat → Value} {w w0 : World} {S0 : Nat → Prop} {R L : List HP} {Q : Exit → Act → World → Prop} {ops : Array Oper} {rest : List Oper} {d : Option Nat} {ty : TypeId} {ps : String} {es : Array Edge} {α : Type} {enc : α → List Value} {sz : Nat}
theorem wl_append2 {S : Nat → Prop} {t e : TypeId} {x y : Operand} {z : Value} {bytes : Nat} {a1 a2 : Option Addr} {n1 c1 n2 c2 : Nat} {l r : List α} {N : Nat} (hsz : ∀ x, (enc x).length = sz) (h1 : ∀ x, ∀ c ∈ enc x, c.oneCell' = true) (hu : P.underlying t = some (.slice e)) (hi : TI P e (some z) sz bytes) (hz : z.cells.size = sz) (hx : okx n x = true) (hy : okx n y = true) (hv : ev f x = .slice a1 n1 c1) (hw : ev f y = .slice a2 n2 c2)
    (hs : (slH enc sz e a1 n1 c1 l).P w S) (hr : ∃ S, (rdH enc sz a2 n2 c2 r).P w S) (hN : n1 + n2 = N) (h63 : N ≤ 9223372036854775807) (hb : N * bytes ≤ 140737488355328)
    (hroom : ∀ w', N ≤ c1 → Kp S w w' → (slH enc sz e a1 N c1 (l ++ r)).P w' S → WL P ops Q rest n (putD f d (.slice a1 N c1)) w')
    (hgrow : ∀ a' c' w' S', N ≤ c' → c1 < N → Kp none_ w w' → (slH enc sz e a' N c' (l ++ r)).P w' S' → (∀ b, S' b → w.heap.size ≤ b) → WL P ops Q rest n (putD f d (.slice a' N c')) w') :
    WL P ops Q (⟨d, .call { callee := .builtin .append, args := #[x, y], argTypes := #[t, t] }, ty, ps, es, none⟩ :: rest) n f w := by
  subst hN
  obtain ⟨hn1, hs⟩ := hs
  have hrl := (rd_len hr).1
  obtain ⟨S2, _, ⟨ya, yc, hyv, hyc, hyr⟩, _⟩ := hr
  cases hyv
  subst hn1
  have hnl := flat_length hsz r
  have hnews : 0 < (r.flatMap enc).length → ∃ b o, a2 = some ⟨b, o, none⟩ ∧ ∀ j v, (r.flatMap enc)[j]? = some v → w.cell? ⟨b, o + j, none⟩ = some v := by
    intro hp
    have hr0 : 0 < r.length := by
      rcases Nat.eq_zero_or_pos r.length with h0 | h0
      · rw [hnl, h0] at hp; omega
      · exact h0
    obtain ⟨b, o, h2, h3, h4, h5⟩ := hyr hr0
    refine ⟨b, o, h2, fun k c hk => ?_⟩
    obtain ⟨i, x, j, h6, h7, h8, h9⟩ := flat_inv hsz r k c hk
    rw [h8, ← Nat.add_assoc]
    exact h5 i x h6 j c h7
  have hone : ∀ c ∈ r.flatMap enc, c.oneCell' = true := by
    intro c hc
    obtain ⟨x, hx, hc⟩ := List.mem_flatMap.1 hc
    exact h1 x c hc
  have fin : ∀ v' w', (Builtin.append_ #[t, t] ty #[.slice a1 l.length c1, .slice a2 r.length c2]).run P w = .ok v' w' → WL P ops Q rest n (putD f d v') w' → WL P ops Q (⟨d, .call { callee := .builtin .append, args := #[x, y], argTypes := #[t, t] }, ty, ps, es, none⟩ :: rest) n f w := by
    intro v' w' hrun h
    refine wl_val rfl (v := v') (w' := w') ?_ h
    simp only [execOp, resolve, invoke, builtin, Sem.run_bind, Sem.run_pure, Result.andThen_ok, List.map_toArray, List.map_cons, List.map_nil, eval_fr hx, eval_fr hy, hv, hw, hrun]
  -- a new row
  have grow : c1 < l.length + r.length → (0 < (l.flatMap enc).length → ∃ b o, a1 = some ⟨b, o, none⟩ ∧ ∀ j v, (l.flatMap enc)[j]? = some v → w.cell? ⟨b, o + j, none⟩ = some v) → WL P ops Q (⟨d, .call { callee := .builtin .append, args := #[x, y], argTypes := #[t, t] }, ty, ps, es, none⟩ :: rest) n f w := by
    intro hc holds
    have hrun := run_append_grow' (P := P) (w := w) t ty e hu hi a1 l.length c1 (l.flatMap enc) (flat_length hsz l) holds a2 r.length c2 (r.flatMap enc) hnl hnews hc h63 (growslice_fits hc hb)
    refine fin _ _ hrun (hgrow _ _ _ (fun x => x = w.heap.size) (grownCap_ge w _ c1 e) hc ((Kp.drew w).trans (Kp.alloc _ _)) (slH_of_at (by rw [List.length_append]) ⟨_, Blk.new w.drew _, ?_, ?_, ?_, ?_⟩) (fun b hb => hb ▸ Nat.le_refl _))
    · rw [List.length_append]; exact grownCap_ge w _ c1 e
    · have := grownCap_le_maxLen w (l.length + r.length) c1 e (by simp only [maxLen]; omega)
      simpa [maxLen] using this
    · have hge := grownCap_ge w (l.length + r.length) c1 e
      simp only [Array.size_append, List.size_toArray, size_zeroCells, hz, flat_length hsz]
      rw [← Nat.add_mul, ← Nat.add_mul, Nat.zero_add]
      exact Nat.mul_le_mul_right _ (by omega)
    · intro i x hx j c hjc
      rw [Nat.zero_add]
      have h6 : (l ++ r).flatMap enc = l.flatMap enc ++ r.flatMap enc := List.flatMap_append
      have h7 := flat_get hsz (l ++ r) i x hx j c hjc
      rw [h6] at h7
      have h8 : i * sz + j < (l.flatMap enc ++ r.flatMap enc).length := (List.getElem?_eq_some_iff.1 h7).1
      rw [Array.getElem?_append_left (by simpa using h8)]
      rw [show (l.flatMap enc).toArray ++ (r.flatMap enc).toArray = (l.flatMap enc ++ r.flatMap enc).toArray from by simp]
      simpa using h7
  rcases hs with ⟨rfl, rfl, rfl, hS⟩ | ⟨b, o, rfl, ⟨A, hB, hlc, hcm, hfit, hA⟩, hS⟩
  · by_cases h0 : r.length = 0
    · have : r = [] := List.eq_nil_of_length_eq_zero h0
      subst this
      have hf := run_firstCells' (P := P) (w := w) sz 0 a2 0 c2 [] (by simp) (fun h => by simp at h)
      refine fin (.slice none 0 0) w ?_ (hroom w (by simp) (Kp.refl w) ⟨rfl, .inl ⟨rfl, rfl, rfl, hS⟩⟩)
      simp [Builtin.append_, run_underlying hu, run_sizeOf' hi, Builtin.lenOf, hf]
    · exact grow (by simp; omega) (fun h => by simp at h)
  · by_cases hroom' : l.length + r.length ≤ c1
    · have hfit2 : o + l.length * sz + (r.flatMap enc).length ≤ A.size := by
        rw [hnl, Nat.add_assoc, ← Nat.add_mul]
        exact Nat.le_trans (Nat.add_le_add_left (Nat.mul_le_mul_right _ hroom') _) hfit
      have hrun := run_append_room' (P := P) (w := w) t ty e hu hi b o l.length c1 A e hB a2 r.length c2 (r.flatMap enc) hnl hnews hone hroom' hfit2
      refine fin _ _ hrun (hroom _ hroom' ((Kp.setRow w b _).mono (fun k _ hk => (hS k).2 hk)) ⟨by rw [List.length_append], .inr ⟨b, o, rfl, ⟨_, setRow_heap w b A _ e (0, 0) hB, by rw [List.length_append]; exact hroom', hcm, by rw [spl_size hfit2]; exact hfit, ?_⟩, hS⟩⟩)
      intro i x hx j c hjc
      have hj : j < sz := by
        rw [← hsz x]
        exact (List.getElem?_eq_some_iff.1 hjc).1
      rcases Nat.lt_or_ge i l.length with h2 | h2
      · rw [List.getElem?_append_left h2] at hx
        have h3 : i * sz + j < l.length * sz := by
          have : (i + 1) * sz ≤ l.length * sz := Nat.mul_le_mul_right _ h2
          rw [Nat.succ_mul] at this
          omega
        rw [spl_get_out hfit2 _ (.inl (by omega))]
        exact hA i x hx j c hjc
      · rw [List.getElem?_append_right h2] at hx
        have h3 := flat_get hsz r _ x hx j c hjc
        have h4 : (i - l.length) * sz + j < (r.flatMap enc).length := (List.getElem?_eq_some_iff.1 h3).1
        have h5 : o + i * sz + j = (o + l.length * sz) + ((i - l.length) * sz + j) := by
          have : i * sz = l.length * sz + (i - l.length) * sz := by rw [← Nat.add_mul]; congr 1; omega
          omega
        rw [h5, spl_get_in hfit2 _ h4]
        exact h3
    · refine grow (by omega) (fun hp => ⟨b, o, rfl, fun k c hk => ?_⟩)
      obtain ⟨i, x, j, h6, h7, h8, h9⟩ := flat_inv hsz l k c hk
      rw [h8, ← Nat.add_assoc]
      exact hB.cell (hA i x h6 j c h7)
end
section
variable {α : Type} {enc : α → List Value} {sz : Nat} {e : TypeId}
/-- one or the other -/
def orH (A B : HP) : HP := ⟨fun w S => A.P w S ∨ B.P w S, fun h => h.elim A.lt B.lt, fun h hk hd => h.imp (fun h => A.kp h hk hd) (fun h => B.kp h hk hd)⟩
/-- the slice (a, n, c, l), and one (a', n', c', l') that has grown out of it: in its own row or in another -/
def growH (enc : α → List Value) (sz : Nat) (e : TypeId) (a : Option Addr) (n c : Nat) (l : List α) (a' : Option Addr) (n' c' : Nat) (l' : List α) : HP :=
  orH (repH (fun _ : Unit => a' = a ∧ c' = c ∧ n ≤ n' ∧ l'.take n = l) fun _ => [slH enc sz e a n' c l']) (allH [slH enc sz e a n c l, slH enc sz e a' n' c' l'])
end
section
variable {P : Program} {n : NN} {f : Nat → Value} {w w0 : World} {S0 : Nat → Prop} {R L : List HP} {Q : Exit → Act → World → Prop} {ops : Array Oper} {rest : List Oper} {d : Option Nat} {ty : TypeId} {ps : String} {es : Array Edge} {α : Type} {enc : α → List Value} {sz : Nat} {A B : HP} {t e : TypeId} {a a' : Option Addr} {m c m' c' : Nat} {l l' : List α}
theorem St.orL (H : St w0 S0 R w L) (k : Nat) (hA : getH L k = orH A B) (hlt : hasH L k = true) : St w0 S0 R w (setH L k A) ∨ St w0 S0 R w (setH L k B) := by
  obtain ⟨F, hF, hS⟩ := H.own
  have hk := hF.at_ k
  rw [hA] at hk
  have key : ∀ C : HP, C.P w (F k) → St w0 S0 R w (setH L k C) := fun C hC => by
    have h2 := hF.set (A := C) (S := F k) (hasH_lt hlt) hC (fun j hj b h1 h2 => hj (hF.sep h1 h2))
    refine ⟨⟨_, h2, fun b hb => ?_⟩, H.kpt, H.ro⟩
    rcases fset_tot hb with hb | hb
    · exact hS b hb
    · exact hS b ⟨k, hb⟩
  exact hk.imp (key A) (key B)
theorem Le.orl : Le A (orH A B) := fun w S h => ⟨S, .inl h, fun _ h => h⟩
theorem Le.orr : Le B (orH A B) := fun w S h => ⟨S, .inr h, fun _ h => h⟩
theorem slH_grow (hn : m = l.length) : Le (slH enc sz e a m c l) (growH enc sz e a m c l a m c l) := fun w S h =>
  ⟨S, .inl ⟨(), ⟨rfl, rfl, Nat.le_refl _, by rw [hn]; exact List.take_length⟩, _, OwnF.one (S := S) h, fun b => ⟨fun h => ⟨0, rfl, h⟩, fun ⟨_, _, h⟩ => h⟩⟩, fun _ h => h⟩
theorem growH_old : Le (growH enc sz e a m c l a' m' c' l') (slH enc sz e a m c l) := fun w S h => by
  rcases h with ⟨_, ⟨rfl, rfl, h1, h2⟩, F, hF, hS⟩ | ⟨F, hF, hS⟩
  · obtain ⟨S', h3, h4⟩ := slH_take (xs := l') m h1 w _ hF.get1
    rw [h2] at h3
    exact ⟨S', h3, fun b hb => (hS b).2 ⟨0, h4 b hb⟩⟩
  · exact ⟨F 0, hF.get1, fun b hb => (hS b).2 ⟨0, hb⟩⟩
theorem growH_new : Le (growH enc sz e a m c l a' m' c' l') (slH enc sz e a' m' c' l') := fun w S h => by
  rcases h with ⟨_, ⟨rfl, rfl, h1, h2⟩, F, hF, hS⟩ | ⟨F, hF, hS⟩
  · exact ⟨F 0, hF.get1, fun b hb => (hS b).2 ⟨0, hb⟩⟩
  · exact ⟨F 1, hF.at_ 1, fun b hb => (hS b).2 ⟨1, hb⟩⟩
theorem wl_appendGH (H : St w0 S0 R w L) (k : Nat) {x y : Operand} {z : Value} {bytes : Nat} {a2 : Option Addr} {n2 c2 : Nat} {r : List α} {N : Nat} (hA : getH L k = growH enc sz e a m c l a' m' c' l') (hlt : hasH L k = true) (hsz : ∀ x, (enc x).length = sz) (h1 : ∀ x, ∀ c ∈ enc x, c.oneCell' = true) (hu : P.underlying t = some (.slice e)) (hi : TI P e (some z) sz bytes) (hz : z.cells.size = sz) (hx : okx n x = true) (hy : okx n y = true) (hv : ev f x = .slice a' m' c') (hw : ev f y = .slice a2 n2 c2)
    (hr : ∃ S, (rdH enc sz a2 n2 c2 r).P w S) (hN : m' + n2 = N) (h63 : N ≤ 9223372036854775807) (hb : N * bytes ≤ 140737488355328)
    (h : ∀ a'' c'' w', St w0 S0 R w' (setH L k (growH enc sz e a m c l a'' N c'' (l' ++ r))) → WL P ops Q rest n (putD f d (.slice a'' N c'')) w') :
    WL P ops Q (⟨d, .call { callee := .builtin .append, args := #[x, y], argTypes := #[t, t] }, ty, ps, es, none⟩ :: rest) n f w := by
  have hl := hasH_lt hlt
  obtain ⟨F, hF, hS⟩ := H.own
  have hk := hF.at_ k
  rw [hA] at hk
  -- the state behind, out of what its k-th assertion has become
  have back : ∀ w' T S' a'' c'', Kp T w w' → (∀ b, b < w.heap.size → T b → F k b) → (growH enc sz e a m c l a'' N c'' (l' ++ r)).P w' S' → (∀ b, S' b → F k b ∨ w.heap.size ≤ b) → St w0 S0 R w' (setH L k (growH enc sz e a m c l a'' N c'' (l' ++ r))) := by
    intro w' T S' a'' c'' hkp hT hP hS'
    have hlt' : ∀ i b, F i b → b < w.heap.size := fun i b hb => (getH L i).lt (hF.at_ i) b hb
    have hF0 : OwnF w (fset F k (fun _ => False)) (setH L k emp) := hF.set hl (fun _ h => h) (fun _ _ _ _ h => h)
    have hF1 : OwnF w' (fset F k (fun _ => False)) (setH L k emp) := by
      refine hF0.kp hkp fun b ⟨i, hb⟩ hTb => ?_
      rcases hb with ⟨_, hb⟩ | ⟨hne, hb⟩
      · exact hb
      · exact hne (hF.sep hb (hT b (hlt' i b hb) hTb))
    have hF2 := hF1.set (i := k) (S := S') (by rw [setH_len]; exact hl) hP (fun j hj b hb hs => by
      rcases hb with ⟨hb, _⟩ | ⟨_, hb⟩
      · exact hj hb
      · rcases hS' b hs with h3 | h3
        · exact hj (hF.sep hb h3)
        · have := hlt' j b hb; omega)
    rw [setH_set] at hF2
    have hTS : ∀ b, b < w0.heap.size → T b → S0 b := fun b hb hTb => by
      have hb' : b < w.heap.size := Nat.lt_of_lt_of_le hb H.kpt.size
      rcases hS b ⟨k, hT b hb' hTb⟩ with h3 | h3
      · exact h3
      · omega
    refine ⟨⟨_, hF2, fun b hb => ?_⟩, H.kpt.comp hkp hTS, fun i => ?_⟩
    · rcases fset_tot hb with hb | hb
      · rcases fset_tot hb with hb | hb
        · exact hS b hb
        · exact hb.elim
      · rcases hS' b hb with h3 | h3
        · exact hS b ⟨k, h3⟩
        · exact .inr (Nat.le_trans H.kpt.size h3)
    · obtain ⟨S, h3, h4⟩ := H.ro i
      exact ⟨S, (getH R i).kp h3 hkp (fun b hb hTb => (h4 b hb).1 (hTS b (h4 b hb).2 hTb)), h4⟩
  rcases hk with ⟨_, ⟨rfl, rfl, hm, htk⟩, G, hG, hGS⟩ | ⟨G, hG, hGS⟩
  · have hs := hG.get1
    have hFG : ∀ b, G 0 b → F k b := fun b hb => (hGS b).2 ⟨0, hb⟩
    have hml : m' = l'.length := hs.1
    refine wl_append2 hsz h1 hu hi hz hx hy hv hw hs hr hN h63 hb ?_ ?_
    · intro w' hroom hkp hP
      refine h _ _ w' (back w' (G 0) (G 0) _ _ hkp (fun b _ hb => hFG b hb) (.inl ⟨(), ⟨rfl, rfl, by omega, ?_⟩, _, OwnF.one (S := G 0) hP, fun b => ⟨fun h => ⟨0, rfl, h⟩, fun ⟨_, _, h⟩ => h⟩⟩) (fun b hb => .inl (hFG b hb)))
      rw [List.take_append_of_le_length (by omega)]; exact htk
    · intro a'' c'' w' S' hc hlt2 hkp hP hS'
      have ho := slH_take (xs := l') m hm w _ hs
      rw [htk] at ho
      obtain ⟨So, ho1, ho2⟩ := ho
      refine h _ _ w' (back w' none_ (fun b => So b ∨ S' b) _ _ hkp (fun b _ h => h.elim) (.inr ⟨fun i b => (i = 0 ∧ So b) ∨ (i = 1 ∧ S' b), ⟨fun i => ?_, ?_⟩, fun b => ?_⟩) (fun b hb => hb.imp (fun h => hFG b (ho2 b h)) (hS' b)))
      · match i with
        | 0 => have e9 : (fun b => ((0 : Nat) = 0 ∧ So b) ∨ (0 = 1 ∧ S' b)) = So := by funext b; simp
               show (slH enc sz e _ m _ l).P w' _
               rw [e9]; exact (slH enc sz e _ m _ l).kp ho1 hkp (fun _ _ h => h)
        | 1 => have e9 : (fun b => ((1 : Nat) = 0 ∧ So b) ∨ (1 = 1 ∧ S' b)) = S' := by funext b; simp
               show (slH enc sz e a'' N c'' (l' ++ r)).P w' _
               rw [e9]; exact hP
        | i + 2 => intro b hb; simp at hb
      · rintro i j b (⟨rfl, h2⟩ | ⟨rfl, h2⟩) (⟨rfl, h3⟩ | ⟨rfl, h3⟩)
        · rfl
        · have := (slH enc sz e _ m _ l).lt ho1 b h2; have := hS' b h3; omega
        · have := (slH enc sz e _ m _ l).lt ho1 b h3; have := hS' b h2; omega
        · rfl
      · constructor
        · rintro (h | h)
          · exact ⟨0, .inl ⟨rfl, h⟩⟩
          · exact ⟨1, .inr ⟨rfl, h⟩⟩
        · rintro ⟨i, ⟨_, h⟩ | ⟨_, h⟩⟩
          · exact .inl h
          · exact .inr h
  · have ho := hG.at_ 0
    have hs := hG.at_ 1
    have hF0 : ∀ i b, G i b → F k b := fun i b hb => (hGS b).2 ⟨i, hb⟩
    refine wl_append2 hsz h1 hu hi hz hx hy hv hw hs hr hN h63 hb ?_ ?_
    · intro w' hroom hkp hP
      refine h _ _ w' (back w' (G 1) (fun b => G 0 b ∨ G 1 b) _ _ hkp (fun b _ hb => hF0 1 b hb) (.inr ⟨fun i b => (i = 0 ∧ G 0 b) ∨ (i = 1 ∧ G 1 b), ⟨fun i => ?_, ?_⟩, fun b => ?_⟩) (fun b hb => .inl (hb.elim (hF0 0 b) (hF0 1 b))))
      · match i with
        | 0 => have e9 : (fun b => ((0 : Nat) = 0 ∧ G 0 b) ∨ (0 = 1 ∧ G 1 b)) = G 0 := by funext b; simp
               show (slH enc sz e a m c l).P w' _
               rw [e9]; exact (slH enc sz e a m c l).kp ho hkp (fun b h1 h2 => absurd (hG.sep h1 h2) (by decide))
        | 1 => have e9 : (fun b => ((1 : Nat) = 0 ∧ G 0 b) ∨ (1 = 1 ∧ G 1 b)) = G 1 := by funext b; simp
               show (slH enc sz e a' N c' (l' ++ r)).P w' _
               rw [e9]; exact hP
        | i + 2 => intro b hb; simp at hb
      · rintro i j b (⟨rfl, h2⟩ | ⟨rfl, h2⟩) (⟨rfl, h3⟩ | ⟨rfl, h3⟩)
        · rfl
        · exact hG.sep h2 h3
        · exact hG.sep h2 h3
        · rfl
      · constructor
        · rintro (h | h)
          · exact ⟨0, .inl ⟨rfl, h⟩⟩
          · exact ⟨1, .inr ⟨rfl, h⟩⟩
        · rintro ⟨i, ⟨_, h⟩ | ⟨_, h⟩⟩
          · exact .inl h
          · exact .inr h
    · intro a'' c'' w' S' hc hlt2 hkp hP hS'
      refine h _ _ w' (back w' none_ (fun b => G 0 b ∨ S' b) _ _ hkp (fun b _ h => h.elim) (.inr ⟨fun i b => (i = 0 ∧ G 0 b) ∨ (i = 1 ∧ S' b), ⟨fun i => ?_, ?_⟩, fun b => ?_⟩) (fun b hb => hb.imp (hF0 0 b) (hS' b)))
      · match i with
        | 0 => have e9 : (fun b => ((0 : Nat) = 0 ∧ G 0 b) ∨ (0 = 1 ∧ S' b)) = G 0 := by funext b; simp
               show (slH enc sz e a m c l).P w' _
               rw [e9]; exact (slH enc sz e a m c l).kp ho hkp (fun _ _ h => h)
        | 1 => have e9 : (fun b => ((1 : Nat) = 0 ∧ G 0 b) ∨ (1 = 1 ∧ S' b)) = S' := by funext b; simp
               show (slH enc sz e a'' N c'' (l' ++ r)).P w' _
               rw [e9]; exact hP
        | i + 2 => intro b hb; simp at hb
      · rintro i j b (⟨rfl, h2⟩ | ⟨rfl, h2⟩) (⟨rfl, h3⟩ | ⟨rfl, h3⟩)
        · rfl
        · have := (slH enc sz e a m c l).lt ho b h2; have := hS' b h3; omega
        · have := (slH enc sz e a m c l).lt ho b h3; have := hS' b h2; omega
        · rfl
      · constructor
        · rintro (h | h)
          · exact ⟨0, .inl ⟨rfl, h⟩⟩
          · exact ⟨1, .inr ⟨rfl, h⟩⟩
        · rintro ⟨i, ⟨_, h⟩ | ⟨_, h⟩⟩
          · exact .inl h
          · exact .inr h
/-- an array as a slice -/
theorem rf_sliceArr {ta el : TypeId} {len : Nat} {x : Operand} {b : Nat} {z : Option Value} {size bytes : Nat} (hu : P.underlying t = some (.array len el)) (hti : TI P el z size bytes) (hx : okx n x = true) (hv : ev f x = .pointer (some ⟨b, 0, none⟩)) :
    (execOp (fr n f).eval ⟨d, .slice t x none none none, ty, ps, es, none⟩).run P w = .ok (.value (.slice (some ⟨b, 0, none⟩) len len)) w := by
  simp only [execOp]
  rw [eval_fr hx, hv]
  simp [Instr.sliceAt, run_underlying hu, Instr.sliceBounds, Instr.sureAddr, run_sizeOf' hti, add_at, Instr.slice]
theorem ss_rd {hs : List Sv} {ls : List (List α)} {i : Nat} {s : Sv} {x : List α} (h1 : hs[i]? = some s) (h2 : ls[i]? = some x) : Le (ssH enc sz e hs ls) (rdH enc sz s.a s.n s.c x) := fun w S ⟨F, hF, hS⟩ => by
  have h := hF.at_ i
  rw [ssL_get h1 h2] at h
  obtain ⟨S', h3, h4⟩ := slH_rd w _ h
  exact ⟨S', h3, fun b hb => (hS b).2 ⟨i, h4 b hb⟩⟩
theorem blk_rd {b : Nat} {A : Array Value} (hsz : ∀ x, (enc x).length = sz) (h63 : l.length ≤ 9223372036854775807) (hA : A = (l.flatMap enc).toArray) : Le (blkH b A e) (rdH enc sz (some ⟨b, 0, none⟩) l.length l.length l) := fun w S ⟨h, hS⟩ => by
  subst hA
  exact ⟨S, ⟨rfl, (SlAt.of_blk hsz h63 h).rd ((hS b).2 rfl), fun x hx => (hS x).1 hx ▸ h.lt⟩, fun _ h => h⟩
end
end Go.Wk

namespace Go.Wk
set_option linter.unusedVariables false

/-! ## 31. A range over a function, in these words -/
def objH (b : Nat) (o : Obj) : HP := ⟨fun w S => Blk w b o ∧ ∀ x, S x ↔ x = b, fun h x hx => (h.2 x).1 hx ▸ h.1.lt, fun h hk hd => ⟨h.1.kp hk (hd _ ((h.2 _).2 rfl)), h.2⟩⟩
/-- a block that is owned, whatever it holds -/
def anyH (b : Nat) : HP := ⟨fun w S => b < w.heap.size ∧ ∀ x, S x ↔ x = b, fun h x hx => (h.2 x).1 hx ▸ h.1, fun h hk hd => ⟨Nat.lt_of_lt_of_le h.1 hk.size, h.2⟩⟩
/-- a loop's record, its deferred calls in block D -/
def loopH (l D : Nat) (rb : Loop) : HP := ⟨fun w S => (Blk w l (.loop rb) ∧ rb.defers = D) ∧ ∀ x, S x ↔ x = l, fun h x hx => (h.2 x).1 hx ▸ h.1.1.lt, fun h hk hd => ⟨⟨h.1.1.kp hk (hd _ ((h.2 _).2 rfl)), h.1.2⟩, h.2⟩⟩
/-- the blocks for the rounds' deferred calls -/
def mksH (Ds : List Nat) : HP := ⟨fun w S => (∀ D ∈ Ds, Blk w D (.deferred (some []))) ∧ Ds.Nodup ∧ ∀ x, S x ↔ x ∈ Ds, fun h x hx => (h.1 x ((h.2.2 x).1 hx)).lt, fun h hk hd => ⟨fun D hD => (h.1 D hD).kp hk (hd _ ((h.2.2 _).2 hD)), h.2⟩⟩
section
variable {w w' w0 : World} {S0 : Nat → Prop} {R L : List HP} {l D : Nat} {Ds : List Nat} {rb : Loop}
theorem loopH_any : Le (loopH l D rb) (anyH l) := fun w S h => ⟨S, ⟨h.1.1.lt, h.2⟩, fun _ h => h⟩
theorem St.addMks (H : St w0 S0 R w L) : St w0 S0 R w (L ++ [mksH []]) := H.new (B := mksH []) (S := fun _ => False) (Kp.refl w) ⟨fun _ h => by simp at h, List.nodup_nil, fun x => by simp⟩ (fun _ h => h.elim)
theorem St.anyKp (H : St w0 S0 R w L) (k : Nat) (hA : getH L k = anyH l) (hlt : hasH L k = true) (hk : Kp (fun y => y = l) w w') : St w0 S0 R w' L := by
  have h := H.upd k hA (hasH_lt hlt) hk (fun S h b _ hb => (h.2 b).2 hb) (B := anyH l) (fun S h => ⟨S, ⟨Nat.lt_of_lt_of_le h.1 hk.size, h.2⟩, fun b hb => .inl hb⟩)
  have e : setH L k (anyH l) = L := by
    rw [← hA]
    clear h hk H hlt hA
    induction L generalizing k with
    | nil => rfl
    | cons A L ih =>
      cases k with
      | zero => rfl
      | succ k => simp only [setH, getH]; rw [ih k]
  rw [e] at h; exact h
theorem St.anyLoop (H : St w0 S0 R w L) (k : Nat) (hA : getH L k = anyH l) (hlt : hasH L k = true) (hb : Blk w l (.loop rb)) (hd : rb.defers = D) : St w0 S0 R w (setH L k (loopH l D rb)) :=
  H.upd k hA (hasH_lt hlt) (T := none_) (Kp.refl w) (fun _ _ _ _ h => h.elim) (fun S h => ⟨S, ⟨⟨hb, hd⟩, h.2⟩, fun b hb => .inl hb⟩)
theorem St.loopBlk (H : St w0 S0 R w L) (k : Nat) (hA : getH L k = loopH l D rb) : Blk w l (.loop rb) ∧ rb.defers = D := let ⟨_, h⟩ := H.get k hA; h.1
theorem St.mkPop (H : St w0 S0 R w L) (k : Nat) (hA : getH L k = mksH (D :: Ds)) (hlt : hasH L k = true) : Blk w D (.deferred (some [])) ∧ St w0 S0 R (w.putObj D (.deferred none)) (setH L k (mksH Ds)) := by
  obtain ⟨S1, h1⟩ := H.get k hA
  have hb := h1.1 D (by simp)
  refine ⟨hb, H.upd k hA (hasH_lt hlt) (Kp.putObj w D (.deferred none)) (fun S h b _ e => (h.2.2 b).2 (by rw [e]; simp)) fun S h => ⟨fun b => b ∈ Ds, ⟨fun E hE => ?_, (List.nodup_cons.1 h.2.1).2, fun x => Iff.rfl⟩, fun b hb => .inl ((h.2.2 b).2 (by simp [hb]))⟩⟩
  exact (h.1 E (by simp [hE])).kp (Kp.putObj w D (.deferred none)) (fun e => (List.nodup_cons.1 h.2.1).1 (e ▸ hE))
end
theorem setH_set2 (L : List HP) (k : Nat) (A B : HP) : setH (setH L k A) k B = setH L k B := setH_set
theorem hasH_set {L : List HP} {k : Nat} {A : HP} (h : hasH L k = true) : hasH (setH L k A) k = true := by
  induction L generalizing k with
  | nil => exact h
  | cons B L ih =>
    cases k with
    | zero => rfl
    | succ k => exact ih h
section
variable {P : Program} {n : NN} {f : Nat → Value} {w w0 : World} {S0 : Nat → Prop} {R L : List HP} {Q : Exit → Act → World → Prop}
theorem enterM {k : FuncId} {fn : Func} {c : Code} {args : List Value} {m : Nat} {Φ : Value → World → Prop} (hf : P.funcs[k]? = some fn) (hb : fn.body = some c) (hm : fn.ntmps = m)
    (hle : Nat.ble args.length m = true) (h : ∀ g : Nat → Value, wr ⟨m, [], none⟩ P c (bodyPostM (WI none) 0 P fn (RetE Φ)) (fr ⟨m, [], none⟩ (upds g (enumA 0 args))) w) : Ret P k args w Φ := by
  refine callsIn_wide.1 (callsIn_of_wp_marks (F := Fence.wide) (n := 0) hf hb trivial ?_)
  have hle' : args.length ≤ m := Nat.le_of_ble_eq_true hle
  have e : ({ tmps := args.toArray ++ Array.replicate (fn.ntmps - args.toArray.size) undef, defers := [] } : Act) = fr ⟨m, [], none⟩ (fun i => args.getD i undef) := by
    simp only [fr]
    congr 1
    apply Array.ext
    · simp [hm]; omega
    · intro i h1 h2
      simp only [Array.size_ofFn] at h2
      simp only [Array.getElem_ofFn]
      rw [Array.getElem_append]
      split
      · rename_i hi
        simp only [List.size_toArray] at hi
        simp [List.getD_eq_getElem?_getD, List.getElem?_eq_getElem hi]
      · rename_i hi
        simp only [List.size_toArray] at hi
        simp [List.getD_eq_getElem?_getD, List.getElem?_eq_none (Nat.not_lt.1 hi)]
  rw [e]
  have e2 : (fun i => args.getD i undef) = upds (fun i => args.getD i undef) (enumA 0 args) := upds_self (allEq_enumA (fun i v hv => by rw [Nat.zero_add]; simp [List.getD_eq_getElem?_getD, hv]))
  rw [e2]
  exact h _ (fun ⟨a, w, v, h, _⟩ => by cases h)
theorem finM {fn : Func} {Φ : Value → World → Prop} {Ds : List Nat} (H : St w0 S0 R w L) (k : Nat) (hA : getH L k = mksH Ds) (hlt : hasH L k = true) (hds : n.ds = marks Ds)
    (h : ∀ w', St w0 S0 R w' (setH L k (mksH [])) → bodyPost P fn (RetE Φ) .ret (fr ⟨n.n, [], none⟩ f) w') : bodyPostM (WI none) 0 P fn (RetE Φ) .ret (fr n f) w := by
  show LeavesInM (WI none) 0 P fn (fr n f).tmps (RetE Φ) n.ds .returning w
  rw [hds]
  clear hds
  induction Ds generalizing w L with
  | nil =>
    have e : setH L k (mksH []) = L := by
      rw [← hA]
      clear h H hlt hA
      induction L generalizing k with
      | nil => rfl
      | cons A L ih =>
        cases k with
        | zero => rfl
        | succ k => simp only [setH, getH]; rw [ih k]
    obtain ⟨_, v, h1, h2⟩ := h w (by rw [e]; exact H)
    exact ⟨v, h1, h2⟩
  | cons D Ds ih =>
    obtain ⟨hb, H2⟩ := H.mkPop k hA hlt
    refine ⟨by simp, .inl ⟨D, _, rfl, run_takeDeferred hb, ?_⟩⟩
    exact ih H2 (getH_set_same (hasH_lt hlt)) (hasH_set hlt) (fun w' h' => h w' (by rw [setH_set] at h'; exact h'))
theorem wrD {n n' : NN} {c : Code} (hro : n'.ro = n.ro) (h : wr n' P c Q (fr n' f) w) : wr n P c Q (fr n' f) w := by
  unfold wr at h ⊢; rw [hro] at h; exact h
/-- A loop in which marks come. -/
theorem loopD_ {c : Code} (I : Nat → List Nat → (Nat → Value) → World → Prop) (k : Nat) (Ds : List Nat) (hds : n.ds = marks Ds) (h0 : I k Ds f w)
    (round : ∀ k Ds f w, I k Ds f w → wr ⟨n.n, marks Ds, n.ro⟩ P c (Exit.then (fun a' w' => ∃ k' Ds' f', a' = fr ⟨n.n, marks Ds', n.ro⟩ f' ∧ k' < k ∧ I k' Ds' f' w') Q) (fr ⟨n.n, marks Ds, n.ro⟩ f) w) : wr n P (Code.loop c) Q (fr n f) w := fun ho => by
  have key : ∀ m k Ds f w, k ≤ m → I k Ds f w → Code.roundsIn (WI n.ro) 0 P c Q (m + 1) (fr ⟨n.n, marks Ds, n.ro⟩ f) w := by
    intro m
    induction m with
    | zero =>
      intro k Ds f w hk hI
      rw [roundsIn_succ]
      refine wpIn_mono (round k Ds f w hI (letsThen ho)) fun e a w hq => ?_
      cases e with
      | normal => obtain ⟨k', Ds', f', rfl, hlt, hI'⟩ := hq; omega
      | _ => exact hq
    | succ m ih =>
      intro k Ds f w hk hI
      rw [roundsIn_succ]
      refine wpIn_mono (round k Ds f w hI (letsThen ho)) fun e a w hq => ?_
      cases e with
      | normal => obtain ⟨k', Ds', f', rfl, hlt, hI'⟩ := hq; exact ih k' Ds' f' w (by omega) hI'
      | _ => exact hq
  have e : fr n f = fr ⟨n.n, marks Ds, n.ro⟩ f := by unfold fr; rw [hds]
  rw [e]
  exact wpIn_loop_rounds (k + 1) (key k k Ds f w (Nat.le_refl _) h0)
end
end Go.Wk

namespace Go.Wk
set_option linter.unusedVariables false
section
variable {P : Program} {n : NN} {f : Nat → Value} {w w0 : World} {S0 : Nat → Prop} {R L : List HP} {Q : Exit → Act → World → Prop}
theorem setBack {L : List HP} {k : Nat} {A : HP} (hA : getH L k = A) : setH L k A = L := by
  rw [← hA]; clear hA
  induction L generalizing k with
  | nil => rfl
  | cons A L ih =>
    cases k with
    | zero => rfl
    | succ k => simp only [setH, getH]; rw [ih]
/-- What a round's body comes to, in these words: J: what holds behind it, the loop's record aside. -/
def RB (l : Nat) (rb : Loop) (J : World → Prop) (Jx : Exit → World → Prop) (e : Exit) (a : Act) (W : World) : Prop := RPost l rb J Jx e a W
theorem rb_n {l D : Nat} {rb : Loop} {J : World → Prop} {Jx : Exit → World → Prop} {a : Act} (H : St w0 S0 R w L) (k : Nat) (hA : getH L k = loopH l D rb) (h : J w) : RPost l rb J Jx .normal a w := ⟨(H.loopBlk k hA).1, h⟩
theorem rb_r {l D : Nat} {rb : Loop} {J : World → Prop} {Jx : Exit → World → Prop} {a : Act} (H : St w0 S0 R w L) (k : Nat) (hA : getH L k = loopH l D rb) (h : Jx .ret w) : RPost l rb J Jx .ret a w := ⟨(H.loopBlk k hA).1, h⟩
theorem rb_x {l D : Nat} {rb : Loop} {J : World → Prop} {Jx : Exit → World → Prop} {a : Act} {id : Nat} (H : St w0 S0 R w L) (k : Nat) (hA : getH L k = loopH l D rb) (h : Jx (.exit id) w) : RPost l rb J Jx (.exit id) a w := ⟨(H.loopBlk k hA).1, h⟩
theorem St.loopTurn {l D : Nat} {rb rb2 : Loop} {w' : World} (H : St w0 S0 R w L) (k : Nat) (hA : getH L k = loopH l D rb) (hlt : hasH L k = true) (hk : Kp (fun y => y = l) w w') (hb : Blk w' l (.loop rb2)) (hd : rb2.defers = D) : St w0 S0 R w' (setH L k (loopH l D rb2)) :=
  H.upd k hA (hasH_lt hlt) hk (fun S h b _ hb => (h.2 b).2 hb) (B := loopH l D rb2) (fun S h => ⟨S, ⟨⟨hb, hd⟩, h.2⟩, fun b hb => .inl hb⟩)
variable {α : Type} {g : Operand} {ps : Array Tmp} {assign body : Code} {gf : Nat} {lb : Array Value} {encs : α → Array Value} {Xs : List α} {Rep : World → Prop}
/-- An outermost range over a function. -/
theorem rangeO {Ds : List Nat} (H : St w0 S0 R w L) (k : Nat) (hk : getH L k = mksH Ds) (hlt : hasH L k = true) (hds : n.ds = marks Ds) (hro : n.ro = none)
    (hok : okx n g = true) (hg : ev f g = .func (.func gf) #[] lb) (eg : Callable P gf) (hit : IterC P gf lb encs Xs Rep) (hps : ∀ x ∈ Xs, (encs x).size = ps.size)
    (J : Nat → Nat → Nat → World → Prop) (Jx : Nat → Nat → Exit → World → Prop)
    (hst : ∀ D l i W W', J D l i W → Kp (fun y => y = l) W W' → J D l i W') (hsx : ∀ D l e W W', Jx D l e W → Kp (fun y => y = l) W W' → Jx D l e W')
    (hRep : ∀ D l i W, J D l i W → Rep W)
    (h0 : ∀ D l W, St w0 S0 R W (setH L k (mksH (D :: Ds)) ++ [anyH l]) → J D l 0 W)
    (hround : ∀ D l i x W rb, Xs[i]? = some x → J D l i W → Blk W l (.loop rb) → rb.defers = D →
      wr ⟨n.n, [], some l⟩ P assign (APost ⟨n.n, [], some l⟩ fun f' W' => Blk W' l (.loop rb) ∧ ∀ W2 rb2, Kp (fun y => y = l) W' W2 → Blk W2 l (.loop rb2) → rb2.defers = D →
        wr ⟨n.n, [], some l⟩ P body (RPost l rb2 (J D l (i + 1)) (Jx D l)) (fr ⟨n.n, [], some l⟩ f') W2) (fr ⟨n.n, [], some l⟩ (updL f ps.toList (encs x).toList)) W)
    (hdone : ∀ D l W, J D l Xs.length W → Q .normal (fr ⟨n.n, marks (D :: Ds), n.ro⟩ f) W)
    (hstop : ∀ D l e W, Jx D l e W → (e = .ret ∨ ∃ id, e = .exit id) → Q e (fr ⟨n.n, marks (D :: Ds), n.ro⟩ f) W) :
    wr n P (Code.rangeFunc g ps assign body) Q (fr n f) w := by
  have hH : St w0 S0 R ((w.alloc (.deferred (some []))).alloc (.loop (lrec 0 (fr n f).tmps ps assign body w.heap.size .ready none))) (setH L k (mksH (w.heap.size :: Ds)) ++ [anyH (w.heap.size + 1)]) := by
    have h1 := H.upd k hk (hasH_lt hlt) (Kp.alloc w (.deferred (some []))) (fun _ _ _ _ h => h.elim) (B := mksH (w.heap.size :: Ds)) fun S h => ⟨fun b => b ∈ w.heap.size :: Ds, ⟨fun D hD => by
        rcases List.mem_cons.1 hD with rfl | hD
        · exact Blk.new _ _
        · exact (h.1 D hD).keep (Kp.alloc _ _), List.nodup_cons.2 ⟨fun hm => by have := (h.1 _ hm).lt; omega, h.2.1⟩, fun _ => Iff.rfl⟩, fun b hb => by
        rcases List.mem_cons.1 hb with rfl | hb
        · exact .inr (Nat.le_refl _)
        · exact .inl ((h.2.2 b).2 hb)⟩
    refine h1.new (Kp.alloc _ _) (B := anyH (w.heap.size + 1)) (S := fun b => b = w.heap.size + 1) ⟨by simp, fun _ => Iff.rfl⟩ (fun b hb => by rw [hb]; simp)
  have hsz : ∀ o1 o2, (((w.alloc o1).alloc o2) : World).heap.size = w.heap.size + 2 := fun o1 o2 => by simp
  refine range_core (l := w.heap.size + 1) (mark := [{ target := .collected w.heap.size, args := #[] }]) (D := w.heap.size) (W1 := fun fn => (w.alloc (.deferred (some []))).alloc (.loop (lrec fn (fr n f).tmps ps assign body w.heap.size .ready none))) hok hg eg hit hps (fun fn => ⟨by rw [hro]; exact run_enterLoop_outer _ _ _ _ _, by have := Blk.new (w.alloc (.deferred (some []))) (.loop (lrec fn (fr n f).tmps ps assign body w.heap.size .ready none)); rwa [World.size_alloc] at this⟩)
    (J w.heap.size (w.heap.size + 1)) (Jx w.heap.size (w.heap.size + 1)) (fun i W W' h hk => hRep _ _ i W' (hst _ _ _ _ _ h hk)) (fun fn => ?_) (fun i x W0 W rb hx hJ hk hb hd => ?_) (fun W0 W h hk => ?_) (fun e W0 W h hk he => ?_)
  · refine h0 _ _ _ (hH.anyKp (l := w.heap.size + 1) L.length ?_ ?_ ?_)
    · rw [getH_app, if_neg (by rw [setH_len]; omega), setH_len, Nat.sub_self]; rfl
    · have : ∀ (m : List HP) (A : HP), hasH (m ++ [A]) m.length = true := by
        intro m A
        induction m with
        | nil => rfl
        | cons B m ih => exact ih
      have h := this (setH L k (mksH (w.heap.size :: Ds))) (anyH (w.heap.size + 1))
      rw [setH_len] at h; exact h
    · refine ⟨rfl, rfl, rfl, by simp, fun b hb hne => ?_, Nat.le_refl _⟩
      have hb' : b < w.heap.size + 2 := by simpa using hb
      have hb2 : b < w.heap.size + 1 := by omega
      have hs : b < (w.alloc (.deferred (some []))).heap.size := by simp; exact hb2
      rw [Go.RowKit.Below.heap_alloc _ _ b hs, Go.RowKit.Below.heap_alloc _ _ b hs]
  · exact hround _ _ i x W rb hx (hst _ _ _ _ _ hJ hk) hb hd
  · have e9 : ({ fr n f with defers := [{ target := .collected w.heap.size, args := #[] }] ++ n.ds } : Act) = fr ⟨n.n, marks (w.heap.size :: Ds), n.ro⟩ f := by rw [hds]; rfl
    rw [e9]; exact hdone _ _ W (hst _ _ _ _ _ h hk)
  · have e9 : ({ fr n f with defers := [{ target := .collected w.heap.size, args := #[] }] ++ n.ds } : Act) = fr ⟨n.n, marks (w.heap.size :: Ds), n.ro⟩ f := by rw [hds]; rfl
    rw [e9]; exact hstop _ _ e W (hsx _ _ _ _ _ h hk) he
/-- A range over a function within a round of another. -/
theorem rangeI {l0 D0 : Nat} {r0 : Loop} (H : St w0 S0 R w L) (k : Nat) (hk : getH L k = loopH l0 D0 r0) (hro : n.ro = some l0)
    (hok : okx n g = true) (hg : ev f g = .func (.func gf) #[] lb) (eg : Callable P gf) (hit : IterC P gf lb encs Xs Rep) (hps : ∀ x ∈ Xs, (encs x).size = ps.size)
    (J : Nat → Nat → World → Prop) (Jx : Nat → Exit → World → Prop)
    (hst : ∀ l i W W', J l i W → Kp (fun y => y = l) W W' → J l i W') (hsx : ∀ l e W W', Jx l e W → Kp (fun y => y = l) W W' → Jx l e W')
    (hRep : ∀ l i W, J l i W → Rep W)
    (h0 : ∀ l W, St w0 S0 R W (L ++ [anyH l]) → J l 0 W)
    (hround : ∀ l i x W rb, Xs[i]? = some x → J l i W → Blk W l (.loop rb) → rb.defers = D0 →
      wr ⟨n.n, [], some l⟩ P assign (APost ⟨n.n, [], some l⟩ fun f' W' => Blk W' l (.loop rb) ∧ ∀ W2 rb2, Kp (fun y => y = l) W' W2 → Blk W2 l (.loop rb2) → rb2.defers = D0 →
        wr ⟨n.n, [], some l⟩ P body (RPost l rb2 (J l (i + 1)) (Jx l)) (fr ⟨n.n, [], some l⟩ f') W2) (fr ⟨n.n, [], some l⟩ (updL f ps.toList (encs x).toList)) W)
    (hdone : ∀ l W, J l Xs.length W → Q .normal (fr n f) W)
    (hstop : ∀ l e W, Jx l e W → (e = .ret ∨ ∃ id, e = .exit id) → Q e (fr n f) W) :
    wr n P (Code.rangeFunc g ps assign body) Q (fr n f) w := by
  obtain ⟨hb0, hd0⟩ := H.loopBlk k hk
  have hH : St w0 S0 R (w.alloc (.loop (lrec 0 (fr n f).tmps ps assign body D0 .ready none))) (L ++ [anyH w.heap.size]) :=
    H.new (Kp.alloc _ _) (B := anyH w.heap.size) (S := fun b => b = w.heap.size) ⟨by simp, fun _ => Iff.rfl⟩ (fun b hb => by rw [hb]; exact Nat.le_refl _)
  refine range_core (l := w.heap.size) (mark := []) (D := D0) (W1 := fun fn => w.alloc (.loop (lrec fn (fr n f).tmps ps assign body D0 .ready none))) hok hg eg hit hps (fun fn => ⟨by rw [hro, ← hd0]; exact run_enterLoop_inner hb0 _ _ _ _ _, Blk.new _ _⟩)
    (J w.heap.size) (Jx w.heap.size) (fun i W W' h hk => hRep _ i W' (hst _ _ _ _ h hk)) (fun fn => ?_) (fun i x W0 W rb hx hJ hk hb hd => ?_) (fun W0 W h hk => ?_) (fun e W0 W h hk he => ?_)
  · refine h0 _ _ (hH.anyKp (l := w.heap.size) L.length ?_ ?_ ?_)
    · rw [getH_app, if_neg (by omega), Nat.sub_self]; rfl
    · have : ∀ (m : List HP) (A : HP), hasH (m ++ [A]) m.length = true := by
        intro m A
        induction m with
        | nil => rfl
        | cons B m ih => exact ih
      exact this L (anyH w.heap.size)
    · refine ⟨rfl, rfl, rfl, by simp, fun b hb hne => ?_, Nat.le_refl _⟩
      have hb' : b < w.heap.size + 1 := by simpa using hb
      have hb2 : b < w.heap.size := by omega
      rw [Go.RowKit.Below.heap_alloc _ _ b hb2, Go.RowKit.Below.heap_alloc _ _ b hb2]
  · exact hround _ i x W rb hx (hst _ _ _ _ hJ hk) hb hd
  · have e9 : ({ fr n f with defers := [] ++ n.ds } : Act) = fr n f := rfl
    rw [e9]; exact hdone _ W (hst _ _ _ _ h hk)
  · have e9 : ({ fr n f with defers := [] ++ n.ds } : Act) = fr n f := rfl
    rw [e9]; exact hstop _ e W (hsx _ _ _ _ h hk) he
end
end Go.Wk

namespace Go.Wk
set_option linter.unusedVariables false

/-! ## 32. The iterator's side: calls of yield -/
/-- what held of an earlier world, of which nothing has turned since -/
def sinceH (J : World → Prop) : HP := ⟨fun w S => ∃ W, J W ∧ Kp none_ W w ∧ ∀ b, S b ↔ b < W.heap.size, fun ⟨W, _, hk, hS⟩ b hb => Nat.lt_of_lt_of_le ((hS b).1 hb) hk.size, fun ⟨W, h, hk, hS⟩ hk2 hd => ⟨W, h, hk.comp hk2 (fun b hb hT => hd b ((hS b).2 hb) hT), hS⟩⟩
section
variable {P : Program} {n : NN} {f : Nat → Value} {w w0 : World} {S0 : Nat → Prop} {R L : List HP} {Q Q1 : Exit → Act → World → Prop} {J : World → Prop}
theorem St.since (H : St w0 S0 R w L) (k : Nat) (hA : getH L k = sinceH J) : ∃ W, J W ∧ Kp none_ W w := let ⟨_, W, h, hk, _⟩ := H.get k hA; ⟨W, h, hk⟩
theorem St.base (h : J w) : St w (fun _ => True) [] w [sinceH J] :=
  ⟨⟨fun i b => i = 0 ∧ b < w.heap.size, OwnF.one (S := fun b => b < w.heap.size) ⟨w, h, Kp.refl w, fun _ => Iff.rfl⟩, fun _ _ => .inl trivial⟩, Kp.refl w, fun i => ⟨fun _ => False, fun _ h => h, fun _ h => h.elim⟩⟩
theorem op_in2 {ro : Option Nat} {o : Oper} {a : Act} {K K' : Act → World → Prop} (hd : ∀ c, o.op ≠ .defer c) (hK : ∀ a w, K a w → K' a w) (hQ : ∀ e a w, e ≠ .normal → Q1 e a w → Q e a w) (h : o.wp P a w K Q1) : o.wpIn (WI ro) 0 P a w K' Q := by
  refine ⟨fun _ _ => trivial, ?_⟩
  rw [show (WI ro).round = ro from rfl, Oper.semAt_eq _ _ _ hd]
  unfold Oper.wp at h
  generalize (execOp a.eval o).run P w = r at *
  cases r with
  | ok x w' =>
    cases x <;> simp only [Oper.upon] at h <;> simp only [Oper.uponIn]
    case value u => exact hK _ _ h
    case skip => exact hK _ _ h
    case defer d => exact hK _ _ h
    case enter f args =>
      refine ⟨fun e => by simp [WI, Fence.wide] at e, calls_in (Calls.mono h fun e w'' he => ?_)⟩
      cases e with
      | returned v => exact hK _ _ he
      | panicked c => exact hQ _ _ _ (by simp) he
      | outgrown => obtain ⟨a', w', h'⟩ := he; exact ⟨a', w', hQ _ _ _ (by simp) h'⟩
    case row row args => exact ⟨fun e => by simp [WI, Fence.wide] at e, rows_in (Rows.mono h fun v w'' he => hK _ _ he)⟩
  | halt x w' => cases x <;> simp only [Oper.upon] at h <;> simp only [Oper.uponIn] <;> exact hQ _ _ _ (by simp) h
theorem list_split {ro : Option Nat} {l : List Oper} (hd : nodef l = true) (ho : ¬ LetsOut Q) (hQ : ∀ e a w, e ≠ .normal → Q1 e a w → Q e a w) {is2 : List Nat} (h2 : ∀ a w, Q1 .normal a w → wpOpsIn (WI ro) 0 P l.toArray Q is2 a w) :
    ∀ (m : List Oper) (j : Nat), (∀ i, i < m.length → m[i]? = l[j + i]?) → ∀ a w, wpList P l.toArray Q1 m a w → wpOpsIn (WI ro) 0 P l.toArray Q (List.range' j m.length ++ is2) a w := by
  intro m
  induction m with
  | nil => intro j _ a w h; exact h2 a w h
  | cons o m ih =>
    intro j hj a w h
    have h0 : l.toArray[j]? = some o := by have := hj 0 (by simp); simpa using this.symm
    have ih' := ih (j + 1) (fun i hi => by have := hj (i + 1) (by simpa using hi); rw [show j + 1 + i = j + (i + 1) from by omega]; simpa using this)
    simp only [List.length_cons, List.range'_succ, List.cons_append]
    simp only [wpList] at h
    simp only [wpOpsIn, h0]
    by_cases hw : Region.wanted o (yielded l.toArray a.tmps) = true
    · simp only [hw, if_true] at h ⊢
      rcases h with h | ⟨_, h⟩
      · exact op_in2 (nodef_at hd h0) ih' hQ h
      · obtain ⟨a', w', h'⟩ := h; exact absurd ⟨a', w', hQ _ _ _ (by simp) h'⟩ ho
    · simp only [hw, if_false, Bool.false_eq_true] at h ⊢
      exact ⟨fun _ _ => trivial, ih' _ _ h⟩
/-- what is left at the k-th operation: a call of yield, and what comes behind it -/
def YQ (P : Program) (l : List Oper) (k : Nat) (n : NN) (Q : Exit → Act → World → Prop) : Exit → Act → World → Prop
  | .normal, a, w => ∃ (f : Nat → Value) (ln : Nat) (args : Array Value) (d : Option Nat) (c : Operand) (xs : Array Operand) (ats : Array TypeId) (ty : TypeId) (ps : String) (es : Array Edge), a = fr n f ∧ l[k]? = some ⟨d, .call { callee := .value c, args := xs, argTypes := ats }, ty, ps, es, none⟩ ∧
      okx n c = true ∧ ev f c = .func (.yield ln) #[] #[] ∧ xs.toList.all (okx n) = true ∧ xs.map (ev f) = args ∧ Yl P ln args w fun b w' => WL P l.toArray Q (l.drop (k + 1)) n (putD f d (.bool b)) w'
  | e, a, w => Q e a w
theorem region_y (k : Nat) {id : Nat} {l : List Oper} (hro : n.ro = none) (h : WL P l.toArray (YQ P l k n Q) (l.take k) n f w) (hk : Nat.blt k l.length = true := by rfl) (hd : nodef l = true := by kernel_rfl) : wr n P (Code.region id l.toArray false) Q (fr n f) w := fun ho => by
  refine wpIn_region ?_
  have hkl : k < l.length := Nat.lt_of_succ_le (Nat.le_of_ble_eq_true hk)
  have e1 : List.range l.toArray.size = List.range' 0 (l.take k).length ++ List.range' k (l.length - k) := by
    rw [List.range_eq_range', List.length_take, Nat.min_eq_left (Nat.le_of_lt hkl)]
    have := List.range'_append (s := 0) (m := k) (n := l.length - k) (step := 1)
    simp only [Nat.zero_add, Nat.one_mul] at this
    rw [this]
    congr 1
    simp; omega
  rw [e1]
  refine list_split hd ho (Q1 := YQ P l k n Q) (fun e a w he h => by cases e <;> first | exact absurd rfl he | exact h) ?_ (l.take k) 0 (fun i hi => by
    rw [List.getElem?_take]
    have : i < k := by simp at hi; omega
    simp [this]) _ _ (by unfold WL at h; exact h)
  rintro a w ⟨f, ln, args, d, c, xs, ats, ty, ps, es, rfl, hl, hc, hv, hx, hm, hy⟩
  have e2 : List.range' k (l.length - k) = k :: List.range' (k + 1) (l.drop (k + 1)).length := by
    rw [show l.length - k = (l.length - (k + 1)) + 1 from by omega, List.range'_succ, List.length_drop]
  rw [e2]
  have h0 : l.toArray[k]? = some ⟨d, .call { callee := .value c, args := xs, argTypes := ats }, ty, ps, es, none⟩ := by simpa using hl
  simp only [wpOpsIn, h0]
  rw [if_pos (by simp [Region.wanted])]
  refine ⟨fun _ _ => trivial, ?_⟩
  rw [Oper.semAt_eq _ _ _ (fun c h => by cases h)]
  obtain ⟨fn, tmps, assign, body, hy1, hy2⟩ := hy
  have hr : (execOp (fr n f).eval ⟨d, .call { callee := .value c, args := xs, argTypes := ats }, ty, ps, es, none⟩).run P w = .ok (.round ln fn tmps assign body) w := by
    have hm2 : xs.map (fr n f).eval = args := by
      rw [← hm]
      apply Array.map_congr_left
      intro x hx'
      exact eval_fr (List.all_eq_true.1 hx x (by simpa using hx'))
    simp only [execOp, resolve, Sem.run_bind, eval_fr hc, hv, hm2]
    simp [invoke, go_sem, hy1]
  rw [hr]
  simp only [Oper.uponIn_round]
  refine ⟨fun e => by simp [WI, Fence.wide] at e, ?_⟩
  rw [hro]
  refine RoundIn.mono hy2 ?_
  rintro e w' ⟨b, rfl, h3⟩
  show wpOpsIn _ _ _ _ _ _ _ _
  rw [fr_putD]
  unfold WL at h3
  have := list_split (ro := none) (P := P) (Q1 := Q) (Q := Q) (is2 := []) hd ho (fun _ _ _ _ h => h) (fun a w h => h) (l.drop (k + 1)) (k + 1) (fun i hi => by rw [List.getElem?_drop]) _ _ h3
  simpa using this
theorem yq {l : List Oper} {k ln : Nat} {d : Option Nat} {c : Operand} {xs : List Operand} {ats : Array TypeId} {ty : TypeId} {ps : String} {es : Array Edge} {vs : List Value} {Rr : Bool → World → Prop} (hl : l[k]? = some ⟨d, .call { callee := .value c, args := xs.toArray, argTypes := ats }, ty, ps, es, none⟩) (hc : okx n c = true) (hv : ev f c = .func (.yield ln) #[] #[]) (hx : xs.all (okx n) = true) (hm : xs.map (ev f) = vs)
    (hy : Yl P ln vs.toArray w Rr) (h : ∀ b w', Rr b w' → WL P l.toArray Q (l.drop (k + 1)) n (putD f d (.bool b)) w') : YQ P l k n Q .normal (fr n f) w := by
  refine ⟨f, ln, vs.toArray, d, c, xs.toArray, ats, ty, ps, es, rfl, hl, hc, hv, by simpa using hx, by simp [hm], ?_⟩
  obtain ⟨fn, tmps, assign, body, h1, h2⟩ := hy
  exact ⟨fn, tmps, assign, body, h1, RoundIn.mono h2 fun e w' ⟨b, e1, e2⟩ => ⟨b, e1, h b w' e2⟩⟩
end
/-! an elder slice that is new -/
theorem Sl_slH {α : Type} {enc : α → List Value} {sz : Nat} {e : TypeId} {w : World} {F : Nat → Prop} {v : Value} {l : List α} (h : Sl enc sz e w F v l) : ∃ a c S, v = .slice a l.length c ∧ (slH enc sz e a l.length c l).P w S ∧ ∀ y, S y → F y := by
  rcases h with ⟨rfl, rfl⟩ | ⟨b, o, cap, A, rfl, hF, h3⟩
  · exact ⟨none, 0, fun _ => False, rfl, slH_nil, fun _ h => h.elim⟩
  · exact ⟨_, cap, fun x => x = b, rfl, slH_of_at rfl ⟨A, h3⟩, fun y hy => hy ▸ hF⟩
theorem Tr.of_new {P : Program} {k : FuncId} {vs : List Value} {α β : Type} {enc : β → List Value} {sz : Nat} {e : TypeId} {Rp : World → α → Prop} {fp : α → Nat → Prop} {lt kp} {φ : List β → Prop}
    (h : ∀ w x, Rp w x → Ret P k vs w fun v w' => ∃ l, φ l ∧ (∃ F, Sl enc sz e w' F v l ∧ ∀ y, F y → w.heap.size ≤ y) ∧ Kp none_ w w') : Tr P k vs [oldH Rp fp lt kp] [] fun v m => ∃ a c l, φ l ∧ v = .slice a l.length c ∧ m = [slH enc sz e a l.length c l] := by
  intro w S0 H
  obtain ⟨S, x, hx, _⟩ := H.getR 0 rfl
  refine (h w x hx).mono fun v w' ⟨l, hl, ⟨F, hs, hF⟩, hk⟩ => ?_
  obtain ⟨a, c, S, e1, e2, e3⟩ := Sl_slH hs
  exact ⟨_, ⟨a, c, l, hl, e1, rfl⟩, H.new hk e2 (fun b hb => hF b (e3 b hb))⟩
end Go.Wk

namespace Go.Wk
set_option linter.unusedVariables false

/-! ## 33. Elder assertions opened for reading; elder contracts over one slice -/
section
variable {w0 w : World} {S0 : Nat → Prop} {R L : List HP} {α : Type} {Rp : World → α → Prop} {fp : α → Nat → Prop} {lt : ∀ {w x}, Rp w x → ∀ b, fp x b → b < w.heap.size} {kp : ∀ {w x w' T}, Rp w x → Kp T w w' → (∀ b, fp x b → ¬ T b) → Rp w' x}
theorem St.oldR (H : St w0 S0 R w L) (k : Nat) (hA : getH R k = oldH Rp fp lt kp) (X : α → List HP) (hX : ∀ x, Rp w x → ∀ i, ∃ S, (getH (X x) i).P w S ∧ ∀ b, S b → fp x b) : ∃ x, Rp w x ∧ St w0 S0 (R ++ X x) w L := by
  obtain ⟨S, h1, h2⟩ := H.ro k
  rw [hA] at h1
  obtain ⟨x, hx, hfp⟩ := h1
  refine ⟨x, hx, H.addR fun i => ?_⟩
  obtain ⟨S', h3, h4⟩ := hX x hx i
  exact ⟨S', h3, fun b hb => h2 b ((hfp b).2 (h4 b hb))⟩
end
/-- an elder contract that reads -/
theorem Tr.of_read {P : Program} {k : FuncId} {vs : List Value} {R : List HP} {post : Value → Prop}
    (h : ∀ w, (∀ i, ∃ S, (getH R i).P w S) → Ret P k vs w fun v w' => post v ∧ Kp none_ w w') : Tr P k vs R [] fun v m => post v ∧ m = [] := fun w S0 H =>
  (h w (fun i => let ⟨S, h1, _⟩ := H.ro i; ⟨S, h1⟩)).mono fun v w' ⟨hv, hk⟩ => ⟨[], ⟨hv, rfl⟩, H.keep hk⟩
section
variable {α : Type} {enc : α → List Value} {sz : Nat} {e : TypeId}
theorem slH_Sl {w : World} {S : Nat → Prop} {a : Option Addr} {n c : Nat} {l : List α} (h : (slH enc sz e a n c l).P w S) : Sl enc sz e w S (.slice a n c) l := by
  obtain ⟨rfl, h⟩ := h
  rcases h with ⟨rfl, rfl, rfl, _⟩ | ⟨b, o, rfl, ⟨A, h2⟩, hS⟩
  · exact .inl ⟨rfl, rfl⟩
  · exact .inr ⟨b, o, c, A, rfl, (hS b).2 rfl, h2⟩
/-- an elder contract that turns one slice's elements -/
theorem Tr.of_sl {P : Program} {k : FuncId} {a : Option Addr} {n c : Nat} {l : List α} {vs : List Value} {V : Value} {φ : List α → Prop} (hn : n = l.length → True)
    (h : ∀ w F, Sl enc sz e w F (.slice a n c) l → Ret P k vs w fun v w' => v = V ∧ ∃ l', φ l' ∧ l'.length = l.length ∧ Sl enc sz e w' F (.slice a n c) l' ∧ Kp F w w') :
    Tr P k vs [] [slH enc sz e a n c l] fun v m => ∃ l', φ l' ∧ v = V ∧ m = [slH enc sz e a n c l'] := by
  intro w S0 H
  obtain ⟨F, hF, hS⟩ := H.own
  have h1 := hF.get1
  refine (h w (F 0) (slH_Sl h1)).mono ?_
  rintro v w' ⟨rfl, l', hφ, hl, hs, hk⟩
  refine ⟨_, ⟨l', hφ, rfl, rfl⟩, ?_⟩
  have hFS : ∀ b, b < w.heap.size → F 0 b → S0 b := fun b hb hx => by
    rcases hS b ⟨0, hx⟩ with h3 | h3
    · exact h3
    · omega
  obtain ⟨a', c', S', e1, e2, e3⟩ := Sl_slH hs
  simp only [Value.slice.injEq] at e1
  obtain ⟨rfl, e4, rfl⟩ := e1
  rw [← e4] at e2
  exact ⟨⟨_, OwnF.one e2, fun b ⟨_, _, hb⟩ => hS b ⟨0, e3 b hb⟩⟩, hk.mono hFS, fun i => let ⟨S, g1, g2⟩ := H.ro i; ⟨S, (getH [] i).kp g1 hk (fun b hb hT => (g2 b hb).1 (hFS b (g2 b hb).2 hT)), g2⟩⟩
end
end Go.Wk

namespace Go.Wk
set_option linter.unusedVariables false

/-! ## 34. A slice cut to its length -/
theorem slH_clip {α : Type} {enc : α → List Value} {sz : Nat} {e : TypeId} {a : Option Addr} {n c : Nat} {l : List α} : Le (slH enc sz e a n c l) (slH enc sz e a n n l) := fun w S h0 => by
  obtain ⟨hn, h⟩ := h0
  refine ⟨S, ⟨hn, ?_⟩, fun _ h => h⟩
  rcases h with ⟨h1, h2, h3, h4⟩ | ⟨b, o, h1, ⟨A, g1, g2, g3, g4, g5⟩, h3⟩
  · subst h3; exact .inl ⟨h1, hn, rfl, h4⟩
  · refine .inr ⟨b, o, h1, ⟨A, g1, by omega, by omega, ?_, g5⟩, h3⟩
    have : n * sz ≤ c * sz := Nat.mul_le_mul_right _ (by omega)
    omega
theorem blkH_mk {w : World} {b : Nat} {A : Array Value} {e : TypeId} (h : Blk w b (.cells A e (0, 0))) : (blkH b A e).P w (fun x => x = b) := ⟨h, fun _ => Iff.rfl⟩
theorem mapH_mk {α β : Type} {ek : α → Value} {ev : β → Value} {w : World} {r : Nat} {l : List (α × β)} (h : Mp ek ev w r l) : (mapH ek ev r l).P w (fun x => x = r) := ⟨h, fun _ => Iff.rfl⟩
theorem rdH_mk {α : Type} {enc : α → List Value} {sz : Nat} {w : World} {a : Option Addr} {n c : Nat} {l : List α} {S : Nat → Prop} (hn : n = l.length) (h : Rd enc sz w S (.slice a n c) l) (hS : ∀ x, S x → x < w.heap.size) : (rdH enc sz a n c l).P w S := ⟨hn, h, hS⟩
theorem slH_mk {α : Type} {enc : α → List Value} {sz : Nat} {e : TypeId} {w : World} {a : Option Addr} {n c : Nat} {l : List α} {F : Nat → Prop} (h : Sl enc sz e w F (.slice a n c) l) : ∃ S, (slH enc sz e a n c l).P w S ∧ ∀ b, S b → F b := by
  obtain ⟨a', c', S', e1, e2, e3⟩ := Sl_slH h
  simp only [Value.slice.injEq] at e1
  obtain ⟨rfl, e4, rfl⟩ := e1
  rw [← e4] at e2
  exact ⟨S', e2, e3⟩
/-- three as one list -/
theorem OwnF.three {w : World} {A B C : HP} {S1 S2 S3 : Nat → Prop} (h1 : A.P w S1) (h2 : B.P w S2) (h3 : C.P w S3) (d12 : ∀ b, S1 b → ¬ S2 b) (d13 : ∀ b, S1 b → ¬ S3 b) (d23 : ∀ b, S2 b → ¬ S3 b) : OwnF w (fun i b => (i = 0 ∧ S1 b) ∨ (i = 1 ∧ S2 b) ∨ (i = 2 ∧ S3 b)) [A, B, C] :=
  ⟨fun i => by
    match i with
    | 0 => have e : (fun b => ((0 : Nat) = 0 ∧ S1 b) ∨ ((0 : Nat) = 1 ∧ S2 b) ∨ ((0 : Nat) = 2 ∧ S3 b)) = S1 := by funext b; simp
           show A.P w (fun b => ((0 : Nat) = 0 ∧ S1 b) ∨ ((0 : Nat) = 1 ∧ S2 b) ∨ ((0 : Nat) = 2 ∧ S3 b)); rw [e]; exact h1
    | 1 => have e : (fun b => ((1 : Nat) = 0 ∧ S1 b) ∨ ((1 : Nat) = 1 ∧ S2 b) ∨ ((1 : Nat) = 2 ∧ S3 b)) = S2 := by funext b; simp
           show B.P w (fun b => ((1 : Nat) = 0 ∧ S1 b) ∨ ((1 : Nat) = 1 ∧ S2 b) ∨ ((1 : Nat) = 2 ∧ S3 b)); rw [e]; exact h2
    | 2 => have e : (fun b => ((2 : Nat) = 0 ∧ S1 b) ∨ ((2 : Nat) = 1 ∧ S2 b) ∨ ((2 : Nat) = 2 ∧ S3 b)) = S3 := by funext b; simp
           show C.P w (fun b => ((2 : Nat) = 0 ∧ S1 b) ∨ ((2 : Nat) = 1 ∧ S2 b) ∨ ((2 : Nat) = 2 ∧ S3 b)); rw [e]; exact h3
    | (n + 3) => intro b hb; rcases hb with h | h | h <;> exact absurd h.1 (by omega),
   fun {i j b} h1 h2 => by
    rcases h1 with ⟨rfl, h1⟩ | ⟨rfl, h1⟩ | ⟨rfl, h1⟩ <;> rcases h2 with ⟨rfl, h2⟩ | ⟨rfl, h2⟩ | ⟨rfl, h2⟩
    · rfl
    · exact absurd h2 (d12 b h1)
    · exact absurd h2 (d13 b h1)
    · exact absurd h1 (d12 b h2)
    · rfl
    · exact absurd h2 (d23 b h1)
    · exact absurd h1 (d13 b h2)
    · exact absurd h1 (d23 b h2)
    · rfl⟩
/-- an owned assertion opened into parts -/
theorem St.openG {w0 w : World} {S0 : Nat → Prop} {R L : List HP} (H : St w0 S0 R w L) (k : Nat) {A : HP} (hA : getH L k = A) (hlt : hasH L k = true) {φ : List HP → Prop} (hc : ∀ S, A.P w S → ∃ m, φ m ∧ ∃ F, OwnF w F m ∧ ∀ b, Tot F b → S b) : ∃ m, φ m ∧ St w0 S0 R w (putsH L [k] m) := by
  obtain ⟨F0, h1, h2⟩ := H.own
  have hk := h1.at_ k
  rw [hA] at hk
  obtain ⟨m, hm, G, hG, hGS⟩ := hc _ hk
  refine ⟨m, hm, ?_⟩
  have hlt' := hasH_lt hlt
  obtain ⟨F1, c1, c2, c3, c4⟩ := h1.clear (is := [k])
  obtain ⟨F3, d1, d2⟩ := OwnF.puts [k] (m := m) c1 (fun i hi => by
    simp only [List.mem_singleton] at hi; subst hi
    exact ⟨by rw [clearH_len]; exact hlt', clearH_get hlt' (by simp)⟩) (by simp) hG (fun b ⟨i, hb⟩ hb2 => by
    have h6 := h1.sep (c4 i b hb) (hGS b hb2)
    subst h6
    exact c3 _ (by simp) _ hb)
  rw [putsH_clear _ _ _ (by simp)] at d1
  exact ⟨⟨F3, d1, fun b hb => by
    rcases d2 b hb with ⟨i, h3⟩ | h3
    · exact h2 b ⟨i, c4 i b h3⟩
    · exact h2 b ⟨k, hGS b h3⟩⟩, H.kpt, H.ro⟩
/-- an elder contract over one such assertion, told by what it hides -/
theorem Tr.of_oldE {P : Program} {k : FuncId} {vs : List Value} {R : List HP} {α β : Type} {Rp : World → α → Prop} {Rp' : β → World → α → Prop} {fp : α → Nat → Prop} {lt kp} {lt' : ∀ y, ∀ {w x}, Rp' y w x → ∀ b, fp x b → b < w.heap.size} {kp' : ∀ y, ∀ {w x w' T}, Rp' y w x → Kp T w w' → (∀ b, fp x b → ¬ T b) → Rp' y w' x} {post : Value → β → Prop}
    (h : ∀ w x, Rp w x → Ret P k vs w fun v w' => ∃ y, post v y ∧ ∃ x', Rp' y w' x' ∧ (∀ b, fp x' b → fp x b ∨ w.heap.size ≤ b) ∧ Kp (fp x) w w') :
    Tr P k vs R [oldH Rp fp lt kp] fun v m => ∃ y, post v y ∧ m = [oldH (Rp' y) fp (lt' y) (kp' y)] := by
  intro w S0 H
  obtain ⟨F, hF, hS⟩ := H.own
  obtain ⟨x, hx, hfp⟩ := hF.get1
  have hfS : ∀ b, b < w.heap.size → fp x b → S0 b := fun b hb hx => by
    rcases hS b ⟨0, (hfp b).2 hx⟩ with h3 | h3
    · exact h3
    · omega
  refine (h w x hx).mono fun v w' ⟨y, hv, x', hx', hsub, hk⟩ => ⟨_, ⟨y, hv, rfl⟩, ⟨_, OwnF.one (S := fp x') ⟨x', hx', fun _ => Iff.rfl⟩, fun b ⟨_, _, hb⟩ => ?_⟩, hk.mono hfS, fun i => ?_⟩
  · rcases hsub b hb with h3 | h3
    · exact hS b ⟨0, (hfp b).2 h3⟩
    · exact .inr h3
  · obtain ⟨S, h1, h2⟩ := H.ro i
    exact ⟨S, (getH R i).kp h1 hk (fun b hb hT => (h2 b hb).1 (hfS b (h2 b hb).2 hT)), h2⟩
theorem repH_le {α : Type} {φ φ' : α → Prop} {L : α → List HP} (h : ∀ x, φ x → φ' x) : Le (repH φ L) (repH φ' L) := fun w S hP => by
  obtain ⟨x, hx, hA⟩ := hP
  exact ⟨S, ⟨x, h x hx, hA⟩, fun _ h => h⟩
theorem slHR_len {α : Type} {enc : α → List Value} {sz : Nat} {e : TypeId} {w0 w : World} {S0 : Nat → Prop} {R L : List HP} {a : Option Addr} {m c : Nat} {xs : List α} (H : St w0 S0 R w L) (i : Nat) (hA : getH R i = slH enc sz e a m c xs) : m = xs.length ∧ m ≤ c ∧ c ≤ 9223372036854775807 := by
  obtain ⟨S, h1, ⟨_, rfl, rfl, _⟩ | ⟨b, o, _, ⟨_, _, h2, h3, _⟩, _⟩⟩ := H.getR i hA
  · subst h1; simp
  · subst h1; exact ⟨rfl, h2, h3⟩
theorem rf_buildA {P : Program} {n : NN} {f : Nat → Value} {w : World} {d : Option Nat} {ty : TypeId} {ps : String} {es : Array Edge} {t e : TypeId} {len : Nat} {z : Value} {ze : Option Value} {size bytes se be : Nat} {parts : List (Nat × Operand)} {offs : List (Nat × List Value)} (hu : P.underlying t = some (.array len e)) (hi : TI P t (some z) size bytes) (he : TI P e ze se be)
    (hbp : BP n f (fun i => some (i * se, se)) z.cells.size parts offs) :
    (execOp (fr n f).eval ⟨d, .build t parts.toArray, ty, ps, es, none⟩).run P w = .ok (.value (.agg (splAll z.cells offs))) w := by
  have h := fill_eq z.cells hbp
  simp only [execOp, Instr.build, Sem.run_bind, run_zeroValue' hi, run_underlying hu, Result.andThen_ok, run_sizeOf' he]
  rw [show ((parts.toArray.map fun (x : Nat × Operand) => (x.1, (fr n f).eval x.2))).toList = parts.map fun p => (p.1, (fr n f).eval p.2) from by simp]
  rw [h]; rfl
end Go.Wk

namespace Go.Wk
set_option linter.unusedVariables false

/-! ## 35. Scopes of labels without jumps -/
section
variable {P : Program} {b : Frame} {a : Act} {k : List Item} {cs : List Frame} {w : World} {Q : Exit → Act → World → Prop} {F : Fence} {m : Nat}
theorem stepR_scope {c : Code} : step P (lone (b.atR a (.code (.scope c) :: k)) cs w) = .next (lone (b.atR a (.code c :: .inScope c :: k)) cs w) := step_lone_go (by simp [stepG, stepG.exec, Frame.atR])
theorem stepR_inScope {c : Code} : step P (lone (b.atR a (.inScope c :: k)) cs w) = .next (lone (b.atR a k) cs w) := step_lone_go (by simp [stepG, stepG.exec, Frame.atR])
theorem wpIn_scope {c : Code} (h : c.wpIn F m P (Exit.noGoto Q) a w) : (Code.scope c).wpIn F m P Q a w := by
  intro b k cs hro hb hr
  have h0 : (lone (b.atR a (.code (.scope c) :: k)) cs w).fenced P F := fenced_calm hb hr rfl
  obtain ⟨e, a₁, w₁, hq, harr⟩ := h b (.inScope c :: k) cs hro hb hr
  cases e with
  | normal => exact ⟨.normal, a₁, w₁, hq, .head h0 stepR_scope (StepsIn.trans harr (.one (fenced_calm hb hr rfl) stepR_inScope))⟩
  | exit id =>
    have hx : exitTo id (.inScope c :: k) = exitTo id k := by simp [exitTo]
    exact ⟨.exit id, a₁, w₁, hq, fun k' hk => .head h0 stepR_scope (harr.1 k' (by rw [hx]; exact hk)),
        fun hr' hk => let ⟨k₁, h1, h2⟩ := harr.2 hr' (by rw [hx]; exact hk); ⟨k₁, h1, .head h0 stepR_scope h2⟩⟩
  | goto l => exact hq.elim
  | ret => exact ⟨_, a₁, w₁, hq, .of_steps (.one h0 stepR_scope) harr⟩
  | panic ch => exact ⟨_, a₁, w₁, hq, .of_steps (.one h0 stepR_scope) harr⟩
  | outgrown => exact ⟨_, a₁, w₁, hq, .of_steps (.one h0 stepR_scope) harr⟩
end
section
variable {n : NN} {P : Program} {w : World} {f : Nat → Value} {a : Act} {Q : Exit → Act → World → Prop}
theorem letsScope (h : ¬ LetsOut Q) : ¬ LetsOut (Exit.noGoto Q) := fun ⟨a, w, x⟩ => h ⟨a, w, x⟩
theorem scope_ {c : Code} (h : wr n P c (Exit.noGoto Q) (fr n f) w) : wr n P (Code.scope c) Q (fr n f) w := fun ho => wpIn_scope (h (letsScope ho))
theorem label_ {l : Nat} (h : Q .normal (fr n f) w) : wr n P (Code.label l) Q (fr n f) w := fun _ => wpIn_label h
theorem scn (h : Q .normal a w) : Exit.noGoto Q .normal a w := h
theorem scx {i : Nat} (h : Q (.exit i) a w) : Exit.noGoto Q (.exit i) a w := h
theorem scr (h : Q .ret a w) : Exit.noGoto Q .ret a w := h
end
end Go.Wk

namespace Go.Wk
set_option linter.unusedVariables false

/-! ## 36. Many alike, told by a list -/
theorem getH_mapO {α : Type} (f : α → HP) : ∀ (l : List α) (i : Nat), getH (l.map f) i = match l[i]? with | some x => f x | none => emp
  | [], i => by simp [getH]
  | x :: l, 0 => rfl
  | x :: l, i + 1 => by simpa [getH] using getH_mapO f l i
theorem getH_mapS {α : Type} {f : α → HP} {l : List α} {i : Nat} {x : α} (h : l[i]? = some x) : getH (l.map f) i = f x := by rw [getH_mapO, h]
theorem all_mono {α : Type} {f g : α → HP} {l : List α} (h : ∀ x ∈ l, Le (f x) (g x)) : Le (allH (l.map f)) (allH (l.map g)) := fun w S hS => by
  obtain ⟨F, hF, hFS⟩ := hS
  have key : ∀ i, ∃ S', (getH (l.map g) i).P w S' ∧ ∀ b, S' b → F i b := fun i => by
    have := hF.at_ i
    rw [getH_mapO] at this ⊢
    cases hl : l[i]? with
    | none => rw [hl] at this; exact ⟨F i, this, fun _ h => h⟩
    | some x => rw [hl] at this; exact h x (List.mem_of_getElem? hl) w _ this
  refine ⟨Tot fun i => Classical.choose (key i), ⟨fun i => Classical.choose (key i), ⟨fun i => (Classical.choose_spec (key i)).1, fun {i j b} h1 h2 => hF.sep ((Classical.choose_spec (key i)).2 b h1) ((Classical.choose_spec (key j)).2 b h2)⟩, fun b => Iff.rfl⟩, fun b ⟨i, hb⟩ => (hFS b).2 ⟨i, (Classical.choose_spec (key i)).2 b hb⟩⟩
theorem sh_mono {α : Type} {f g : α → HP} {l : List α} (h : ∀ x ∈ l, Le (f x) (g x)) : Le (shH (l.map f)) (shH (l.map g)) := fun w S hS => by
  refine ⟨S, ⟨hS.1, fun i => ?_⟩, fun _ h => h⟩
  obtain ⟨S', g1, g2⟩ := hS.2 i
  rw [getH_mapO] at g1 ⊢
  cases hl : l[i]? with
  | none => rw [hl] at g1; exact ⟨S', g1, g2⟩
  | some x =>
    rw [hl] at g1
    obtain ⟨S2, k1, k2⟩ := h x (List.mem_of_getElem? hl) w S' g1
    exact ⟨S2, k1, fun b hb => g2 b (k2 b hb)⟩
theorem rep1_mk {α : Type} {φ : α → Prop} {B : α → HP} (x : α) (hx : φ x) : Le (B x) (repH φ fun x => [B x]) := fun w S h => by
  refine ⟨S, ⟨x, hx, fun i b => i = 0 ∧ S b, ⟨fun i => ?_, fun {i j b} h1 h2 => h1.1.trans h2.1.symm⟩, fun b => ⟨fun hb => ⟨0, rfl, hb⟩, fun ⟨_, _, hb⟩ => hb⟩⟩, fun _ h => h⟩
  cases i with
  | zero => rw [show (fun b => (0 : Nat) = 0 ∧ S b) = S from funext fun b => propext ⟨fun h => h.2, fun h => ⟨rfl, h⟩⟩]; exact h
  | succ i => exact fun b h => by cases h.1
section
variable {α : Type} {f : α → HP} {w0 w : World} {S0 : Nat → Prop} {R L : List HP} {l : List α} {i : Nat} {x : α}
theorem St.takeM (H : St w0 S0 R w L) (k : Nat) (hA : getH L k = allH (l.map f)) (hlt : hasH L k = true) (hx : l[i]? = some x) : St w0 S0 R w (setH L k (allH (setH (l.map f) i emp)) ++ [f x]) :=
  H.takeI k i hA hlt (by rw [List.length_map]; exact (List.getElem?_eq_some_iff.1 hx).1) (getH_mapS hx)
theorem St.giveM (H : St w0 S0 R w L) (k j : Nat) (hA : getH L k = allH (setH (l.map f) i emp)) (hB : getH L j = f x) (hi : okI L [k, j] = true) (hx : l[i]? = some x) : St w0 S0 R w (setH (setH L k (allH (l.map f))) j emp) := by
  have hlt : i < (l.map f).length := by rw [List.length_map]; exact (List.getElem?_eq_some_iff.1 hx).1
  have h := H.giveI k j i hA hB hi (by rw [setH_len]; exact hlt) (getH_set_same hlt)
  rw [setH_set, setBack (getH_mapS hx)] at h
  exact h
/-- given back changed -/
theorem St.giveM2 {y : α} (H : St w0 S0 R w L) (k j : Nat) (hA : getH L k = allH (setH (l.map f) i emp)) (hB : getH L j = f y) (hi : okI L [k, j] = true) (hx : l[i]? = some x) : St w0 S0 R w (setH (setH L k (allH ((l.set i y).map f))) j emp) := by
  have hlt : i < (l.map f).length := by rw [List.length_map]; exact (List.getElem?_eq_some_iff.1 hx).1
  have h := H.giveI k j i hA hB hi (by rw [setH_len]; exact hlt) (getH_set_same hlt)
  have e : ∀ (l : List α) (i : Nat), setH (l.map f) i (f y) = (l.set i y).map f := by
    intro l
    induction l with
    | nil => intro i; rfl
    | cons z l ih => intro i; cases i with
      | zero => rfl
      | succ i => show f z :: setH (l.map f) i (f y) = f z :: (l.set i y).map f; rw [ih]
  rw [setH_set, e] at h
  exact h
theorem St.addM (f : α → HP) (H : St w0 S0 R w L) : St w0 S0 R w (L ++ [allH (([] : List α).map f)]) := H.addAll
theorem St.pushM (H : St w0 S0 R w L) (k j : Nat) (y : α) (hA : getH L k = allH (l.map f)) (hB : getH L j = f y) (hi : okI L [k, j] = true) : St w0 S0 R w (setH (setH L k (allH ((l ++ [y]).map f))) j emp) := by
  have h := H.pushI k j hA hB hi
  rw [show l.map f ++ [f y] = (l ++ [y]).map f from by simp] at h
  exact h
end
end Go.Wk

namespace Go.Wk
attribute [irreducible] blkH slH rdH mapH itH allH repH shH
end Go.Wk
