import Derived.Test.YtphllgfbjfajfaaG1
import Derived.KernelRfl
namespace Go.Proofs.Ytphllgfbjfajfaa.W
open Go Go.Wk
set_option linter.unusedVariables false
set_option linter.unusedSimpArgs false

def sizeP (p : ProgR) : Prop := (0 ≤ p.args ∧ p.args ≤ 16) ∧ (0 ≤ p.reads ∧ p.reads ≤ 16) ∧ (0 ≤ p.writes ∧ p.writes ≤ 16) ∧ (0 ≤ p.locals ∧ p.locals ≤ 16) ∧ p.code.n ≤ 256
instance (p : ProgR) : Decidable (sizeP p) := by unfold sizeP; infer_instance
def sizeE (p : ProgR) : Int := if sizeP p then 0 else 30
def argB (p : ProgR) (x : InsR) : Prop := (x.op = 1 ∨ x.op = 30 ∨ x.op = 31) ∨ (0 ≤ x.a ∧ x.a < mostF p x.op)
instance (p : ProgR) (x : InsR) : Decidable (argB p x) := by unfold argB; infer_instance
def firstE (p : ProgR) : Nat → List InsR → Int
  | _, [] => 0
  | i, x :: l => if insE p ((i : Nat) : Int) x ≠ 0 then insE p ((i : Nat) : Int) x else firstE p (i + 1) l
theorem firstE_at {p : ProgR} : ∀ {l : List InsR} {i : Nat}, firstE p i l = 0 → ∀ j x, l[j]? = some x → insE p ((i + j : Nat) : Int) x = 0
  | [], _, _, j, x, hx => by simp at hx
  | y :: l, i, h, j, x, hx => by
    unfold firstE at h
    split at h
    · rename_i h2; exact absurd h h2
    · rename_i h2
      cases j with
      | zero => cases hx; simpa using h2
      | succ j =>
        have := firstE_at h j x (by simpa using hx)
        rw [show i + (j + 1) = i + 1 + j from by omega]; exact this
def stepW : List Int → List Int → Int → Option (List Int)
  | [], d, _ => some d
  | t :: ts, d, n => if 0 ≤ d.getD t.toNat 0 ∧ d.getD t.toNat 0 ≠ n then none else stepW ts (d.set t.toNat n) n
def depE : List InsR → Nat → List Int → Int
  | [], _, _ => 0
  | x :: l, i, d => if d.getD i 0 < 0 then depE l (i + 1) d else if d.getD i 0 < tkF x.op ∨ 32 < d.getD i 0 - tkF x.op + lvF x.op then 34 else
    match stepW (waysF ((i : Nat) : Int) x) d (d.getD i 0 - tkF x.op + lvF x.op) with
    | none => 34
    | some d' => depE l (i + 1) d'
def d0 (n : Nat) : List Int := 0 :: List.replicate n (-1)
/-- what is wrong with a program -/
def verE (p : ProgR) : Int := if sizeP p then (if firstE p 0 p.cl ≠ 0 then firstE p 0 p.cl else depE p.cl 0 (d0 p.code.n)) else 30
theorem getD_set {d : List Int} {i j : Nat} {n : Int} (h : i ≠ j) : (d.set i n).getD j 0 = d.getD j 0 := by
  rw [List.getD_eq_getElem?_getD, List.getElem?_set_ne h, ← List.getD_eq_getElem?_getD]
theorem stepW_swap (d : List Int) (a b n : Int) : stepW [a, b] d n = stepW [b, a] d n := by
  by_cases e : a.toNat = b.toNat
  · simp only [stepW, e]
  · simp only [stepW, getD_set e, getD_set (Ne.symm e)]
    by_cases h1 : 0 ≤ d.getD a.toNat 0 ∧ d.getD a.toNat 0 ≠ n
    · rw [if_pos h1]
      by_cases h2 : 0 ≤ d.getD b.toNat 0 ∧ d.getD b.toNat 0 ≠ n
      · rw [if_pos h2]
      · rw [if_neg h2, if_pos h1]
    · rw [if_neg h1]
      by_cases h2 : 0 ≤ d.getD b.toNat 0 ∧ d.getD b.toNat 0 ≠ n
      · rw [if_pos h2, if_pos h2]
      · rw [if_neg h2, if_neg h2, if_neg h1, List.set_comm _ _ e]
theorem step_next (i : Int) (x : InsR) (d : List Int) (n : Int) : stepW (nextF i x) d n = stepW (waysF i x) d n := by
  unfold nextF waysF
  split
  · rfl
  · split
    · rfl
    · split
      · exact stepW_swap _ _ _ _
      · rfl
theorem stepW_len : ∀ {ts d : List Int} {n : Int} {d' : List Int}, stepW ts d n = some d' → d'.length = d.length
  | [], d, n, d', h => by cases h; rfl
  | t :: ts, d, n, d', h => by
    unfold stepW at h
    split at h
    · cases h
    · rw [stepW_len h, List.length_set]
theorem ways_in {p : ProgR} {i : Nat} {x : InsR} {t : Int} (h : insE p ((i : Nat) : Int) x = 0) (hi : i < p.code.n) (ht : t ∈ waysF ((i : Nat) : Int) x) : 0 ≤ t ∧ t ≤ ((p.code.n : Nat) : Int) := by
  have hj : x.op = 30 ∨ x.op = 31 → ((i : Nat) : Int) < x.a ∧ x.a ≤ ((p.code.n : Nat) : Int) := fun ho => by
    unfold insE argE at h
    omega
  unfold waysF at ht
  split at ht
  · cases ht
  · split at ht
    · rename_i h2
      have := hj (.inl h2)
      simp at ht; omega
    · split at ht
      · rename_i h2
        have := hj (.inr h2)
        simp at ht; omega
      · simp at ht; omega
theorem next_in {p : ProgR} {i : Nat} {x : InsR} {t : Int} (h : insE p ((i : Nat) : Int) x = 0) (hi : i < p.code.n) (ht : t ∈ nextF ((i : Nat) : Int) x) : 0 ≤ t ∧ t ≤ ((p.code.n : Nat) : Int) := by
  refine ways_in h hi ?_
  unfold nextF at ht
  unfold waysF
  split at ht
  · cases ht
  · rename_i h1
    rw [if_neg h1]
    split at ht
    · rename_i h2; rw [if_pos h2]; exact ht
    · rename_i h2
      rw [if_neg h2]
      split at ht
      · rename_i h3; rw [if_pos h3]; simp at ht ⊢; exact ht.symm
      · rename_i h3; rw [if_neg h3]; exact ht
theorem stepW_cons {t n : Int} {ts d : List Int} {y : Int} (hy : d[t.toNat]? = some y) : stepW (t :: ts) d n = if 0 ≤ y ∧ y ≠ n then none else stepW ts (d.set t.toNat n) n := by
  have : d.getD t.toNat 0 = y := by rw [List.getD_eq_getElem?_getD, hy]; rfl
  show (if 0 ≤ d.getD t.toNat 0 ∧ d.getD t.toNat 0 ≠ n then none else _) = _
  rw [this]
theorem depE_cons {x : InsR} {l : List InsR} {i : Nat} {d : List Int} {y : Int} (hy : d[i]? = some y) : depE (x :: l) i d = if y < 0 then depE l (i + 1) d else if y < tkF x.op ∨ 32 < y - tkF x.op + lvF x.op then 34 else
    match stepW (waysF ((i : Nat) : Int) x) d (y - tkF x.op + lvF x.op) with
    | none => 34
    | some d' => depE l (i + 1) d' := by
  have : d.getD i 0 = y := by rw [List.getD_eq_getElem?_getD, hy]; rfl
  conv => lhs; unfold depE
  rw [this]
/-! names -/
def okC (i : Nat) (c : Int) : Prop := (97 ≤ c ∧ c ≤ 122) ∨ (65 ≤ c ∧ c ≤ 90) ∨ (i ≠ 0 ∧ (c = 95 ∨ (48 ≤ c ∧ c ≤ 57)))
instance (i : Nat) (c : Int) : Decidable (okC i c) := by unfold okC; infer_instance
def nameP (s : ByteArray) : Prop := (1 ≤ s.size ∧ s.size ≤ 31) ∧ ∀ i, (h : i < s.size) → okC i (((s[i]'h).toNat : Nat) : Int)
instance (s : ByteArray) : Decidable (nameP s) := by unfold nameP; infer_instance
theorem ba_nil {s : ByteArray} : s = ⟨#[]⟩ ↔ ((s.size : Nat) : Int) = 0 := by
  constructor
  · rintro rfl; rfl
  · intro h
    have h2 : s.data.size = 0 := by have : s.size = s.data.size := rfl; omega
    exact ByteArray.ext (Array.eq_empty_of_size_eq_zero h2)
theorem name_bad {s : ByteArray} {i : Nat} (hi : i < s.size) {c : Int} (hc : (((s[i]'hi).toNat : Nat) : Int) = c) (h : ¬ okC i c) : ¬ nameP s := fun hn => h (hc ▸ hn.2 i hi)
instance decMemBA (a : ByteArray) : (l : List ByteArray) → Decidable (a ∈ l)
  | [] => isFalse (by simp)
  | b :: l => by
    have := decMemBA a l
    exact decidable_of_iff (a = b ∨ a ∈ l) (by simp)
def chkE : List ProcR → List ByteArray → Int
  | [], _ => 0
  | x :: l, seen => if ¬ nameP x.name ∨ x.name ∈ seen then 35 else if verE x.prog ≠ 0 then verE x.prog else chkE l (x.name :: seen)
/-- what is wrong with a library -/
def errL (lib : List ProcR) : Int := if 64 < lib.length then 36 else chkE lib []
def mkC (x : ProcR) : HP := rdH encIns 2 x.prog.code.a x.prog.code.n x.prog.code.c x.prog.cl
theorem within_tr (n k : Int) : Tr Try.prog 31 [.int .i64 n, .int .i64 k] [] [] (fun v m => v = .bool (decide (0 ≤ n ∧ n ≤ k)) ∧ m = []) := by
  intro w0 S0 H0
  refine enterR Try.func31 rfl Try.ntmps31 rfl ?_
  intro g0
  refine seq_ ?_
  refine region_ ?_
  refine wl_valE (v := .bool false) rfl (rf_assign rfl) rfl ?_
  refine wl_nil ?_
  refine thn ?_
  refine seq_ ?_
  refine region_ ?_
  refine wl_valE (v := .int .i64 n) rfl (rf_move rfl) rfl ?_
  refine wl_valE (v := .bool (decide ((0 : Int) ≤ n))) rfl (rf_geq rfl rfl rfl rfl) rfl ?_
  refine wl_valE (v := .bool (decide ((0 : Int) ≤ n))) rfl (rf_move rfl) rfl ?_
  refine wl_split (decide ((0 : Int) ≤ n)) (fun u1_2 => ?_) (fun u1_2 => ?_)
  · have u1_2p := of_decide_eq_true u1_2
    refine wl_guardT rfl rfl rfl u1_2 ?_
    refine wl_valE (v := .int .i64 n) rfl (rf_move rfl) rfl ?_
    refine wl_guardT rfl rfl rfl u1_2 ?_
    refine wl_valE (v := .int .i64 k) rfl (rf_move rfl) rfl ?_
    refine wl_guardT rfl rfl rfl u1_2 ?_
    refine wl_valE (v := .bool (decide (n ≤ k))) rfl (rf_leq rfl rfl rfl rfl) rfl ?_
    refine wl_valE (v := .bool (decide (n ≤ k))) rfl (rf_pickT rfl rfl rfl u1_2) rfl ?_
    refine wl_valE (v := .bool (decide (n ≤ k))) rfl (rf_assign rfl) rfl ?_
    refine wl_nil ?_
    refine thn ?_
    refine ret_ ?_
    refine fin1 (v := .bool (decide (n ≤ k))) Try.results31 rfl rfl ?_
    exact ⟨_, ⟨congrArg Value.bool (by first | exact (decide_eq_false (by omega)).symm | exact decide_eq_decide.2 (by omega)), rfl⟩, H0.pick' [] rfl rfl⟩
  · have u1_2p := of_decide_eq_false u1_2
    refine wl_guardF rfl rfl rfl u1_2 ?_
    refine wl_guardF rfl rfl rfl u1_2 ?_
    refine wl_guardF rfl rfl rfl u1_2 ?_
    refine wl_valE (v := .bool false) rfl (rf_pickF rfl rfl rfl u1_2) rfl ?_
    refine wl_valE (v := .bool false) rfl (rf_assign rfl) rfl ?_
    refine wl_nil ?_
    refine thn ?_
    refine ret_ ?_
    refine fin1 (v := .bool false) Try.results31 rfl rfl ?_
    exact ⟨_, ⟨congrArg Value.bool (by first | exact (decide_eq_false (by omega)).symm | exact decide_eq_decide.2 (by omega)), rfl⟩, H0.pick' [] rfl rfl⟩
theorem sizes_tr (p : ProgR) : Tr Try.prog 30 [.agg #[.int .i64 p.args, .int .i64 p.reads, .int .i64 p.writes, .int .i64 p.locals, .slice p.code.a p.code.n p.code.c]] [] [] (fun v m => v = .int .i64 (sizeE p) ∧ m = []) := by
  intro w0 S0 H0
  refine enterR Try.func30 rfl Try.ntmps30 rfl ?_
  intro g0
  refine seq_ ?_
  refine region_ ?_
  refine wl_boxH H0 (v := .agg #[.int .i64 p.args, .int .i64 p.reads, .int .i64 p.writes, .int .i64 p.locals, .slice p.code.a p.code.n p.code.c]) rfl rfl ?_
  intro b1 w2 H2
  refine wl_valE (v := .int .i64 (0 : Int)) rfl (rf_assign rfl) rfl ?_
  refine wl_nil ?_
  refine thn ?_
  refine seq_ ?_
  refine region_ ?_
  refine wl_valE (v := .pointer (some ⟨b1, 0, none⟩)) rfl (rf_fieldAddr Try.underlying32 rfl ti3 rfl rfl) rfl ?_
  refine wl_valE (v := .int .i64 p.args) rfl (rf_load Try.underlying3 rfl rfl rfl ((H2.blk 0 rfl).cell rfl)) rfl ?_
  refine wl_tr H2 rfl [] (within_tr p.args (16 : Int)) rfl .nil (rf_call Try.call31 rfl rfl) rfl ?_
  rintro _ w3 _ ⟨rfl, rfl⟩ H3
  refine wl_valE (v := .bool (decide (0 ≤ p.args ∧ p.args ≤ (16 : Int)))) rfl (rf_move rfl) rfl ?_
  refine wl_split (decide (0 ≤ p.args ∧ p.args ≤ (16 : Int))) (fun u1_3 => ?_) (fun u1_3 => ?_)
  · have u1_3p := of_decide_eq_true u1_3
    refine wl_guardT rfl rfl rfl u1_3 ?_
    refine wl_valE (v := .pointer (some ⟨b1, 1, none⟩)) rfl (rf_fieldAddr Try.underlying32 rfl ti3 rfl rfl) rfl ?_
    refine wl_guardT rfl rfl rfl u1_3 ?_
    refine wl_valE (v := .int .i64 p.reads) rfl (rf_load Try.underlying3 rfl rfl rfl ((H3.blk 0 rfl).cell rfl)) rfl ?_
    refine wl_guardT rfl rfl rfl u1_3 ?_
    refine wl_tr H3 rfl [] (within_tr p.reads (16 : Int)) rfl .nil (rf_call Try.call31 rfl rfl) rfl ?_
    rintro _ w4 _ ⟨rfl, rfl⟩ H4
    refine wl_valE (v := .bool (decide (0 ≤ p.reads ∧ p.reads ≤ (16 : Int)))) rfl (rf_pickT rfl rfl rfl u1_3) rfl ?_
    refine wl_valE (v := .bool (decide (0 ≤ p.reads ∧ p.reads ≤ (16 : Int)))) rfl (rf_move rfl) rfl ?_
    refine wl_split (decide (0 ≤ p.reads ∧ p.reads ≤ (16 : Int))) (fun u1_8 => ?_) (fun u1_8 => ?_)
    · have u1_8p := of_decide_eq_true u1_8
      refine wl_guardT rfl rfl rfl u1_8 ?_
      refine wl_valE (v := .pointer (some ⟨b1, 2, none⟩)) rfl (rf_fieldAddr Try.underlying32 rfl ti3 rfl rfl) rfl ?_
      refine wl_guardT rfl rfl rfl u1_8 ?_
      refine wl_valE (v := .int .i64 p.writes) rfl (rf_load Try.underlying3 rfl rfl rfl ((H4.blk 0 rfl).cell rfl)) rfl ?_
      refine wl_guardT rfl rfl rfl u1_8 ?_
      refine wl_tr H4 rfl [] (within_tr p.writes (16 : Int)) rfl .nil (rf_call Try.call31 rfl rfl) rfl ?_
      rintro _ w5 _ ⟨rfl, rfl⟩ H5
      refine wl_valE (v := .bool (decide (0 ≤ p.writes ∧ p.writes ≤ (16 : Int)))) rfl (rf_pickT rfl rfl rfl u1_8) rfl ?_
      refine wl_valE (v := .bool (decide (0 ≤ p.writes ∧ p.writes ≤ (16 : Int)))) rfl (rf_move rfl) rfl ?_
      refine wl_split (decide (0 ≤ p.writes ∧ p.writes ≤ (16 : Int))) (fun u1_13 => ?_) (fun u1_13 => ?_)
      · have u1_13p := of_decide_eq_true u1_13
        refine wl_guardT rfl rfl rfl u1_13 ?_
        refine wl_valE (v := .pointer (some ⟨b1, 3, none⟩)) rfl (rf_fieldAddr Try.underlying32 rfl ti3 rfl rfl) rfl ?_
        refine wl_guardT rfl rfl rfl u1_13 ?_
        refine wl_valE (v := .int .i64 p.locals) rfl (rf_load Try.underlying3 rfl rfl rfl ((H5.blk 0 rfl).cell rfl)) rfl ?_
        refine wl_guardT rfl rfl rfl u1_13 ?_
        refine wl_tr H5 rfl [] (within_tr p.locals (16 : Int)) rfl .nil (rf_call Try.call31 rfl rfl) rfl ?_
        rintro _ w6 _ ⟨rfl, rfl⟩ H6
        refine wl_valE (v := .bool (decide (0 ≤ p.locals ∧ p.locals ≤ (16 : Int)))) rfl (rf_pickT rfl rfl rfl u1_13) rfl ?_
        refine wl_valE (v := .bool (decide (0 ≤ p.locals ∧ p.locals ≤ (16 : Int)))) rfl (rf_assign rfl) rfl ?_
        refine wl_nil ?_
        refine thn ?_
        refine seq_ ?_
        refine seq_ ?_
        refine region_ ?_
        refine wl_valE (v := .bool (decide (0 ≤ p.locals ∧ p.locals ≤ (16 : Int)))) rfl (rf_move rfl) rfl ?_
        refine wl_valE (v := .bool (!(decide (0 ≤ p.locals ∧ p.locals ≤ (16 : Int))))) rfl (rf_not rfl rfl) rfl ?_
        refine wl_valE (v := .bool (!(decide (0 ≤ p.locals ∧ p.locals ≤ (16 : Int))))) rfl (rf_move rfl) rfl ?_
        refine wl_split (!(decide (0 ≤ p.locals ∧ p.locals ≤ (16 : Int)))) (fun u2_2 => ?_) (fun u2_2 => ?_)
        · have u2_2p := of_decide_eq_false (bnotT u2_2)
          refine wl_guardF rfl rfl rfl u2_2 ?_
          refine wl_guardF rfl rfl rfl u2_2 ?_
          refine wl_guardF rfl rfl rfl u2_2 ?_
          refine wl_guardF rfl rfl rfl u2_2 ?_
          refine wl_valE (v := .bool true) rfl (rf_pickT rfl rfl rfl u2_2) rfl ?_
          refine wl_nil ?_
          refine thn ?_
          refine condT rfl rfl ?_
          refine seq_ ?_
          refine region_ ?_
          refine wl_valE (v := .int .i64 (30 : Int)) rfl (rf_assign rfl) rfl ?_
          refine wl_nil ?_
          refine thn ?_
          refine ret_ ?_
          refine thr ?_
          refine fin1 (v := .int .i64 (30 : Int)) Try.results30 rfl rfl ?_
          exact ⟨_, ⟨congrArg (Value.int .i64) (by unfold sizeE sizeP; omega), rfl⟩, H6.pick' [] rfl rfl⟩
        · have u2_2p := of_decide_eq_true (bnotF u2_2)
          refine wl_guardT rfl rfl rfl u2_2 ?_
          refine wl_valE (v := .pointer (some ⟨b1, 4, none⟩)) rfl (rf_fieldAddr Try.underlying32 rfl ti30 rfl rfl) rfl ?_
          refine wl_guardT rfl rfl rfl u2_2 ?_
          refine wl_valE (v := .slice p.code.a p.code.n p.code.c) rfl (rf_load Try.underlying30 rfl rfl rfl ((H6.blk 0 rfl).cell rfl)) rfl ?_
          refine wl_guardT rfl rfl rfl u2_2 ?_
          refine wl_valE (v := .int .i64 ((p.code.n : Nat) : Int)) rfl (rf_len_slice Try.underlying30 rfl rfl) rfl ?_
          refine wl_guardT rfl rfl rfl u2_2 ?_
          refine wl_valE (v := .bool (decide ((256 : Int) < ((p.code.n : Nat) : Int)))) rfl (rf_gtr rfl rfl rfl rfl) rfl ?_
          refine wl_valE (v := .bool (decide ((256 : Int) < ((p.code.n : Nat) : Int)))) rfl (rf_pickF rfl rfl rfl u2_2) rfl ?_
          refine wl_nil ?_
          refine thn ?_
          refine cond_ (t := decide ((256 : Int) < ((p.code.n : Nat) : Int))) rfl rfl (fun c29 => ?_) (fun c29 => ?_)
          · have c29p := of_decide_eq_true c29
            refine seq_ ?_
            refine region_ ?_
            refine wl_valE (v := .int .i64 (30 : Int)) rfl (rf_assign rfl) rfl ?_
            refine wl_nil ?_
            refine thn ?_
            refine ret_ ?_
            refine thr ?_
            refine fin1 (v := .int .i64 (30 : Int)) Try.results30 rfl rfl ?_
            exact ⟨_, ⟨congrArg (Value.int .i64) (by unfold sizeE sizeP; omega), rfl⟩, H6.pick' [] rfl rfl⟩
          · have c29p := of_decide_eq_false c29
            refine skip_ ?_
            refine thn ?_
            refine seq_ ?_
            refine region_ ?_
            refine wl_valE (v := .int .i64 (0 : Int)) rfl (rf_assign rfl) rfl ?_
            refine wl_nil ?_
            refine thn ?_
            refine ret_ ?_
            refine fin1 (v := .int .i64 (0 : Int)) Try.results30 rfl rfl ?_
            exact ⟨_, ⟨congrArg (Value.int .i64) (by unfold sizeE sizeP; omega), rfl⟩, H6.pick' [] rfl rfl⟩
      · have u1_13p := of_decide_eq_false u1_13
        refine wl_guardF rfl rfl rfl u1_13 ?_
        refine wl_guardF rfl rfl rfl u1_13 ?_
        refine wl_guardF rfl rfl rfl u1_13 ?_
        refine wl_valE (v := .bool false) rfl (rf_pickF rfl rfl rfl u1_13) rfl ?_
        refine wl_valE (v := .bool false) rfl (rf_assign rfl) rfl ?_
        refine wl_nil ?_
        refine thn ?_
        refine seq_ ?_
        refine seq_ ?_
        refine region_ ?_
        refine wl_valE (v := .bool false) rfl (rf_move rfl) rfl ?_
        refine wl_valE (v := .bool true) rfl (rf_not rfl rfl) rfl ?_
        refine wl_valE (v := .bool true) rfl (rf_move rfl) rfl ?_
        refine wl_guardF rfl rfl rfl rfl ?_
        refine wl_guardF rfl rfl rfl rfl ?_
        refine wl_guardF rfl rfl rfl rfl ?_
        refine wl_guardF rfl rfl rfl rfl ?_
        refine wl_valE (v := .bool true) rfl (rf_pickT rfl rfl rfl rfl) rfl ?_
        refine wl_nil ?_
        refine thn ?_
        refine condT rfl rfl ?_
        refine seq_ ?_
        refine region_ ?_
        refine wl_valE (v := .int .i64 (30 : Int)) rfl (rf_assign rfl) rfl ?_
        refine wl_nil ?_
        refine thn ?_
        refine ret_ ?_
        refine thr ?_
        refine fin1 (v := .int .i64 (30 : Int)) Try.results30 rfl rfl ?_
        exact ⟨_, ⟨congrArg (Value.int .i64) (by unfold sizeE sizeP; omega), rfl⟩, H5.pick' [] rfl rfl⟩
    · have u1_8p := of_decide_eq_false u1_8
      refine wl_guardF rfl rfl rfl u1_8 ?_
      refine wl_guardF rfl rfl rfl u1_8 ?_
      refine wl_guardF rfl rfl rfl u1_8 ?_
      refine wl_valE (v := .bool false) rfl (rf_pickF rfl rfl rfl u1_8) rfl ?_
      refine wl_valE (v := .bool false) rfl (rf_move rfl) rfl ?_
      refine wl_guardF rfl rfl rfl rfl ?_
      refine wl_guardF rfl rfl rfl rfl ?_
      refine wl_guardF rfl rfl rfl rfl ?_
      refine wl_valE (v := .bool false) rfl (rf_pickF rfl rfl rfl rfl) rfl ?_
      refine wl_valE (v := .bool false) rfl (rf_assign rfl) rfl ?_
      refine wl_nil ?_
      refine thn ?_
      refine seq_ ?_
      refine seq_ ?_
      refine region_ ?_
      refine wl_valE (v := .bool false) rfl (rf_move rfl) rfl ?_
      refine wl_valE (v := .bool true) rfl (rf_not rfl rfl) rfl ?_
      refine wl_valE (v := .bool true) rfl (rf_move rfl) rfl ?_
      refine wl_guardF rfl rfl rfl rfl ?_
      refine wl_guardF rfl rfl rfl rfl ?_
      refine wl_guardF rfl rfl rfl rfl ?_
      refine wl_guardF rfl rfl rfl rfl ?_
      refine wl_valE (v := .bool true) rfl (rf_pickT rfl rfl rfl rfl) rfl ?_
      refine wl_nil ?_
      refine thn ?_
      refine condT rfl rfl ?_
      refine seq_ ?_
      refine region_ ?_
      refine wl_valE (v := .int .i64 (30 : Int)) rfl (rf_assign rfl) rfl ?_
      refine wl_nil ?_
      refine thn ?_
      refine ret_ ?_
      refine thr ?_
      refine fin1 (v := .int .i64 (30 : Int)) Try.results30 rfl rfl ?_
      exact ⟨_, ⟨congrArg (Value.int .i64) (by unfold sizeE sizeP; omega), rfl⟩, H4.pick' [] rfl rfl⟩
  · have u1_3p := of_decide_eq_false u1_3
    refine wl_guardF rfl rfl rfl u1_3 ?_
    refine wl_guardF rfl rfl rfl u1_3 ?_
    refine wl_guardF rfl rfl rfl u1_3 ?_
    refine wl_valE (v := .bool false) rfl (rf_pickF rfl rfl rfl u1_3) rfl ?_
    refine wl_valE (v := .bool false) rfl (rf_move rfl) rfl ?_
    refine wl_guardF rfl rfl rfl rfl ?_
    refine wl_guardF rfl rfl rfl rfl ?_
    refine wl_guardF rfl rfl rfl rfl ?_
    refine wl_valE (v := .bool false) rfl (rf_pickF rfl rfl rfl rfl) rfl ?_
    refine wl_valE (v := .bool false) rfl (rf_move rfl) rfl ?_
    refine wl_guardF rfl rfl rfl rfl ?_
    refine wl_guardF rfl rfl rfl rfl ?_
    refine wl_guardF rfl rfl rfl rfl ?_
    refine wl_valE (v := .bool false) rfl (rf_pickF rfl rfl rfl rfl) rfl ?_
    refine wl_valE (v := .bool false) rfl (rf_assign rfl) rfl ?_
    refine wl_nil ?_
    refine thn ?_
    refine seq_ ?_
    refine seq_ ?_
    refine region_ ?_
    refine wl_valE (v := .bool false) rfl (rf_move rfl) rfl ?_
    refine wl_valE (v := .bool true) rfl (rf_not rfl rfl) rfl ?_
    refine wl_valE (v := .bool true) rfl (rf_move rfl) rfl ?_
    refine wl_guardF rfl rfl rfl rfl ?_
    refine wl_guardF rfl rfl rfl rfl ?_
    refine wl_guardF rfl rfl rfl rfl ?_
    refine wl_guardF rfl rfl rfl rfl ?_
    refine wl_valE (v := .bool true) rfl (rf_pickT rfl rfl rfl rfl) rfl ?_
    refine wl_nil ?_
    refine thn ?_
    refine condT rfl rfl ?_
    refine seq_ ?_
    refine region_ ?_
    refine wl_valE (v := .int .i64 (30 : Int)) rfl (rf_assign rfl) rfl ?_
    refine wl_nil ?_
    refine thn ?_
    refine ret_ ?_
    refine thr ?_
    refine fin1 (v := .int .i64 (30 : Int)) Try.results30 rfl rfl ?_
    exact ⟨_, ⟨congrArg (Value.int .i64) (by unfold sizeE sizeP; omega), rfl⟩, H3.pick' [] rfl rfl⟩
theorem limits_tr (p : ProgR) : Tr Try.prog 35 [.agg #[.int .i64 p.args, .int .i64 p.reads, .int .i64 p.writes, .int .i64 p.locals, .slice p.code.a p.code.n p.code.c]] [] [] (fun v m => v = .bool (decide (sizeP p)) ∧ m = []) := by
  intro w0 S0 H0
  refine enterR Try.func35 rfl Try.ntmps35 rfl ?_
  intro g0
  refine seq_ ?_
  refine region_ ?_
  refine wl_boxH H0 (v := .agg #[.int .i64 p.args, .int .i64 p.reads, .int .i64 p.writes, .int .i64 p.locals, .slice p.code.a p.code.n p.code.c]) rfl rfl ?_
  intro b1 w2 H2
  refine wl_valE (v := .bool false) rfl (rf_assign rfl) rfl ?_
  refine wl_nil ?_
  refine thn ?_
  refine seq_ ?_
  refine seq_ ?_
  refine region_ ?_
  refine wl_valE (v := .pointer (some ⟨b1, 0, none⟩)) rfl (rf_fieldAddr Try.underlying32 rfl ti3 rfl rfl) rfl ?_
  refine wl_valE (v := .int .i64 p.args) rfl (rf_load Try.underlying3 rfl rfl rfl ((H2.blk 0 rfl).cell rfl)) rfl ?_
  refine wl_valE (v := .bool (decide (p.args < (0 : Int)))) rfl (rf_lss rfl rfl rfl rfl) rfl ?_
  refine wl_valE (v := .bool (decide (p.args < (0 : Int)))) rfl (rf_move rfl) rfl ?_
  refine wl_split (decide (p.args < (0 : Int))) (fun u1_3 => ?_) (fun u1_3 => ?_)
  · have u1_3p := of_decide_eq_true u1_3
    refine wl_guardF rfl rfl rfl u1_3 ?_
    refine wl_guardF rfl rfl rfl u1_3 ?_
    refine wl_guardF rfl rfl rfl u1_3 ?_
    refine wl_valE (v := .bool true) rfl (rf_pickT rfl rfl rfl u1_3) rfl ?_
    refine wl_valE (v := .bool true) rfl (rf_move rfl) rfl ?_
    refine wl_guardF rfl rfl rfl rfl ?_
    refine wl_guardF rfl rfl rfl rfl ?_
    refine wl_guardF rfl rfl rfl rfl ?_
    refine wl_valE (v := .bool true) rfl (rf_pickT rfl rfl rfl rfl) rfl ?_
    refine wl_valE (v := .bool true) rfl (rf_move rfl) rfl ?_
    refine wl_guardF rfl rfl rfl rfl ?_
    refine wl_guardF rfl rfl rfl rfl ?_
    refine wl_guardF rfl rfl rfl rfl ?_
    refine wl_valE (v := .bool true) rfl (rf_pickT rfl rfl rfl rfl) rfl ?_
    refine wl_valE (v := .bool true) rfl (rf_move rfl) rfl ?_
    refine wl_guardF rfl rfl rfl rfl ?_
    refine wl_guardF rfl rfl rfl rfl ?_
    refine wl_guardF rfl rfl rfl rfl ?_
    refine wl_valE (v := .bool true) rfl (rf_pickT rfl rfl rfl rfl) rfl ?_
    refine wl_valE (v := .bool true) rfl (rf_move rfl) rfl ?_
    refine wl_guardF rfl rfl rfl rfl ?_
    refine wl_guardF rfl rfl rfl rfl ?_
    refine wl_guardF rfl rfl rfl rfl ?_
    refine wl_valE (v := .bool true) rfl (rf_pickT rfl rfl rfl rfl) rfl ?_
    refine wl_nil ?_
    refine thn ?_
    refine condT rfl rfl ?_
    refine seq_ ?_
    refine region_ ?_
    refine wl_valE (v := .bool false) rfl (rf_assign rfl) rfl ?_
    refine wl_nil ?_
    refine thn ?_
    refine ret_ ?_
    refine thr ?_
    refine fin1 (v := .bool false) Try.results35 rfl rfl ?_
    exact ⟨_, ⟨congrArg Value.bool (by first | exact (decide_eq_false (by unfold sizeP; omega)).symm | exact (decide_eq_true (by unfold sizeP; omega)).symm | exact decide_eq_decide.2 (by unfold sizeP; omega)), rfl⟩, H2.pick' [] rfl rfl⟩
  · have u1_3p := of_decide_eq_false u1_3
    refine wl_guardT rfl rfl rfl u1_3 ?_
    refine wl_valE (v := .pointer (some ⟨b1, 0, none⟩)) rfl (rf_fieldAddr Try.underlying32 rfl ti3 rfl rfl) rfl ?_
    refine wl_guardT rfl rfl rfl u1_3 ?_
    refine wl_valE (v := .int .i64 p.args) rfl (rf_load Try.underlying3 rfl rfl rfl ((H2.blk 0 rfl).cell rfl)) rfl ?_
    refine wl_guardT rfl rfl rfl u1_3 ?_
    refine wl_valE (v := .bool (decide ((16 : Int) < p.args))) rfl (rf_gtr rfl rfl rfl rfl) rfl ?_
    refine wl_valE (v := .bool (decide ((16 : Int) < p.args))) rfl (rf_pickF rfl rfl rfl u1_3) rfl ?_
    refine wl_valE (v := .bool (decide ((16 : Int) < p.args))) rfl (rf_move rfl) rfl ?_
    refine wl_split (decide ((16 : Int) < p.args)) (fun u1_8 => ?_) (fun u1_8 => ?_)
    · have u1_8p := of_decide_eq_true u1_8
      refine wl_guardF rfl rfl rfl u1_8 ?_
      refine wl_guardF rfl rfl rfl u1_8 ?_
      refine wl_guardF rfl rfl rfl u1_8 ?_
      refine wl_valE (v := .bool true) rfl (rf_pickT rfl rfl rfl u1_8) rfl ?_
      refine wl_valE (v := .bool true) rfl (rf_move rfl) rfl ?_
      refine wl_guardF rfl rfl rfl rfl ?_
      refine wl_guardF rfl rfl rfl rfl ?_
      refine wl_guardF rfl rfl rfl rfl ?_
      refine wl_valE (v := .bool true) rfl (rf_pickT rfl rfl rfl rfl) rfl ?_
      refine wl_valE (v := .bool true) rfl (rf_move rfl) rfl ?_
      refine wl_guardF rfl rfl rfl rfl ?_
      refine wl_guardF rfl rfl rfl rfl ?_
      refine wl_guardF rfl rfl rfl rfl ?_
      refine wl_valE (v := .bool true) rfl (rf_pickT rfl rfl rfl rfl) rfl ?_
      refine wl_valE (v := .bool true) rfl (rf_move rfl) rfl ?_
      refine wl_guardF rfl rfl rfl rfl ?_
      refine wl_guardF rfl rfl rfl rfl ?_
      refine wl_guardF rfl rfl rfl rfl ?_
      refine wl_valE (v := .bool true) rfl (rf_pickT rfl rfl rfl rfl) rfl ?_
      refine wl_nil ?_
      refine thn ?_
      refine condT rfl rfl ?_
      refine seq_ ?_
      refine region_ ?_
      refine wl_valE (v := .bool false) rfl (rf_assign rfl) rfl ?_
      refine wl_nil ?_
      refine thn ?_
      refine ret_ ?_
      refine thr ?_
      refine fin1 (v := .bool false) Try.results35 rfl rfl ?_
      exact ⟨_, ⟨congrArg Value.bool (by first | exact (decide_eq_false (by unfold sizeP; omega)).symm | exact (decide_eq_true (by unfold sizeP; omega)).symm | exact decide_eq_decide.2 (by unfold sizeP; omega)), rfl⟩, H2.pick' [] rfl rfl⟩
    · have u1_8p := of_decide_eq_false u1_8
      refine wl_guardT rfl rfl rfl u1_8 ?_
      refine wl_valE (v := .pointer (some ⟨b1, 1, none⟩)) rfl (rf_fieldAddr Try.underlying32 rfl ti3 rfl rfl) rfl ?_
      refine wl_guardT rfl rfl rfl u1_8 ?_
      refine wl_valE (v := .int .i64 p.reads) rfl (rf_load Try.underlying3 rfl rfl rfl ((H2.blk 0 rfl).cell rfl)) rfl ?_
      refine wl_guardT rfl rfl rfl u1_8 ?_
      refine wl_valE (v := .bool (decide (p.reads < (0 : Int)))) rfl (rf_lss rfl rfl rfl rfl) rfl ?_
      refine wl_valE (v := .bool (decide (p.reads < (0 : Int)))) rfl (rf_pickF rfl rfl rfl u1_8) rfl ?_
      refine wl_valE (v := .bool (decide (p.reads < (0 : Int)))) rfl (rf_move rfl) rfl ?_
      refine wl_split (decide (p.reads < (0 : Int))) (fun u1_13 => ?_) (fun u1_13 => ?_)
      · have u1_13p := of_decide_eq_true u1_13
        refine wl_guardF rfl rfl rfl u1_13 ?_
        refine wl_guardF rfl rfl rfl u1_13 ?_
        refine wl_guardF rfl rfl rfl u1_13 ?_
        refine wl_valE (v := .bool true) rfl (rf_pickT rfl rfl rfl u1_13) rfl ?_
        refine wl_valE (v := .bool true) rfl (rf_move rfl) rfl ?_
        refine wl_guardF rfl rfl rfl rfl ?_
        refine wl_guardF rfl rfl rfl rfl ?_
        refine wl_guardF rfl rfl rfl rfl ?_
        refine wl_valE (v := .bool true) rfl (rf_pickT rfl rfl rfl rfl) rfl ?_
        refine wl_valE (v := .bool true) rfl (rf_move rfl) rfl ?_
        refine wl_guardF rfl rfl rfl rfl ?_
        refine wl_guardF rfl rfl rfl rfl ?_
        refine wl_guardF rfl rfl rfl rfl ?_
        refine wl_valE (v := .bool true) rfl (rf_pickT rfl rfl rfl rfl) rfl ?_
        refine wl_nil ?_
        refine thn ?_
        refine condT rfl rfl ?_
        refine seq_ ?_
        refine region_ ?_
        refine wl_valE (v := .bool false) rfl (rf_assign rfl) rfl ?_
        refine wl_nil ?_
        refine thn ?_
        refine ret_ ?_
        refine thr ?_
        refine fin1 (v := .bool false) Try.results35 rfl rfl ?_
        exact ⟨_, ⟨congrArg Value.bool (by first | exact (decide_eq_false (by unfold sizeP; omega)).symm | exact (decide_eq_true (by unfold sizeP; omega)).symm | exact decide_eq_decide.2 (by unfold sizeP; omega)), rfl⟩, H2.pick' [] rfl rfl⟩
      · have u1_13p := of_decide_eq_false u1_13
        refine wl_guardT rfl rfl rfl u1_13 ?_
        refine wl_valE (v := .pointer (some ⟨b1, 1, none⟩)) rfl (rf_fieldAddr Try.underlying32 rfl ti3 rfl rfl) rfl ?_
        refine wl_guardT rfl rfl rfl u1_13 ?_
        refine wl_valE (v := .int .i64 p.reads) rfl (rf_load Try.underlying3 rfl rfl rfl ((H2.blk 0 rfl).cell rfl)) rfl ?_
        refine wl_guardT rfl rfl rfl u1_13 ?_
        refine wl_valE (v := .bool (decide ((16 : Int) < p.reads))) rfl (rf_gtr rfl rfl rfl rfl) rfl ?_
        refine wl_valE (v := .bool (decide ((16 : Int) < p.reads))) rfl (rf_pickF rfl rfl rfl u1_13) rfl ?_
        refine wl_valE (v := .bool (decide ((16 : Int) < p.reads))) rfl (rf_move rfl) rfl ?_
        refine wl_split (decide ((16 : Int) < p.reads)) (fun u1_18 => ?_) (fun u1_18 => ?_)
        · have u1_18p := of_decide_eq_true u1_18
          refine wl_guardF rfl rfl rfl u1_18 ?_
          refine wl_guardF rfl rfl rfl u1_18 ?_
          refine wl_guardF rfl rfl rfl u1_18 ?_
          refine wl_valE (v := .bool true) rfl (rf_pickT rfl rfl rfl u1_18) rfl ?_
          refine wl_valE (v := .bool true) rfl (rf_move rfl) rfl ?_
          refine wl_guardF rfl rfl rfl rfl ?_
          refine wl_guardF rfl rfl rfl rfl ?_
          refine wl_guardF rfl rfl rfl rfl ?_
          refine wl_valE (v := .bool true) rfl (rf_pickT rfl rfl rfl rfl) rfl ?_
          refine wl_nil ?_
          refine thn ?_
          refine condT rfl rfl ?_
          refine seq_ ?_
          refine region_ ?_
          refine wl_valE (v := .bool false) rfl (rf_assign rfl) rfl ?_
          refine wl_nil ?_
          refine thn ?_
          refine ret_ ?_
          refine thr ?_
          refine fin1 (v := .bool false) Try.results35 rfl rfl ?_
          exact ⟨_, ⟨congrArg Value.bool (by first | exact (decide_eq_false (by unfold sizeP; omega)).symm | exact (decide_eq_true (by unfold sizeP; omega)).symm | exact decide_eq_decide.2 (by unfold sizeP; omega)), rfl⟩, H2.pick' [] rfl rfl⟩
        · have u1_18p := of_decide_eq_false u1_18
          refine wl_guardT rfl rfl rfl u1_18 ?_
          refine wl_valE (v := .pointer (some ⟨b1, 2, none⟩)) rfl (rf_fieldAddr Try.underlying32 rfl ti3 rfl rfl) rfl ?_
          refine wl_guardT rfl rfl rfl u1_18 ?_
          refine wl_valE (v := .int .i64 p.writes) rfl (rf_load Try.underlying3 rfl rfl rfl ((H2.blk 0 rfl).cell rfl)) rfl ?_
          refine wl_guardT rfl rfl rfl u1_18 ?_
          refine wl_valE (v := .bool (decide (p.writes < (0 : Int)))) rfl (rf_lss rfl rfl rfl rfl) rfl ?_
          refine wl_valE (v := .bool (decide (p.writes < (0 : Int)))) rfl (rf_pickF rfl rfl rfl u1_18) rfl ?_
          refine wl_valE (v := .bool (decide (p.writes < (0 : Int)))) rfl (rf_move rfl) rfl ?_
          refine wl_split (decide (p.writes < (0 : Int))) (fun u1_23 => ?_) (fun u1_23 => ?_)
          · have u1_23p := of_decide_eq_true u1_23
            refine wl_guardF rfl rfl rfl u1_23 ?_
            refine wl_guardF rfl rfl rfl u1_23 ?_
            refine wl_guardF rfl rfl rfl u1_23 ?_
            refine wl_valE (v := .bool true) rfl (rf_pickT rfl rfl rfl u1_23) rfl ?_
            refine wl_nil ?_
            refine thn ?_
            refine condT rfl rfl ?_
            refine seq_ ?_
            refine region_ ?_
            refine wl_valE (v := .bool false) rfl (rf_assign rfl) rfl ?_
            refine wl_nil ?_
            refine thn ?_
            refine ret_ ?_
            refine thr ?_
            refine fin1 (v := .bool false) Try.results35 rfl rfl ?_
            exact ⟨_, ⟨congrArg Value.bool (by first | exact (decide_eq_false (by unfold sizeP; omega)).symm | exact (decide_eq_true (by unfold sizeP; omega)).symm | exact decide_eq_decide.2 (by unfold sizeP; omega)), rfl⟩, H2.pick' [] rfl rfl⟩
          · have u1_23p := of_decide_eq_false u1_23
            refine wl_guardT rfl rfl rfl u1_23 ?_
            refine wl_valE (v := .pointer (some ⟨b1, 2, none⟩)) rfl (rf_fieldAddr Try.underlying32 rfl ti3 rfl rfl) rfl ?_
            refine wl_guardT rfl rfl rfl u1_23 ?_
            refine wl_valE (v := .int .i64 p.writes) rfl (rf_load Try.underlying3 rfl rfl rfl ((H2.blk 0 rfl).cell rfl)) rfl ?_
            refine wl_guardT rfl rfl rfl u1_23 ?_
            refine wl_valE (v := .bool (decide ((16 : Int) < p.writes))) rfl (rf_gtr rfl rfl rfl rfl) rfl ?_
            refine wl_valE (v := .bool (decide ((16 : Int) < p.writes))) rfl (rf_pickF rfl rfl rfl u1_23) rfl ?_
            refine wl_nil ?_
            refine thn ?_
            refine cond_ (t := decide ((16 : Int) < p.writes)) rfl rfl (fun c30 => ?_) (fun c30 => ?_)
            · have c30p := of_decide_eq_true c30
              refine seq_ ?_
              refine region_ ?_
              refine wl_valE (v := .bool false) rfl (rf_assign rfl) rfl ?_
              refine wl_nil ?_
              refine thn ?_
              refine ret_ ?_
              refine thr ?_
              refine fin1 (v := .bool false) Try.results35 rfl rfl ?_
              exact ⟨_, ⟨congrArg Value.bool (by first | exact (decide_eq_false (by unfold sizeP; omega)).symm | exact (decide_eq_true (by unfold sizeP; omega)).symm | exact decide_eq_decide.2 (by unfold sizeP; omega)), rfl⟩, H2.pick' [] rfl rfl⟩
            · have c30p := of_decide_eq_false c30
              refine skip_ ?_
              refine thn ?_
              refine seq_ ?_
              refine region_ ?_
              refine wl_valE (v := .pointer (some ⟨b1, 3, none⟩)) rfl (rf_fieldAddr Try.underlying32 rfl ti3 rfl rfl) rfl ?_
              refine wl_valE (v := .int .i64 p.locals) rfl (rf_load Try.underlying3 rfl rfl rfl ((H2.blk 0 rfl).cell rfl)) rfl ?_
              refine wl_valE (v := .bool (decide ((0 : Int) ≤ p.locals))) rfl (rf_geq rfl rfl rfl rfl) rfl ?_
              refine wl_valE (v := .bool (decide ((0 : Int) ≤ p.locals))) rfl (rf_move rfl) rfl ?_
              refine wl_split (decide ((0 : Int) ≤ p.locals)) (fun u3_3 => ?_) (fun u3_3 => ?_)
              · have u3_3p := of_decide_eq_true u3_3
                refine wl_guardT rfl rfl rfl u3_3 ?_
                refine wl_valE (v := .pointer (some ⟨b1, 3, none⟩)) rfl (rf_fieldAddr Try.underlying32 rfl ti3 rfl rfl) rfl ?_
                refine wl_guardT rfl rfl rfl u3_3 ?_
                refine wl_valE (v := .int .i64 p.locals) rfl (rf_load Try.underlying3 rfl rfl rfl ((H2.blk 0 rfl).cell rfl)) rfl ?_
                refine wl_guardT rfl rfl rfl u3_3 ?_
                refine wl_valE (v := .bool (decide (p.locals ≤ (16 : Int)))) rfl (rf_leq rfl rfl rfl rfl) rfl ?_
                refine wl_valE (v := .bool (decide (p.locals ≤ (16 : Int)))) rfl (rf_pickT rfl rfl rfl u3_3) rfl ?_
                refine wl_valE (v := .bool (decide (p.locals ≤ (16 : Int)))) rfl (rf_move rfl) rfl ?_
                refine wl_split (decide (p.locals ≤ (16 : Int))) (fun u3_8 => ?_) (fun u3_8 => ?_)
                · have u3_8p := of_decide_eq_true u3_8
                  refine wl_guardT rfl rfl rfl u3_8 ?_
                  refine wl_valE (v := .pointer (some ⟨b1, 4, none⟩)) rfl (rf_fieldAddr Try.underlying32 rfl ti30 rfl rfl) rfl ?_
                  refine wl_guardT rfl rfl rfl u3_8 ?_
                  refine wl_valE (v := .slice p.code.a p.code.n p.code.c) rfl (rf_load Try.underlying30 rfl rfl rfl ((H2.blk 0 rfl).cell rfl)) rfl ?_
                  refine wl_guardT rfl rfl rfl u3_8 ?_
                  refine wl_valE (v := .int .i64 ((p.code.n : Nat) : Int)) rfl (rf_len_slice Try.underlying30 rfl rfl) rfl ?_
                  refine wl_guardT rfl rfl rfl u3_8 ?_
                  refine wl_valE (v := .bool (decide (((p.code.n : Nat) : Int) ≤ (256 : Int)))) rfl (rf_leq rfl rfl rfl rfl) rfl ?_
                  refine wl_valE (v := .bool (decide (((p.code.n : Nat) : Int) ≤ (256 : Int)))) rfl (rf_pickT rfl rfl rfl u3_8) rfl ?_
                  refine wl_valE (v := .bool (decide (((p.code.n : Nat) : Int) ≤ (256 : Int)))) rfl (rf_assign rfl) rfl ?_
                  refine wl_nil ?_
                  refine thn ?_
                  refine ret_ ?_
                  refine fin1 (v := .bool (decide (((p.code.n : Nat) : Int) ≤ (256 : Int)))) Try.results35 rfl rfl ?_
                  exact ⟨_, ⟨congrArg Value.bool (by first | exact (decide_eq_false (by unfold sizeP; omega)).symm | exact (decide_eq_true (by unfold sizeP; omega)).symm | exact decide_eq_decide.2 (by unfold sizeP; omega)), rfl⟩, H2.pick' [] rfl rfl⟩
                · have u3_8p := of_decide_eq_false u3_8
                  refine wl_guardF rfl rfl rfl u3_8 ?_
                  refine wl_guardF rfl rfl rfl u3_8 ?_
                  refine wl_guardF rfl rfl rfl u3_8 ?_
                  refine wl_guardF rfl rfl rfl u3_8 ?_
                  refine wl_valE (v := .bool false) rfl (rf_pickF rfl rfl rfl u3_8) rfl ?_
                  refine wl_valE (v := .bool false) rfl (rf_assign rfl) rfl ?_
                  refine wl_nil ?_
                  refine thn ?_
                  refine ret_ ?_
                  refine fin1 (v := .bool false) Try.results35 rfl rfl ?_
                  exact ⟨_, ⟨congrArg Value.bool (by first | exact (decide_eq_false (by unfold sizeP; omega)).symm | exact (decide_eq_true (by unfold sizeP; omega)).symm | exact decide_eq_decide.2 (by unfold sizeP; omega)), rfl⟩, H2.pick' [] rfl rfl⟩
              · have u3_3p := of_decide_eq_false u3_3
                refine wl_guardF rfl rfl rfl u3_3 ?_
                refine wl_guardF rfl rfl rfl u3_3 ?_
                refine wl_guardF rfl rfl rfl u3_3 ?_
                refine wl_valE (v := .bool false) rfl (rf_pickF rfl rfl rfl u3_3) rfl ?_
                refine wl_valE (v := .bool false) rfl (rf_move rfl) rfl ?_
                refine wl_guardF rfl rfl rfl rfl ?_
                refine wl_guardF rfl rfl rfl rfl ?_
                refine wl_guardF rfl rfl rfl rfl ?_
                refine wl_guardF rfl rfl rfl rfl ?_
                refine wl_valE (v := .bool false) rfl (rf_pickF rfl rfl rfl rfl) rfl ?_
                refine wl_valE (v := .bool false) rfl (rf_assign rfl) rfl ?_
                refine wl_nil ?_
                refine thn ?_
                refine ret_ ?_
                refine fin1 (v := .bool false) Try.results35 rfl rfl ?_
                exact ⟨_, ⟨congrArg Value.bool (by first | exact (decide_eq_false (by unfold sizeP; omega)).symm | exact (decide_eq_true (by unfold sizeP; omega)).symm | exact decide_eq_decide.2 (by unfold sizeP; omega)), rfl⟩, H2.pick' [] rfl rfl⟩
theorem is_tr (op : Int) (h : 0 ≤ op ∧ op < 37) : Tr Try.prog 36 [.int .i64 op, .string (ByteArray.mk #[106, 117, 109, 112]), .string (ByteArray.mk #[122, 101, 114, 111]), .string (ByteArray.mk #[]), .string (ByteArray.mk #[])] [] [] (fun v m => v = .bool (decide (op = 30 ∨ op = 31)) ∧ m = []) := by
  intro w0 S0 H0
  refine enterR Try.func36 rfl Try.ntmps36 rfl ?_
  intro g0
  refine seq_ ?_
  refine region_ ?_
  refine wl_valE (v := .bool false) rfl (rf_assign rfl) rfl ?_
  refine wl_nil ?_
  refine thn ?_
  refine seq_ ?_
  refine region_ ?_
  refine wl_valE (v := .int .i64 op) rfl (rf_move rfl) rfl ?_
  refine wl_tr H0 rfl [] (spell_tr op h) rfl .nil (rf_call Try.call40 rfl rfl) rfl ?_
  rintro _ w1 _ ⟨rfl, rfl⟩ H1
  refine wl_valE (v := .string (spl op)) rfl (rf_assign rfl) rfl ?_
  refine wl_nil ?_
  refine thn ?_
  refine seq_ ?_
  refine region_ ?_
  refine wl_valE (v := .string (spl op)) rfl (rf_move rfl) rfl ?_
  refine wl_valE (v := .bool true) rfl (rf_neqStr rfl rfl rfl rfl) (congrArg Value.bool (decide_eq_true (spl_ne h))) ?_
  refine wl_valE (v := .bool true) rfl (rf_move rfl) rfl ?_
  refine wl_guardT rfl rfl rfl rfl ?_
  refine wl_valE (v := .string (spl op)) rfl (rf_move rfl) rfl ?_
  refine wl_guardT rfl rfl rfl rfl ?_
  refine wl_valE (v := .string (ByteArray.mk #[106, 117, 109, 112])) rfl (rf_move rfl) rfl ?_
  refine wl_guardT rfl rfl rfl rfl ?_
  refine wl_valE (v := .bool (decide (op = 30))) rfl (rf_eqlStr rfl rfl rfl rfl) (congrArg Value.bool (decide_eq_decide.2 (spl_eq h (k := 30) rfl))) ?_
  refine wl_guardT rfl rfl rfl rfl ?_
  refine wl_valE (v := .bool (decide (op = 30))) rfl (rf_move rfl) rfl ?_
  refine wl_split (decide (op = 30)) (fun u2_6 => ?_) (fun u2_6 => ?_)
  · have u2_6p := of_decide_eq_true u2_6
    refine wl_guardF rfl rfl rfl u2_6 ?_
    refine wl_guardF rfl rfl rfl u2_6 ?_
    refine wl_guardF rfl rfl rfl u2_6 ?_
    refine wl_guardT rfl rfl rfl rfl ?_
    refine wl_valE (v := .bool true) rfl (rf_pickT rfl rfl rfl u2_6) rfl ?_
    refine wl_guardT rfl rfl rfl rfl ?_
    refine wl_valE (v := .bool true) rfl (rf_move rfl) rfl ?_
    refine wl_guardF rfl rfl rfl rfl ?_
    refine wl_guardF rfl rfl rfl rfl ?_
    refine wl_guardF rfl rfl rfl rfl ?_
    refine wl_guardT rfl rfl rfl rfl ?_
    refine wl_valE (v := .bool true) rfl (rf_pickT rfl rfl rfl rfl) rfl ?_
    refine wl_guardT rfl rfl rfl rfl ?_
    refine wl_valE (v := .bool true) rfl (rf_move rfl) rfl ?_
    refine wl_guardF rfl rfl rfl rfl ?_
    refine wl_guardF rfl rfl rfl rfl ?_
    refine wl_guardF rfl rfl rfl rfl ?_
    refine wl_guardT rfl rfl rfl rfl ?_
    refine wl_valE (v := .bool true) rfl (rf_pickT rfl rfl rfl rfl) rfl ?_
    refine wl_valE (v := .bool true) rfl (rf_pickT rfl rfl rfl rfl) rfl ?_
    refine wl_valE (v := .bool true) rfl (rf_assign rfl) rfl ?_
    refine wl_nil ?_
    refine thn ?_
    refine ret_ ?_
    refine fin1 (v := .bool true) Try.results36 rfl rfl ?_
    exact ⟨_, ⟨congrArg Value.bool (by first | exact (decide_eq_false (by omega)).symm | exact (decide_eq_true (by omega)).symm | exact decide_eq_decide.2 (by omega)), rfl⟩, H1.pick' [] rfl rfl⟩
  · have u2_6p := of_decide_eq_false u2_6
    refine wl_guardT rfl rfl rfl u2_6 ?_
    refine wl_valE (v := .string (spl op)) rfl (rf_move rfl) rfl ?_
    refine wl_guardT rfl rfl rfl u2_6 ?_
    refine wl_valE (v := .string (ByteArray.mk #[122, 101, 114, 111])) rfl (rf_move rfl) rfl ?_
    refine wl_guardT rfl rfl rfl u2_6 ?_
    refine wl_valE (v := .bool (decide (op = 31))) rfl (rf_eqlStr rfl rfl rfl rfl) (congrArg Value.bool (decide_eq_decide.2 (spl_eq h (k := 31) rfl))) ?_
    refine wl_guardT rfl rfl rfl rfl ?_
    refine wl_valE (v := .bool (decide (op = 31))) rfl (rf_pickF rfl rfl rfl u2_6) rfl ?_
    refine wl_guardT rfl rfl rfl rfl ?_
    refine wl_valE (v := .bool (decide (op = 31))) rfl (rf_move rfl) rfl ?_
    refine wl_split (decide (op = 31)) (fun u2_11 => ?_) (fun u2_11 => ?_)
    · have u2_11p := of_decide_eq_true u2_11
      refine wl_guardF rfl rfl rfl u2_11 ?_
      refine wl_guardF rfl rfl rfl u2_11 ?_
      refine wl_guardF rfl rfl rfl u2_11 ?_
      refine wl_guardT rfl rfl rfl rfl ?_
      refine wl_valE (v := .bool true) rfl (rf_pickT rfl rfl rfl u2_11) rfl ?_
      refine wl_guardT rfl rfl rfl rfl ?_
      refine wl_valE (v := .bool true) rfl (rf_move rfl) rfl ?_
      refine wl_guardF rfl rfl rfl rfl ?_
      refine wl_guardF rfl rfl rfl rfl ?_
      refine wl_guardF rfl rfl rfl rfl ?_
      refine wl_guardT rfl rfl rfl rfl ?_
      refine wl_valE (v := .bool true) rfl (rf_pickT rfl rfl rfl rfl) rfl ?_
      refine wl_valE (v := .bool true) rfl (rf_pickT rfl rfl rfl rfl) rfl ?_
      refine wl_valE (v := .bool true) rfl (rf_assign rfl) rfl ?_
      refine wl_nil ?_
      refine thn ?_
      refine ret_ ?_
      refine fin1 (v := .bool true) Try.results36 rfl rfl ?_
      exact ⟨_, ⟨congrArg Value.bool (by first | exact (decide_eq_false (by omega)).symm | exact (decide_eq_true (by omega)).symm | exact decide_eq_decide.2 (by omega)), rfl⟩, H1.pick' [] rfl rfl⟩
    · have u2_11p := of_decide_eq_false u2_11
      refine wl_guardT rfl rfl rfl u2_11 ?_
      refine wl_valE (v := .string (spl op)) rfl (rf_move rfl) rfl ?_
      refine wl_guardT rfl rfl rfl u2_11 ?_
      refine wl_valE (v := .string (ByteArray.mk #[])) rfl (rf_move rfl) rfl ?_
      refine wl_guardT rfl rfl rfl u2_11 ?_
      refine wl_valE (v := .bool false) rfl (rf_eqlStr rfl rfl rfl rfl) (congrArg Value.bool (decide_eq_false (spl_ne h))) ?_
      refine wl_guardT rfl rfl rfl rfl ?_
      refine wl_valE (v := .bool false) rfl (rf_pickF rfl rfl rfl u2_11) rfl ?_
      refine wl_guardT rfl rfl rfl rfl ?_
      refine wl_valE (v := .bool false) rfl (rf_move rfl) rfl ?_
      refine wl_guardT rfl rfl rfl rfl ?_
      refine wl_valE (v := .string (spl op)) rfl (rf_move rfl) rfl ?_
      refine wl_guardT rfl rfl rfl rfl ?_
      refine wl_valE (v := .string (ByteArray.mk #[])) rfl (rf_move rfl) rfl ?_
      refine wl_guardT rfl rfl rfl rfl ?_
      refine wl_valE (v := .bool false) rfl (rf_eqlStr rfl rfl rfl rfl) (congrArg Value.bool (decide_eq_false (spl_ne h))) ?_
      refine wl_guardT rfl rfl rfl rfl ?_
      refine wl_valE (v := .bool false) rfl (rf_pickF rfl rfl rfl rfl) rfl ?_
      refine wl_valE (v := .bool false) rfl (rf_pickT rfl rfl rfl rfl) rfl ?_
      refine wl_valE (v := .bool false) rfl (rf_assign rfl) rfl ?_
      refine wl_nil ?_
      refine thn ?_
      refine ret_ ?_
      refine fin1 (v := .bool false) Try.results36 rfl rfl ?_
      exact ⟨_, ⟨congrArg Value.bool (by first | exact (decide_eq_false (by omega)).symm | exact (decide_eq_true (by omega)).symm | exact decide_eq_decide.2 (by omega)), rfl⟩, H1.pick' [] rfl rfl⟩
theorem argumentL_tr (p : ProgR) (i : Nat) (x : InsR) (hx : p.cl[i]? = some x) (hs : sizeP p) : Tr Try.prog 32 [.agg #[.int .i64 p.args, .int .i64 p.reads, .int .i64 p.writes, .int .i64 p.locals, .slice p.code.a p.code.n p.code.c], .int .i64 ((i : Nat) : Int)] [rdH encIns 2 p.code.a p.code.n p.code.c p.cl] [] (fun v m => v = .int .i64 (argE p ((i : Nat) : Int) x) ∧ m = []) := by
  intro w0 S0 H0
  have hl := (rd_len (H0.rdR 0 Le.rfl)).1
  have hil := (List.getElem?_eq_some_iff.1 hx).1
  unfold sizeP at hs
  refine enterR Try.func32 rfl Try.ntmps32 rfl ?_
  intro g0
  refine seq_ ?_
  refine region_ ?_
  refine wl_boxH H0 (v := .agg #[.int .i64 p.args, .int .i64 p.reads, .int .i64 p.writes, .int .i64 p.locals, .slice p.code.a p.code.n p.code.c]) rfl rfl ?_
  intro b1 w2 H2
  refine wl_valE (v := .int .i64 (0 : Int)) rfl (rf_assign rfl) rfl ?_
  refine wl_nil ?_
  refine thn ?_
  refine seq_ ?_
  refine region_ ?_
  refine wl_valE (v := .pointer (some ⟨b1, 4, none⟩)) rfl (rf_fieldAddr Try.underlying32 rfl ti30 rfl rfl) rfl ?_
  refine wl_valE (v := .slice p.code.a p.code.n p.code.c) rfl (rf_load Try.underlying30 rfl rfl rfl ((H2.blk 0 rfl).cell rfl)) rfl ?_
  refine wl_valE (v := .int .i64 ((i : Nat) : Int)) rfl (rf_move rfl) rfl ?_
  refine wl_valE (v := .pointer (some ⟨ab p.code.a, ao p.code.a + i * 2, none⟩)) rfl (rf_indexAddrH Try.underlying30 ti87 rfl rfl rfl rfl (by omega) (by omega) (H2.rdR 0 Le.rfl)) rfl ?_
  refine wl_valE (v := .agg #[.int .i64 x.op, .int .i64 x.a]) rfl (rf_loadAgg (cs := [.int .i64 x.op, .int .i64 x.a]) Try.underlying87 rfl ti87 rfl rfl (el_sub' (rd_el (H2.rdR 0 Le.rfl) hx) 0 2 rfl) rfl) rfl ?_
  refine wl_allocH H2 ti87 ?_
  intro b3 w4 H4
  refine wl_storeAggH H4 1 (o := 0) (cs := [.int .i64 x.op, .int .i64 x.a]) (A' := #[.int .i64 x.op, .int .i64 x.a]) rfl rfl ti87 rfl rfl rfl rfl rfl oneAll (leb rfl) rfl ?_
  intro w5 H5
  refine wl_nil ?_
  refine thn ?_
  refine seq_ ?_
  refine region_ ?_
  refine wl_valE (v := .int .i64 (0 : Int)) rfl (rf_assign rfl) rfl ?_
  refine wl_nil ?_
  refine thn ?_
  refine seq_ ?_
  refine seq_ ?_
  refine region_ ?_
  refine wl_valE (v := .pointer (some ⟨b3, 0, none⟩)) rfl (rf_fieldAddr Try.underlying87 rfl ti3 rfl rfl) rfl ?_
  refine wl_valE (v := .int .i64 x.op) rfl (rf_load Try.underlying3 rfl rfl rfl ((H5.blk 1 rfl).cell rfl)) rfl ?_
  refine wl_nil ?_
  refine thn ?_
  refine block_ ?_
  refine seq_ ?_
  refine region_ ?_
  refine wl_valE (v := .bool (decide (x.op = (1 : Int)))) rfl (rf_eql rfl rfl rfl rfl) rfl ?_
  refine wl_valE (v := .bool (decide (x.op = (1 : Int)))) rfl (rf_assign rfl) rfl ?_
  refine wl_nil ?_
  refine thn ?_
  refine cond_ (t := decide (x.op = (1 : Int))) rfl rfl (fun c14 => ?_) (fun c14 => ?_)
  · have c14p := of_decide_eq_true c14
    refine seq_ ?_
    refine region_ ?_
    refine wl_valE (v := .int .i64 (0 : Int)) rfl (rf_assign rfl) rfl ?_
    refine wl_nil ?_
    refine thn ?_
    refine ret_ ?_
    refine blr (thr ?_)
    refine fin1 (v := .int .i64 (0 : Int)) Try.results32 rfl rfl ?_
    exact ⟨_, ⟨congrArg (Value.int .i64) (by unfold argE mostF; omega), rfl⟩, H5.pick' [] rfl rfl⟩
  · have c14p := of_decide_eq_false c14
    refine seq_ ?_
    refine seq_ ?_
    refine region_ ?_
    refine wl_valE (v := .bool (decide (x.op = (30 : Int)))) rfl (rf_eql rfl rfl rfl rfl) rfl ?_
    refine wl_valE (v := .bool (decide (x.op = (30 : Int)))) rfl (rf_assign rfl) rfl ?_
    refine wl_nil ?_
    refine thn ?_
    refine cond_ (t := decide (x.op = (30 : Int))) rfl rfl (fun c16 => ?_) (fun c16 => ?_)
    · have c16p := of_decide_eq_true c16
      refine skip_ ?_
      refine thn ?_
      refine condT' rfl rfl (t := decide (x.op = (30 : Int))) (c16) ?_
      refine seq_ ?_
      refine seq_ ?_
      refine region_ ?_
      refine wl_valE (v := .pointer (some ⟨b3, 1, none⟩)) rfl (rf_fieldAddr Try.underlying87 rfl ti2 rfl rfl) rfl ?_
      refine wl_valE (v := .int .i64 x.a) rfl (rf_load Try.underlying2 rfl rfl rfl ((H5.blk 1 rfl).cell rfl)) rfl ?_
      refine wl_valE (v := .int .i64 ((i : Nat) : Int)) rfl (rf_move rfl) rfl ?_
      refine wl_valE (v := .bool (decide (x.a ≤ ((i : Nat) : Int)))) rfl (rf_leq rfl rfl rfl rfl) rfl ?_
      refine wl_valE (v := .bool (decide (x.a ≤ ((i : Nat) : Int)))) rfl (rf_move rfl) rfl ?_
      refine wl_split (decide (x.a ≤ ((i : Nat) : Int))) (fun u8_4 => ?_) (fun u8_4 => ?_)
      · have u8_4p := of_decide_eq_true u8_4
        refine wl_guardF rfl rfl rfl u8_4 ?_
        refine wl_guardF rfl rfl rfl u8_4 ?_
        refine wl_guardF rfl rfl rfl u8_4 ?_
        refine wl_guardF rfl rfl rfl u8_4 ?_
        refine wl_guardF rfl rfl rfl u8_4 ?_
        refine wl_guardF rfl rfl rfl u8_4 ?_
        refine wl_valE (v := .bool true) rfl (rf_pickT rfl rfl rfl u8_4) rfl ?_
        refine wl_nil ?_
        refine thn ?_
        refine condT rfl rfl ?_
        refine seq_ ?_
        refine region_ ?_
        refine wl_valE (v := .int .i64 (33 : Int)) rfl (rf_assign rfl) rfl ?_
        refine wl_nil ?_
        refine thn ?_
        refine ret_ ?_
        refine thr (blr (thr ?_))
        refine fin1 (v := .int .i64 (33 : Int)) Try.results32 rfl rfl ?_
        exact ⟨_, ⟨congrArg (Value.int .i64) (by unfold argE mostF; omega), rfl⟩, H5.pick' [] rfl rfl⟩
      · have u8_4p := of_decide_eq_false u8_4
        refine wl_guardT rfl rfl rfl u8_4 ?_
        refine wl_valE (v := .pointer (some ⟨b3, 1, none⟩)) rfl (rf_fieldAddr Try.underlying87 rfl ti2 rfl rfl) rfl ?_
        refine wl_guardT rfl rfl rfl u8_4 ?_
        refine wl_valE (v := .int .i64 x.a) rfl (rf_load Try.underlying2 rfl rfl rfl ((H5.blk 1 rfl).cell rfl)) rfl ?_
        refine wl_guardT rfl rfl rfl u8_4 ?_
        refine wl_valE (v := .pointer (some ⟨b1, 4, none⟩)) rfl (rf_fieldAddr Try.underlying32 rfl ti30 rfl rfl) rfl ?_
        refine wl_guardT rfl rfl rfl u8_4 ?_
        refine wl_valE (v := .slice p.code.a p.code.n p.code.c) rfl (rf_load Try.underlying30 rfl rfl rfl ((H5.blk 0 rfl).cell rfl)) rfl ?_
        refine wl_guardT rfl rfl rfl u8_4 ?_
        refine wl_valE (v := .int .i64 ((p.code.n : Nat) : Int)) rfl (rf_len_slice Try.underlying30 rfl rfl) rfl ?_
        refine wl_guardT rfl rfl rfl u8_4 ?_
        refine wl_valE (v := .bool (decide (((p.code.n : Nat) : Int) < x.a))) rfl (rf_gtr rfl rfl rfl rfl) rfl ?_
        refine wl_valE (v := .bool (decide (((p.code.n : Nat) : Int) < x.a))) rfl (rf_pickF rfl rfl rfl u8_4) rfl ?_
        refine wl_nil ?_
        refine thn ?_
        refine cond_ (t := decide (((p.code.n : Nat) : Int) < x.a)) rfl rfl (fun c30 => ?_) (fun c30 => ?_)
        · have c30p := of_decide_eq_true c30
          refine seq_ ?_
          refine region_ ?_
          refine wl_valE (v := .int .i64 (33 : Int)) rfl (rf_assign rfl) rfl ?_
          refine wl_nil ?_
          refine thn ?_
          refine ret_ ?_
          refine thr (blr (thr ?_))
          refine fin1 (v := .int .i64 (33 : Int)) Try.results32 rfl rfl ?_
          exact ⟨_, ⟨congrArg (Value.int .i64) (by unfold argE mostF; omega), rfl⟩, H5.pick' [] rfl rfl⟩
        · have c30p := of_decide_eq_false c30
          refine skip_ ?_
          refine thn ?_
          refine seq_ ?_
          refine region_ ?_
          refine wl_valE (v := .int .i64 (0 : Int)) rfl (rf_assign rfl) rfl ?_
          refine wl_nil ?_
          refine thn ?_
          refine ret_ ?_
          refine blr (thr ?_)
          refine fin1 (v := .int .i64 (0 : Int)) Try.results32 rfl rfl ?_
          exact ⟨_, ⟨congrArg (Value.int .i64) (by unfold argE mostF; omega), rfl⟩, H5.pick' [] rfl rfl⟩
    · have c16p := of_decide_eq_false c16
      refine region_ ?_
      refine wl_valE (v := .bool (decide (x.op = (31 : Int)))) rfl (rf_eql rfl rfl rfl rfl) rfl ?_
      refine wl_valE (v := .bool (decide (x.op = (31 : Int)))) rfl (rf_assign rfl) rfl ?_
      refine wl_nil ?_
      refine thn ?_
      refine cond_ (t := decide (x.op = (31 : Int))) rfl rfl (fun c16 => ?_) (fun c16 => ?_)
      · have c16p := of_decide_eq_true c16
        refine seq_ ?_
        refine seq_ ?_
        refine region_ ?_
        refine wl_valE (v := .pointer (some ⟨b3, 1, none⟩)) rfl (rf_fieldAddr Try.underlying87 rfl ti2 rfl rfl) rfl ?_
        refine wl_valE (v := .int .i64 x.a) rfl (rf_load Try.underlying2 rfl rfl rfl ((H5.blk 1 rfl).cell rfl)) rfl ?_
        refine wl_valE (v := .int .i64 ((i : Nat) : Int)) rfl (rf_move rfl) rfl ?_
        refine wl_valE (v := .bool (decide (x.a ≤ ((i : Nat) : Int)))) rfl (rf_leq rfl rfl rfl rfl) rfl ?_
        refine wl_valE (v := .bool (decide (x.a ≤ ((i : Nat) : Int)))) rfl (rf_move rfl) rfl ?_
        refine wl_split (decide (x.a ≤ ((i : Nat) : Int))) (fun u8_4 => ?_) (fun u8_4 => ?_)
        · have u8_4p := of_decide_eq_true u8_4
          refine wl_guardF rfl rfl rfl u8_4 ?_
          refine wl_guardF rfl rfl rfl u8_4 ?_
          refine wl_guardF rfl rfl rfl u8_4 ?_
          refine wl_guardF rfl rfl rfl u8_4 ?_
          refine wl_guardF rfl rfl rfl u8_4 ?_
          refine wl_guardF rfl rfl rfl u8_4 ?_
          refine wl_valE (v := .bool true) rfl (rf_pickT rfl rfl rfl u8_4) rfl ?_
          refine wl_nil ?_
          refine thn ?_
          refine condT rfl rfl ?_
          refine seq_ ?_
          refine region_ ?_
          refine wl_valE (v := .int .i64 (33 : Int)) rfl (rf_assign rfl) rfl ?_
          refine wl_nil ?_
          refine thn ?_
          refine ret_ ?_
          refine thr (blr (thr ?_))
          refine fin1 (v := .int .i64 (33 : Int)) Try.results32 rfl rfl ?_
          exact ⟨_, ⟨congrArg (Value.int .i64) (by unfold argE mostF; omega), rfl⟩, H5.pick' [] rfl rfl⟩
        · have u8_4p := of_decide_eq_false u8_4
          refine wl_guardT rfl rfl rfl u8_4 ?_
          refine wl_valE (v := .pointer (some ⟨b3, 1, none⟩)) rfl (rf_fieldAddr Try.underlying87 rfl ti2 rfl rfl) rfl ?_
          refine wl_guardT rfl rfl rfl u8_4 ?_
          refine wl_valE (v := .int .i64 x.a) rfl (rf_load Try.underlying2 rfl rfl rfl ((H5.blk 1 rfl).cell rfl)) rfl ?_
          refine wl_guardT rfl rfl rfl u8_4 ?_
          refine wl_valE (v := .pointer (some ⟨b1, 4, none⟩)) rfl (rf_fieldAddr Try.underlying32 rfl ti30 rfl rfl) rfl ?_
          refine wl_guardT rfl rfl rfl u8_4 ?_
          refine wl_valE (v := .slice p.code.a p.code.n p.code.c) rfl (rf_load Try.underlying30 rfl rfl rfl ((H5.blk 0 rfl).cell rfl)) rfl ?_
          refine wl_guardT rfl rfl rfl u8_4 ?_
          refine wl_valE (v := .int .i64 ((p.code.n : Nat) : Int)) rfl (rf_len_slice Try.underlying30 rfl rfl) rfl ?_
          refine wl_guardT rfl rfl rfl u8_4 ?_
          refine wl_valE (v := .bool (decide (((p.code.n : Nat) : Int) < x.a))) rfl (rf_gtr rfl rfl rfl rfl) rfl ?_
          refine wl_valE (v := .bool (decide (((p.code.n : Nat) : Int) < x.a))) rfl (rf_pickF rfl rfl rfl u8_4) rfl ?_
          refine wl_nil ?_
          refine thn ?_
          refine cond_ (t := decide (((p.code.n : Nat) : Int) < x.a)) rfl rfl (fun c30 => ?_) (fun c30 => ?_)
          · have c30p := of_decide_eq_true c30
            refine seq_ ?_
            refine region_ ?_
            refine wl_valE (v := .int .i64 (33 : Int)) rfl (rf_assign rfl) rfl ?_
            refine wl_nil ?_
            refine thn ?_
            refine ret_ ?_
            refine thr (blr (thr ?_))
            refine fin1 (v := .int .i64 (33 : Int)) Try.results32 rfl rfl ?_
            exact ⟨_, ⟨congrArg (Value.int .i64) (by unfold argE mostF; omega), rfl⟩, H5.pick' [] rfl rfl⟩
          · have c30p := of_decide_eq_false c30
            refine skip_ ?_
            refine thn ?_
            refine seq_ ?_
            refine region_ ?_
            refine wl_valE (v := .int .i64 (0 : Int)) rfl (rf_assign rfl) rfl ?_
            refine wl_nil ?_
            refine thn ?_
            refine ret_ ?_
            refine blr (thr ?_)
            refine fin1 (v := .int .i64 (0 : Int)) Try.results32 rfl rfl ?_
            exact ⟨_, ⟨congrArg (Value.int .i64) (by unfold argE mostF; omega), rfl⟩, H5.pick' [] rfl rfl⟩
      · have c16p := of_decide_eq_false c16
        refine seq_ ?_
        refine seq_ ?_
        refine region_ ?_
        refine wl_valE (v := .bool (decide (x.op = (4 : Int)))) rfl (rf_eql rfl rfl rfl rfl) rfl ?_
        refine wl_valE (v := .bool (decide (x.op = (4 : Int)))) rfl (rf_assign rfl) rfl ?_
        refine wl_nil ?_
        refine thn ?_
        refine cond_ (t := decide (x.op = (4 : Int))) rfl rfl (fun c31 => ?_) (fun c31 => ?_)
        · have c31p := of_decide_eq_true c31
          refine skip_ ?_
          refine thn ?_
          refine condT' rfl rfl (t := decide (x.op = (4 : Int))) (c31) ?_
          refine region_ ?_
          refine wl_valE (v := .pointer (some ⟨b1, 3, none⟩)) rfl (rf_fieldAddr Try.underlying32 rfl ti3 rfl rfl) rfl ?_
          refine wl_valE (v := .int .i64 p.locals) rfl (rf_load Try.underlying3 rfl rfl rfl ((H5.blk 0 rfl).cell rfl)) rfl ?_
          refine wl_valE (v := .int .i64 (p.locals - (1 : Int))) rfl (rf_sub rfl rfl rfl rfl (IntWalk.i64_in _ (by omega))) rfl ?_
          refine wl_valE (v := .int .i64 (p.locals - (1 : Int))) rfl (rf_assign rfl) rfl ?_
          refine wl_nil ?_
          refine bln ?_
          refine thn ?_
          refine seq_ ?_
          refine seq_ ?_
          refine region_ ?_
          refine wl_valE (v := .pointer (some ⟨b3, 1, none⟩)) rfl (rf_fieldAddr Try.underlying87 rfl ti2 rfl rfl) rfl ?_
          refine wl_valE (v := .int .i64 x.a) rfl (rf_load Try.underlying2 rfl rfl rfl ((H5.blk 1 rfl).cell rfl)) rfl ?_
          refine wl_valE (v := .bool (decide (x.a < (0 : Int)))) rfl (rf_lss rfl rfl rfl rfl) rfl ?_
          refine wl_valE (v := .bool (decide (x.a < (0 : Int)))) rfl (rf_move rfl) rfl ?_
          refine wl_split (decide (x.a < (0 : Int))) (fun u22_3 => ?_) (fun u22_3 => ?_)
          · have u22_3p := of_decide_eq_true u22_3
            refine wl_guardF rfl rfl rfl u22_3 ?_
            refine wl_guardF rfl rfl rfl u22_3 ?_
            refine wl_guardF rfl rfl rfl u22_3 ?_
            refine wl_guardF rfl rfl rfl u22_3 ?_
            refine wl_valE (v := .bool true) rfl (rf_pickT rfl rfl rfl u22_3) rfl ?_
            refine wl_nil ?_
            refine thn ?_
            refine condT rfl rfl ?_
            refine seq_ ?_
            refine region_ ?_
            refine wl_valE (v := .int .i64 (32 : Int)) rfl (rf_assign rfl) rfl ?_
            refine wl_nil ?_
            refine thn ?_
            refine ret_ ?_
            refine thr ?_
            refine fin1 (v := .int .i64 (32 : Int)) Try.results32 rfl rfl ?_
            exact ⟨_, ⟨congrArg (Value.int .i64) (by unfold argE mostF; omega), rfl⟩, H5.pick' [] rfl rfl⟩
          · have u22_3p := of_decide_eq_false u22_3
            refine wl_guardT rfl rfl rfl u22_3 ?_
            refine wl_valE (v := .pointer (some ⟨b3, 1, none⟩)) rfl (rf_fieldAddr Try.underlying87 rfl ti2 rfl rfl) rfl ?_
            refine wl_guardT rfl rfl rfl u22_3 ?_
            refine wl_valE (v := .int .i64 x.a) rfl (rf_load Try.underlying2 rfl rfl rfl ((H5.blk 1 rfl).cell rfl)) rfl ?_
            refine wl_guardT rfl rfl rfl u22_3 ?_
            refine wl_valE (v := .int .i64 (p.locals - (1 : Int))) rfl (rf_move rfl) rfl ?_
            refine wl_guardT rfl rfl rfl u22_3 ?_
            refine wl_valE (v := .bool (decide (p.locals - (1 : Int) < x.a))) rfl (rf_gtr rfl rfl rfl rfl) rfl ?_
            refine wl_valE (v := .bool (decide (p.locals - (1 : Int) < x.a))) rfl (rf_pickF rfl rfl rfl u22_3) rfl ?_
            refine wl_nil ?_
            refine thn ?_
            refine cond_ (t := decide (p.locals - (1 : Int) < x.a)) rfl rfl (fun c62 => ?_) (fun c62 => ?_)
            · have c62p := of_decide_eq_true c62
              refine seq_ ?_
              refine region_ ?_
              refine wl_valE (v := .int .i64 (32 : Int)) rfl (rf_assign rfl) rfl ?_
              refine wl_nil ?_
              refine thn ?_
              refine ret_ ?_
              refine thr ?_
              refine fin1 (v := .int .i64 (32 : Int)) Try.results32 rfl rfl ?_
              exact ⟨_, ⟨congrArg (Value.int .i64) (by unfold argE mostF; omega), rfl⟩, H5.pick' [] rfl rfl⟩
            · have c62p := of_decide_eq_false c62
              refine skip_ ?_
              refine thn ?_
              refine seq_ ?_
              refine region_ ?_
              refine wl_valE (v := .int .i64 (0 : Int)) rfl (rf_assign rfl) rfl ?_
              refine wl_nil ?_
              refine thn ?_
              refine ret_ ?_
              refine fin1 (v := .int .i64 (0 : Int)) Try.results32 rfl rfl ?_
              exact ⟨_, ⟨congrArg (Value.int .i64) (by unfold argE mostF; omega), rfl⟩, H5.pick' [] rfl rfl⟩
        · have c31p := of_decide_eq_false c31
          refine region_ ?_
          refine wl_valE (v := .bool (decide (x.op = (5 : Int)))) rfl (rf_eql rfl rfl rfl rfl) rfl ?_
          refine wl_valE (v := .bool (decide (x.op = (5 : Int)))) rfl (rf_assign rfl) rfl ?_
          refine wl_nil ?_
          refine thn ?_
          refine cond_ (t := decide (x.op = (5 : Int))) rfl rfl (fun c31 => ?_) (fun c31 => ?_)
          · have c31p := of_decide_eq_true c31
            refine region_ ?_
            refine wl_valE (v := .pointer (some ⟨b1, 3, none⟩)) rfl (rf_fieldAddr Try.underlying32 rfl ti3 rfl rfl) rfl ?_
            refine wl_valE (v := .int .i64 p.locals) rfl (rf_load Try.underlying3 rfl rfl rfl ((H5.blk 0 rfl).cell rfl)) rfl ?_
            refine wl_valE (v := .int .i64 (p.locals - (1 : Int))) rfl (rf_sub rfl rfl rfl rfl (IntWalk.i64_in _ (by omega))) rfl ?_
            refine wl_valE (v := .int .i64 (p.locals - (1 : Int))) rfl (rf_assign rfl) rfl ?_
            refine wl_nil ?_
            refine bln ?_
            refine thn ?_
            refine seq_ ?_
            refine seq_ ?_
            refine region_ ?_
            refine wl_valE (v := .pointer (some ⟨b3, 1, none⟩)) rfl (rf_fieldAddr Try.underlying87 rfl ti2 rfl rfl) rfl ?_
            refine wl_valE (v := .int .i64 x.a) rfl (rf_load Try.underlying2 rfl rfl rfl ((H5.blk 1 rfl).cell rfl)) rfl ?_
            refine wl_valE (v := .bool (decide (x.a < (0 : Int)))) rfl (rf_lss rfl rfl rfl rfl) rfl ?_
            refine wl_valE (v := .bool (decide (x.a < (0 : Int)))) rfl (rf_move rfl) rfl ?_
            refine wl_split (decide (x.a < (0 : Int))) (fun u22_3 => ?_) (fun u22_3 => ?_)
            · have u22_3p := of_decide_eq_true u22_3
              refine wl_guardF rfl rfl rfl u22_3 ?_
              refine wl_guardF rfl rfl rfl u22_3 ?_
              refine wl_guardF rfl rfl rfl u22_3 ?_
              refine wl_guardF rfl rfl rfl u22_3 ?_
              refine wl_valE (v := .bool true) rfl (rf_pickT rfl rfl rfl u22_3) rfl ?_
              refine wl_nil ?_
              refine thn ?_
              refine condT rfl rfl ?_
              refine seq_ ?_
              refine region_ ?_
              refine wl_valE (v := .int .i64 (32 : Int)) rfl (rf_assign rfl) rfl ?_
              refine wl_nil ?_
              refine thn ?_
              refine ret_ ?_
              refine thr ?_
              refine fin1 (v := .int .i64 (32 : Int)) Try.results32 rfl rfl ?_
              exact ⟨_, ⟨congrArg (Value.int .i64) (by unfold argE mostF; omega), rfl⟩, H5.pick' [] rfl rfl⟩
            · have u22_3p := of_decide_eq_false u22_3
              refine wl_guardT rfl rfl rfl u22_3 ?_
              refine wl_valE (v := .pointer (some ⟨b3, 1, none⟩)) rfl (rf_fieldAddr Try.underlying87 rfl ti2 rfl rfl) rfl ?_
              refine wl_guardT rfl rfl rfl u22_3 ?_
              refine wl_valE (v := .int .i64 x.a) rfl (rf_load Try.underlying2 rfl rfl rfl ((H5.blk 1 rfl).cell rfl)) rfl ?_
              refine wl_guardT rfl rfl rfl u22_3 ?_
              refine wl_valE (v := .int .i64 (p.locals - (1 : Int))) rfl (rf_move rfl) rfl ?_
              refine wl_guardT rfl rfl rfl u22_3 ?_
              refine wl_valE (v := .bool (decide (p.locals - (1 : Int) < x.a))) rfl (rf_gtr rfl rfl rfl rfl) rfl ?_
              refine wl_valE (v := .bool (decide (p.locals - (1 : Int) < x.a))) rfl (rf_pickF rfl rfl rfl u22_3) rfl ?_
              refine wl_nil ?_
              refine thn ?_
              refine cond_ (t := decide (p.locals - (1 : Int) < x.a)) rfl rfl (fun c62 => ?_) (fun c62 => ?_)
              · have c62p := of_decide_eq_true c62
                refine seq_ ?_
                refine region_ ?_
                refine wl_valE (v := .int .i64 (32 : Int)) rfl (rf_assign rfl) rfl ?_
                refine wl_nil ?_
                refine thn ?_
                refine ret_ ?_
                refine thr ?_
                refine fin1 (v := .int .i64 (32 : Int)) Try.results32 rfl rfl ?_
                exact ⟨_, ⟨congrArg (Value.int .i64) (by unfold argE mostF; omega), rfl⟩, H5.pick' [] rfl rfl⟩
              · have c62p := of_decide_eq_false c62
                refine skip_ ?_
                refine thn ?_
                refine seq_ ?_
                refine region_ ?_
                refine wl_valE (v := .int .i64 (0 : Int)) rfl (rf_assign rfl) rfl ?_
                refine wl_nil ?_
                refine thn ?_
                refine ret_ ?_
                refine fin1 (v := .int .i64 (0 : Int)) Try.results32 rfl rfl ?_
                exact ⟨_, ⟨congrArg (Value.int .i64) (by unfold argE mostF; omega), rfl⟩, H5.pick' [] rfl rfl⟩
          · have c31p := of_decide_eq_false c31
            refine seq_ ?_
            refine region_ ?_
            refine wl_valE (v := .bool (decide (x.op = (6 : Int)))) rfl (rf_eql rfl rfl rfl rfl) rfl ?_
            refine wl_valE (v := .bool (decide (x.op = (6 : Int)))) rfl (rf_assign rfl) rfl ?_
            refine wl_nil ?_
            refine thn ?_
            refine cond_ (t := decide (x.op = (6 : Int))) rfl rfl (fun c37 => ?_) (fun c37 => ?_)
            · have c37p := of_decide_eq_true c37
              refine region_ ?_
              refine wl_valE (v := .pointer (some ⟨b1, 0, none⟩)) rfl (rf_fieldAddr Try.underlying32 rfl ti3 rfl rfl) rfl ?_
              refine wl_valE (v := .int .i64 p.args) rfl (rf_load Try.underlying3 rfl rfl rfl ((H5.blk 0 rfl).cell rfl)) rfl ?_
              refine wl_valE (v := .int .i64 (p.args - (1 : Int))) rfl (rf_sub rfl rfl rfl rfl (IntWalk.i64_in _ (by omega))) rfl ?_
              refine wl_valE (v := .int .i64 (p.args - (1 : Int))) rfl (rf_assign rfl) rfl ?_
              refine wl_nil ?_
              refine bln ?_
              refine thn ?_
              refine seq_ ?_
              refine seq_ ?_
              refine region_ ?_
              refine wl_valE (v := .pointer (some ⟨b3, 1, none⟩)) rfl (rf_fieldAddr Try.underlying87 rfl ti2 rfl rfl) rfl ?_
              refine wl_valE (v := .int .i64 x.a) rfl (rf_load Try.underlying2 rfl rfl rfl ((H5.blk 1 rfl).cell rfl)) rfl ?_
              refine wl_valE (v := .bool (decide (x.a < (0 : Int)))) rfl (rf_lss rfl rfl rfl rfl) rfl ?_
              refine wl_valE (v := .bool (decide (x.a < (0 : Int)))) rfl (rf_move rfl) rfl ?_
              refine wl_split (decide (x.a < (0 : Int))) (fun u22_3 => ?_) (fun u22_3 => ?_)
              · have u22_3p := of_decide_eq_true u22_3
                refine wl_guardF rfl rfl rfl u22_3 ?_
                refine wl_guardF rfl rfl rfl u22_3 ?_
                refine wl_guardF rfl rfl rfl u22_3 ?_
                refine wl_guardF rfl rfl rfl u22_3 ?_
                refine wl_valE (v := .bool true) rfl (rf_pickT rfl rfl rfl u22_3) rfl ?_
                refine wl_nil ?_
                refine thn ?_
                refine condT rfl rfl ?_
                refine seq_ ?_
                refine region_ ?_
                refine wl_valE (v := .int .i64 (32 : Int)) rfl (rf_assign rfl) rfl ?_
                refine wl_nil ?_
                refine thn ?_
                refine ret_ ?_
                refine thr ?_
                refine fin1 (v := .int .i64 (32 : Int)) Try.results32 rfl rfl ?_
                exact ⟨_, ⟨congrArg (Value.int .i64) (by unfold argE mostF; omega), rfl⟩, H5.pick' [] rfl rfl⟩
              · have u22_3p := of_decide_eq_false u22_3
                refine wl_guardT rfl rfl rfl u22_3 ?_
                refine wl_valE (v := .pointer (some ⟨b3, 1, none⟩)) rfl (rf_fieldAddr Try.underlying87 rfl ti2 rfl rfl) rfl ?_
                refine wl_guardT rfl rfl rfl u22_3 ?_
                refine wl_valE (v := .int .i64 x.a) rfl (rf_load Try.underlying2 rfl rfl rfl ((H5.blk 1 rfl).cell rfl)) rfl ?_
                refine wl_guardT rfl rfl rfl u22_3 ?_
                refine wl_valE (v := .int .i64 (p.args - (1 : Int))) rfl (rf_move rfl) rfl ?_
                refine wl_guardT rfl rfl rfl u22_3 ?_
                refine wl_valE (v := .bool (decide (p.args - (1 : Int) < x.a))) rfl (rf_gtr rfl rfl rfl rfl) rfl ?_
                refine wl_valE (v := .bool (decide (p.args - (1 : Int) < x.a))) rfl (rf_pickF rfl rfl rfl u22_3) rfl ?_
                refine wl_nil ?_
                refine thn ?_
                refine cond_ (t := decide (p.args - (1 : Int) < x.a)) rfl rfl (fun c62 => ?_) (fun c62 => ?_)
                · have c62p := of_decide_eq_true c62
                  refine seq_ ?_
                  refine region_ ?_
                  refine wl_valE (v := .int .i64 (32 : Int)) rfl (rf_assign rfl) rfl ?_
                  refine wl_nil ?_
                  refine thn ?_
                  refine ret_ ?_
                  refine thr ?_
                  refine fin1 (v := .int .i64 (32 : Int)) Try.results32 rfl rfl ?_
                  exact ⟨_, ⟨congrArg (Value.int .i64) (by unfold argE mostF; omega), rfl⟩, H5.pick' [] rfl rfl⟩
                · have c62p := of_decide_eq_false c62
                  refine skip_ ?_
                  refine thn ?_
                  refine seq_ ?_
                  refine region_ ?_
                  refine wl_valE (v := .int .i64 (0 : Int)) rfl (rf_assign rfl) rfl ?_
                  refine wl_nil ?_
                  refine thn ?_
                  refine ret_ ?_
                  refine fin1 (v := .int .i64 (0 : Int)) Try.results32 rfl rfl ?_
                  exact ⟨_, ⟨congrArg (Value.int .i64) (by unfold argE mostF; omega), rfl⟩, H5.pick' [] rfl rfl⟩
            · have c37p := of_decide_eq_false c37
              refine seq_ ?_
              refine seq_ ?_
              refine region_ ?_
              refine wl_valE (v := .bool (decide (x.op = (7 : Int)))) rfl (rf_eql rfl rfl rfl rfl) rfl ?_
              refine wl_valE (v := .bool (decide (x.op = (7 : Int)))) rfl (rf_assign rfl) rfl ?_
              refine wl_nil ?_
              refine thn ?_
              refine cond_ (t := decide (x.op = (7 : Int))) rfl rfl (fun c42 => ?_) (fun c42 => ?_)
              · have c42p := of_decide_eq_true c42
                refine skip_ ?_
                refine thn ?_
                refine condT' rfl rfl (t := decide (x.op = (7 : Int))) (c42) ?_
                refine region_ ?_
                refine wl_valE (v := .pointer (some ⟨b1, 1, none⟩)) rfl (rf_fieldAddr Try.underlying32 rfl ti3 rfl rfl) rfl ?_
                refine wl_valE (v := .int .i64 p.reads) rfl (rf_load Try.underlying3 rfl rfl rfl ((H5.blk 0 rfl).cell rfl)) rfl ?_
                refine wl_valE (v := .int .i64 (p.reads - (1 : Int))) rfl (rf_sub rfl rfl rfl rfl (IntWalk.i64_in _ (by omega))) rfl ?_
                refine wl_valE (v := .int .i64 (p.reads - (1 : Int))) rfl (rf_assign rfl) rfl ?_
                refine wl_nil ?_
                refine bln ?_
                refine thn ?_
                refine seq_ ?_
                refine seq_ ?_
                refine region_ ?_
                refine wl_valE (v := .pointer (some ⟨b3, 1, none⟩)) rfl (rf_fieldAddr Try.underlying87 rfl ti2 rfl rfl) rfl ?_
                refine wl_valE (v := .int .i64 x.a) rfl (rf_load Try.underlying2 rfl rfl rfl ((H5.blk 1 rfl).cell rfl)) rfl ?_
                refine wl_valE (v := .bool (decide (x.a < (0 : Int)))) rfl (rf_lss rfl rfl rfl rfl) rfl ?_
                refine wl_valE (v := .bool (decide (x.a < (0 : Int)))) rfl (rf_move rfl) rfl ?_
                refine wl_split (decide (x.a < (0 : Int))) (fun u22_3 => ?_) (fun u22_3 => ?_)
                · have u22_3p := of_decide_eq_true u22_3
                  refine wl_guardF rfl rfl rfl u22_3 ?_
                  refine wl_guardF rfl rfl rfl u22_3 ?_
                  refine wl_guardF rfl rfl rfl u22_3 ?_
                  refine wl_guardF rfl rfl rfl u22_3 ?_
                  refine wl_valE (v := .bool true) rfl (rf_pickT rfl rfl rfl u22_3) rfl ?_
                  refine wl_nil ?_
                  refine thn ?_
                  refine condT rfl rfl ?_
                  refine seq_ ?_
                  refine region_ ?_
                  refine wl_valE (v := .int .i64 (32 : Int)) rfl (rf_assign rfl) rfl ?_
                  refine wl_nil ?_
                  refine thn ?_
                  refine ret_ ?_
                  refine thr ?_
                  refine fin1 (v := .int .i64 (32 : Int)) Try.results32 rfl rfl ?_
                  exact ⟨_, ⟨congrArg (Value.int .i64) (by unfold argE mostF; omega), rfl⟩, H5.pick' [] rfl rfl⟩
                · have u22_3p := of_decide_eq_false u22_3
                  refine wl_guardT rfl rfl rfl u22_3 ?_
                  refine wl_valE (v := .pointer (some ⟨b3, 1, none⟩)) rfl (rf_fieldAddr Try.underlying87 rfl ti2 rfl rfl) rfl ?_
                  refine wl_guardT rfl rfl rfl u22_3 ?_
                  refine wl_valE (v := .int .i64 x.a) rfl (rf_load Try.underlying2 rfl rfl rfl ((H5.blk 1 rfl).cell rfl)) rfl ?_
                  refine wl_guardT rfl rfl rfl u22_3 ?_
                  refine wl_valE (v := .int .i64 (p.reads - (1 : Int))) rfl (rf_move rfl) rfl ?_
                  refine wl_guardT rfl rfl rfl u22_3 ?_
                  refine wl_valE (v := .bool (decide (p.reads - (1 : Int) < x.a))) rfl (rf_gtr rfl rfl rfl rfl) rfl ?_
                  refine wl_valE (v := .bool (decide (p.reads - (1 : Int) < x.a))) rfl (rf_pickF rfl rfl rfl u22_3) rfl ?_
                  refine wl_nil ?_
                  refine thn ?_
                  refine cond_ (t := decide (p.reads - (1 : Int) < x.a)) rfl rfl (fun c62 => ?_) (fun c62 => ?_)
                  · have c62p := of_decide_eq_true c62
                    refine seq_ ?_
                    refine region_ ?_
                    refine wl_valE (v := .int .i64 (32 : Int)) rfl (rf_assign rfl) rfl ?_
                    refine wl_nil ?_
                    refine thn ?_
                    refine ret_ ?_
                    refine thr ?_
                    refine fin1 (v := .int .i64 (32 : Int)) Try.results32 rfl rfl ?_
                    exact ⟨_, ⟨congrArg (Value.int .i64) (by unfold argE mostF; omega), rfl⟩, H5.pick' [] rfl rfl⟩
                  · have c62p := of_decide_eq_false c62
                    refine skip_ ?_
                    refine thn ?_
                    refine seq_ ?_
                    refine region_ ?_
                    refine wl_valE (v := .int .i64 (0 : Int)) rfl (rf_assign rfl) rfl ?_
                    refine wl_nil ?_
                    refine thn ?_
                    refine ret_ ?_
                    refine fin1 (v := .int .i64 (0 : Int)) Try.results32 rfl rfl ?_
                    exact ⟨_, ⟨congrArg (Value.int .i64) (by unfold argE mostF; omega), rfl⟩, H5.pick' [] rfl rfl⟩
              · have c42p := of_decide_eq_false c42
                refine region_ ?_
                refine wl_valE (v := .bool (decide (x.op = (8 : Int)))) rfl (rf_eql rfl rfl rfl rfl) rfl ?_
                refine wl_valE (v := .bool (decide (x.op = (8 : Int)))) rfl (rf_assign rfl) rfl ?_
                refine wl_nil ?_
                refine thn ?_
                refine cond_ (t := decide (x.op = (8 : Int))) rfl rfl (fun c42 => ?_) (fun c42 => ?_)
                · have c42p := of_decide_eq_true c42
                  refine region_ ?_
                  refine wl_valE (v := .pointer (some ⟨b1, 1, none⟩)) rfl (rf_fieldAddr Try.underlying32 rfl ti3 rfl rfl) rfl ?_
                  refine wl_valE (v := .int .i64 p.reads) rfl (rf_load Try.underlying3 rfl rfl rfl ((H5.blk 0 rfl).cell rfl)) rfl ?_
                  refine wl_valE (v := .int .i64 (p.reads - (1 : Int))) rfl (rf_sub rfl rfl rfl rfl (IntWalk.i64_in _ (by omega))) rfl ?_
                  refine wl_valE (v := .int .i64 (p.reads - (1 : Int))) rfl (rf_assign rfl) rfl ?_
                  refine wl_nil ?_
                  refine bln ?_
                  refine thn ?_
                  refine seq_ ?_
                  refine seq_ ?_
                  refine region_ ?_
                  refine wl_valE (v := .pointer (some ⟨b3, 1, none⟩)) rfl (rf_fieldAddr Try.underlying87 rfl ti2 rfl rfl) rfl ?_
                  refine wl_valE (v := .int .i64 x.a) rfl (rf_load Try.underlying2 rfl rfl rfl ((H5.blk 1 rfl).cell rfl)) rfl ?_
                  refine wl_valE (v := .bool (decide (x.a < (0 : Int)))) rfl (rf_lss rfl rfl rfl rfl) rfl ?_
                  refine wl_valE (v := .bool (decide (x.a < (0 : Int)))) rfl (rf_move rfl) rfl ?_
                  refine wl_split (decide (x.a < (0 : Int))) (fun u22_3 => ?_) (fun u22_3 => ?_)
                  · have u22_3p := of_decide_eq_true u22_3
                    refine wl_guardF rfl rfl rfl u22_3 ?_
                    refine wl_guardF rfl rfl rfl u22_3 ?_
                    refine wl_guardF rfl rfl rfl u22_3 ?_
                    refine wl_guardF rfl rfl rfl u22_3 ?_
                    refine wl_valE (v := .bool true) rfl (rf_pickT rfl rfl rfl u22_3) rfl ?_
                    refine wl_nil ?_
                    refine thn ?_
                    refine condT rfl rfl ?_
                    refine seq_ ?_
                    refine region_ ?_
                    refine wl_valE (v := .int .i64 (32 : Int)) rfl (rf_assign rfl) rfl ?_
                    refine wl_nil ?_
                    refine thn ?_
                    refine ret_ ?_
                    refine thr ?_
                    refine fin1 (v := .int .i64 (32 : Int)) Try.results32 rfl rfl ?_
                    exact ⟨_, ⟨congrArg (Value.int .i64) (by unfold argE mostF; omega), rfl⟩, H5.pick' [] rfl rfl⟩
                  · have u22_3p := of_decide_eq_false u22_3
                    refine wl_guardT rfl rfl rfl u22_3 ?_
                    refine wl_valE (v := .pointer (some ⟨b3, 1, none⟩)) rfl (rf_fieldAddr Try.underlying87 rfl ti2 rfl rfl) rfl ?_
                    refine wl_guardT rfl rfl rfl u22_3 ?_
                    refine wl_valE (v := .int .i64 x.a) rfl (rf_load Try.underlying2 rfl rfl rfl ((H5.blk 1 rfl).cell rfl)) rfl ?_
                    refine wl_guardT rfl rfl rfl u22_3 ?_
                    refine wl_valE (v := .int .i64 (p.reads - (1 : Int))) rfl (rf_move rfl) rfl ?_
                    refine wl_guardT rfl rfl rfl u22_3 ?_
                    refine wl_valE (v := .bool (decide (p.reads - (1 : Int) < x.a))) rfl (rf_gtr rfl rfl rfl rfl) rfl ?_
                    refine wl_valE (v := .bool (decide (p.reads - (1 : Int) < x.a))) rfl (rf_pickF rfl rfl rfl u22_3) rfl ?_
                    refine wl_nil ?_
                    refine thn ?_
                    refine cond_ (t := decide (p.reads - (1 : Int) < x.a)) rfl rfl (fun c62 => ?_) (fun c62 => ?_)
                    · have c62p := of_decide_eq_true c62
                      refine seq_ ?_
                      refine region_ ?_
                      refine wl_valE (v := .int .i64 (32 : Int)) rfl (rf_assign rfl) rfl ?_
                      refine wl_nil ?_
                      refine thn ?_
                      refine ret_ ?_
                      refine thr ?_
                      refine fin1 (v := .int .i64 (32 : Int)) Try.results32 rfl rfl ?_
                      exact ⟨_, ⟨congrArg (Value.int .i64) (by unfold argE mostF; omega), rfl⟩, H5.pick' [] rfl rfl⟩
                    · have c62p := of_decide_eq_false c62
                      refine skip_ ?_
                      refine thn ?_
                      refine seq_ ?_
                      refine region_ ?_
                      refine wl_valE (v := .int .i64 (0 : Int)) rfl (rf_assign rfl) rfl ?_
                      refine wl_nil ?_
                      refine thn ?_
                      refine ret_ ?_
                      refine fin1 (v := .int .i64 (0 : Int)) Try.results32 rfl rfl ?_
                      exact ⟨_, ⟨congrArg (Value.int .i64) (by unfold argE mostF; omega), rfl⟩, H5.pick' [] rfl rfl⟩
                · have c42p := of_decide_eq_false c42
                  refine seq_ ?_
                  refine seq_ ?_
                  refine region_ ?_
                  refine wl_valE (v := .bool (decide (x.op = (32 : Int)))) rfl (rf_eql rfl rfl rfl rfl) rfl ?_
                  refine wl_valE (v := .bool (decide (x.op = (32 : Int)))) rfl (rf_assign rfl) rfl ?_
                  refine wl_nil ?_
                  refine thn ?_
                  refine cond_ (t := decide (x.op = (32 : Int))) rfl rfl (fun c48 => ?_) (fun c48 => ?_)
                  · have c48p := of_decide_eq_true c48
                    refine skip_ ?_
                    refine thn ?_
                    refine condT' rfl rfl (t := decide (x.op = (32 : Int))) (c48) ?_
                    refine region_ ?_
                    refine wl_valE (v := .pointer (some ⟨b1, 2, none⟩)) rfl (rf_fieldAddr Try.underlying32 rfl ti3 rfl rfl) rfl ?_
                    refine wl_valE (v := .int .i64 p.writes) rfl (rf_load Try.underlying3 rfl rfl rfl ((H5.blk 0 rfl).cell rfl)) rfl ?_
                    refine wl_valE (v := .int .i64 (p.writes - (1 : Int))) rfl (rf_sub rfl rfl rfl rfl (IntWalk.i64_in _ (by omega))) rfl ?_
                    refine wl_valE (v := .int .i64 (p.writes - (1 : Int))) rfl (rf_assign rfl) rfl ?_
                    refine wl_nil ?_
                    refine bln ?_
                    refine thn ?_
                    refine seq_ ?_
                    refine seq_ ?_
                    refine region_ ?_
                    refine wl_valE (v := .pointer (some ⟨b3, 1, none⟩)) rfl (rf_fieldAddr Try.underlying87 rfl ti2 rfl rfl) rfl ?_
                    refine wl_valE (v := .int .i64 x.a) rfl (rf_load Try.underlying2 rfl rfl rfl ((H5.blk 1 rfl).cell rfl)) rfl ?_
                    refine wl_valE (v := .bool (decide (x.a < (0 : Int)))) rfl (rf_lss rfl rfl rfl rfl) rfl ?_
                    refine wl_valE (v := .bool (decide (x.a < (0 : Int)))) rfl (rf_move rfl) rfl ?_
                    refine wl_split (decide (x.a < (0 : Int))) (fun u22_3 => ?_) (fun u22_3 => ?_)
                    · have u22_3p := of_decide_eq_true u22_3
                      refine wl_guardF rfl rfl rfl u22_3 ?_
                      refine wl_guardF rfl rfl rfl u22_3 ?_
                      refine wl_guardF rfl rfl rfl u22_3 ?_
                      refine wl_guardF rfl rfl rfl u22_3 ?_
                      refine wl_valE (v := .bool true) rfl (rf_pickT rfl rfl rfl u22_3) rfl ?_
                      refine wl_nil ?_
                      refine thn ?_
                      refine condT rfl rfl ?_
                      refine seq_ ?_
                      refine region_ ?_
                      refine wl_valE (v := .int .i64 (32 : Int)) rfl (rf_assign rfl) rfl ?_
                      refine wl_nil ?_
                      refine thn ?_
                      refine ret_ ?_
                      refine thr ?_
                      refine fin1 (v := .int .i64 (32 : Int)) Try.results32 rfl rfl ?_
                      exact ⟨_, ⟨congrArg (Value.int .i64) (by unfold argE mostF; omega), rfl⟩, H5.pick' [] rfl rfl⟩
                    · have u22_3p := of_decide_eq_false u22_3
                      refine wl_guardT rfl rfl rfl u22_3 ?_
                      refine wl_valE (v := .pointer (some ⟨b3, 1, none⟩)) rfl (rf_fieldAddr Try.underlying87 rfl ti2 rfl rfl) rfl ?_
                      refine wl_guardT rfl rfl rfl u22_3 ?_
                      refine wl_valE (v := .int .i64 x.a) rfl (rf_load Try.underlying2 rfl rfl rfl ((H5.blk 1 rfl).cell rfl)) rfl ?_
                      refine wl_guardT rfl rfl rfl u22_3 ?_
                      refine wl_valE (v := .int .i64 (p.writes - (1 : Int))) rfl (rf_move rfl) rfl ?_
                      refine wl_guardT rfl rfl rfl u22_3 ?_
                      refine wl_valE (v := .bool (decide (p.writes - (1 : Int) < x.a))) rfl (rf_gtr rfl rfl rfl rfl) rfl ?_
                      refine wl_valE (v := .bool (decide (p.writes - (1 : Int) < x.a))) rfl (rf_pickF rfl rfl rfl u22_3) rfl ?_
                      refine wl_nil ?_
                      refine thn ?_
                      refine cond_ (t := decide (p.writes - (1 : Int) < x.a)) rfl rfl (fun c62 => ?_) (fun c62 => ?_)
                      · have c62p := of_decide_eq_true c62
                        refine seq_ ?_
                        refine region_ ?_
                        refine wl_valE (v := .int .i64 (32 : Int)) rfl (rf_assign rfl) rfl ?_
                        refine wl_nil ?_
                        refine thn ?_
                        refine ret_ ?_
                        refine thr ?_
                        refine fin1 (v := .int .i64 (32 : Int)) Try.results32 rfl rfl ?_
                        exact ⟨_, ⟨congrArg (Value.int .i64) (by unfold argE mostF; omega), rfl⟩, H5.pick' [] rfl rfl⟩
                      · have c62p := of_decide_eq_false c62
                        refine skip_ ?_
                        refine thn ?_
                        refine seq_ ?_
                        refine region_ ?_
                        refine wl_valE (v := .int .i64 (0 : Int)) rfl (rf_assign rfl) rfl ?_
                        refine wl_nil ?_
                        refine thn ?_
                        refine ret_ ?_
                        refine fin1 (v := .int .i64 (0 : Int)) Try.results32 rfl rfl ?_
                        exact ⟨_, ⟨congrArg (Value.int .i64) (by unfold argE mostF; omega), rfl⟩, H5.pick' [] rfl rfl⟩
                  · have c48p := of_decide_eq_false c48
                    refine region_ ?_
                    refine wl_valE (v := .bool (decide (x.op = (33 : Int)))) rfl (rf_eql rfl rfl rfl rfl) rfl ?_
                    refine wl_valE (v := .bool (decide (x.op = (33 : Int)))) rfl (rf_assign rfl) rfl ?_
                    refine wl_nil ?_
                    refine thn ?_
                    refine cond_ (t := decide (x.op = (33 : Int))) rfl rfl (fun c48 => ?_) (fun c48 => ?_)
                    · have c48p := of_decide_eq_true c48
                      refine region_ ?_
                      refine wl_valE (v := .pointer (some ⟨b1, 2, none⟩)) rfl (rf_fieldAddr Try.underlying32 rfl ti3 rfl rfl) rfl ?_
                      refine wl_valE (v := .int .i64 p.writes) rfl (rf_load Try.underlying3 rfl rfl rfl ((H5.blk 0 rfl).cell rfl)) rfl ?_
                      refine wl_valE (v := .int .i64 (p.writes - (1 : Int))) rfl (rf_sub rfl rfl rfl rfl (IntWalk.i64_in _ (by omega))) rfl ?_
                      refine wl_valE (v := .int .i64 (p.writes - (1 : Int))) rfl (rf_assign rfl) rfl ?_
                      refine wl_nil ?_
                      refine bln ?_
                      refine thn ?_
                      refine seq_ ?_
                      refine seq_ ?_
                      refine region_ ?_
                      refine wl_valE (v := .pointer (some ⟨b3, 1, none⟩)) rfl (rf_fieldAddr Try.underlying87 rfl ti2 rfl rfl) rfl ?_
                      refine wl_valE (v := .int .i64 x.a) rfl (rf_load Try.underlying2 rfl rfl rfl ((H5.blk 1 rfl).cell rfl)) rfl ?_
                      refine wl_valE (v := .bool (decide (x.a < (0 : Int)))) rfl (rf_lss rfl rfl rfl rfl) rfl ?_
                      refine wl_valE (v := .bool (decide (x.a < (0 : Int)))) rfl (rf_move rfl) rfl ?_
                      refine wl_split (decide (x.a < (0 : Int))) (fun u22_3 => ?_) (fun u22_3 => ?_)
                      · have u22_3p := of_decide_eq_true u22_3
                        refine wl_guardF rfl rfl rfl u22_3 ?_
                        refine wl_guardF rfl rfl rfl u22_3 ?_
                        refine wl_guardF rfl rfl rfl u22_3 ?_
                        refine wl_guardF rfl rfl rfl u22_3 ?_
                        refine wl_valE (v := .bool true) rfl (rf_pickT rfl rfl rfl u22_3) rfl ?_
                        refine wl_nil ?_
                        refine thn ?_
                        refine condT rfl rfl ?_
                        refine seq_ ?_
                        refine region_ ?_
                        refine wl_valE (v := .int .i64 (32 : Int)) rfl (rf_assign rfl) rfl ?_
                        refine wl_nil ?_
                        refine thn ?_
                        refine ret_ ?_
                        refine thr ?_
                        refine fin1 (v := .int .i64 (32 : Int)) Try.results32 rfl rfl ?_
                        exact ⟨_, ⟨congrArg (Value.int .i64) (by unfold argE mostF; omega), rfl⟩, H5.pick' [] rfl rfl⟩
                      · have u22_3p := of_decide_eq_false u22_3
                        refine wl_guardT rfl rfl rfl u22_3 ?_
                        refine wl_valE (v := .pointer (some ⟨b3, 1, none⟩)) rfl (rf_fieldAddr Try.underlying87 rfl ti2 rfl rfl) rfl ?_
                        refine wl_guardT rfl rfl rfl u22_3 ?_
                        refine wl_valE (v := .int .i64 x.a) rfl (rf_load Try.underlying2 rfl rfl rfl ((H5.blk 1 rfl).cell rfl)) rfl ?_
                        refine wl_guardT rfl rfl rfl u22_3 ?_
                        refine wl_valE (v := .int .i64 (p.writes - (1 : Int))) rfl (rf_move rfl) rfl ?_
                        refine wl_guardT rfl rfl rfl u22_3 ?_
                        refine wl_valE (v := .bool (decide (p.writes - (1 : Int) < x.a))) rfl (rf_gtr rfl rfl rfl rfl) rfl ?_
                        refine wl_valE (v := .bool (decide (p.writes - (1 : Int) < x.a))) rfl (rf_pickF rfl rfl rfl u22_3) rfl ?_
                        refine wl_nil ?_
                        refine thn ?_
                        refine cond_ (t := decide (p.writes - (1 : Int) < x.a)) rfl rfl (fun c62 => ?_) (fun c62 => ?_)
                        · have c62p := of_decide_eq_true c62
                          refine seq_ ?_
                          refine region_ ?_
                          refine wl_valE (v := .int .i64 (32 : Int)) rfl (rf_assign rfl) rfl ?_
                          refine wl_nil ?_
                          refine thn ?_
                          refine ret_ ?_
                          refine thr ?_
                          refine fin1 (v := .int .i64 (32 : Int)) Try.results32 rfl rfl ?_
                          exact ⟨_, ⟨congrArg (Value.int .i64) (by unfold argE mostF; omega), rfl⟩, H5.pick' [] rfl rfl⟩
                        · have c62p := of_decide_eq_false c62
                          refine skip_ ?_
                          refine thn ?_
                          refine seq_ ?_
                          refine region_ ?_
                          refine wl_valE (v := .int .i64 (0 : Int)) rfl (rf_assign rfl) rfl ?_
                          refine wl_nil ?_
                          refine thn ?_
                          refine ret_ ?_
                          refine fin1 (v := .int .i64 (0 : Int)) Try.results32 rfl rfl ?_
                          exact ⟨_, ⟨congrArg (Value.int .i64) (by unfold argE mostF; omega), rfl⟩, H5.pick' [] rfl rfl⟩
                    · have c48p := of_decide_eq_false c48
                      refine skip_ ?_
                      refine bln ?_
                      refine thn ?_
                      refine seq_ ?_
                      refine seq_ ?_
                      refine region_ ?_
                      refine wl_valE (v := .pointer (some ⟨b3, 1, none⟩)) rfl (rf_fieldAddr Try.underlying87 rfl ti2 rfl rfl) rfl ?_
                      refine wl_valE (v := .int .i64 x.a) rfl (rf_load Try.underlying2 rfl rfl rfl ((H5.blk 1 rfl).cell rfl)) rfl ?_
                      refine wl_valE (v := .bool (decide (x.a < (0 : Int)))) rfl (rf_lss rfl rfl rfl rfl) rfl ?_
                      refine wl_valE (v := .bool (decide (x.a < (0 : Int)))) rfl (rf_move rfl) rfl ?_
                      refine wl_split (decide (x.a < (0 : Int))) (fun u22_3 => ?_) (fun u22_3 => ?_)
                      · have u22_3p := of_decide_eq_true u22_3
                        refine wl_guardF rfl rfl rfl u22_3 ?_
                        refine wl_guardF rfl rfl rfl u22_3 ?_
                        refine wl_guardF rfl rfl rfl u22_3 ?_
                        refine wl_guardF rfl rfl rfl u22_3 ?_
                        refine wl_valE (v := .bool true) rfl (rf_pickT rfl rfl rfl u22_3) rfl ?_
                        refine wl_nil ?_
                        refine thn ?_
                        refine condT rfl rfl ?_
                        refine seq_ ?_
                        refine region_ ?_
                        refine wl_valE (v := .int .i64 (32 : Int)) rfl (rf_assign rfl) rfl ?_
                        refine wl_nil ?_
                        refine thn ?_
                        refine ret_ ?_
                        refine thr ?_
                        refine fin1 (v := .int .i64 (32 : Int)) Try.results32 rfl rfl ?_
                        exact ⟨_, ⟨congrArg (Value.int .i64) (by unfold argE mostF; omega), rfl⟩, H5.pick' [] rfl rfl⟩
                      · have u22_3p := of_decide_eq_false u22_3
                        refine wl_guardT rfl rfl rfl u22_3 ?_
                        refine wl_valE (v := .pointer (some ⟨b3, 1, none⟩)) rfl (rf_fieldAddr Try.underlying87 rfl ti2 rfl rfl) rfl ?_
                        refine wl_guardT rfl rfl rfl u22_3 ?_
                        refine wl_valE (v := .int .i64 x.a) rfl (rf_load Try.underlying2 rfl rfl rfl ((H5.blk 1 rfl).cell rfl)) rfl ?_
                        refine wl_guardT rfl rfl rfl u22_3 ?_
                        refine wl_valE (v := .int .i64 (0 : Int)) rfl (rf_move rfl) rfl ?_
                        refine wl_guardT rfl rfl rfl u22_3 ?_
                        refine wl_valE (v := .bool (decide ((0 : Int) < x.a))) rfl (rf_gtr rfl rfl rfl rfl) rfl ?_
                        refine wl_valE (v := .bool (decide ((0 : Int) < x.a))) rfl (rf_pickF rfl rfl rfl u22_3) rfl ?_
                        refine wl_nil ?_
                        refine thn ?_
                        refine cond_ (t := decide ((0 : Int) < x.a)) rfl rfl (fun c62 => ?_) (fun c62 => ?_)
                        · have c62p := of_decide_eq_true c62
                          refine seq_ ?_
                          refine region_ ?_
                          refine wl_valE (v := .int .i64 (32 : Int)) rfl (rf_assign rfl) rfl ?_
                          refine wl_nil ?_
                          refine thn ?_
                          refine ret_ ?_
                          refine thr ?_
                          refine fin1 (v := .int .i64 (32 : Int)) Try.results32 rfl rfl ?_
                          exact ⟨_, ⟨congrArg (Value.int .i64) (by unfold argE mostF; omega), rfl⟩, H5.pick' [] rfl rfl⟩
                        · have c62p := of_decide_eq_false c62
                          refine skip_ ?_
                          refine thn ?_
                          refine seq_ ?_
                          refine region_ ?_
                          refine wl_valE (v := .int .i64 (0 : Int)) rfl (rf_assign rfl) rfl ?_
                          refine wl_nil ?_
                          refine thn ?_
                          refine ret_ ?_
                          refine fin1 (v := .int .i64 (0 : Int)) Try.results32 rfl rfl ?_
                          exact ⟨_, ⟨congrArg (Value.int .i64) (by unfold argE mostF; omega), rfl⟩, H5.pick' [] rfl rfl⟩
theorem argumentR_tr (p : ProgR) (x : InsR) (h : 0 ≤ x.op ∧ x.op < 37) : Tr Try.prog 37 [.agg #[.int .i64 p.args, .int .i64 p.reads, .int .i64 p.writes, .int .i64 p.locals, .slice p.code.a p.code.n p.code.c], .agg #[.int .i64 x.op, .int .i64 x.a]] [] [] (fun v m => v = .bool (decide (argB p x)) ∧ m = []) := by
  intro w0 S0 H0
  refine enterR Try.func37 rfl Try.ntmps37 rfl ?_
  intro g0
  refine seq_ ?_
  refine region_ ?_
  refine wl_boxH H0 (v := .agg #[.int .i64 p.args, .int .i64 p.reads, .int .i64 p.writes, .int .i64 p.locals, .slice p.code.a p.code.n p.code.c]) rfl rfl ?_
  intro b1 w2 H2
  refine wl_boxH H2 (v := .agg #[.int .i64 x.op, .int .i64 x.a]) rfl rfl ?_
  intro b3 w4 H4
  refine wl_valE (v := .bool false) rfl (rf_assign rfl) rfl ?_
  refine wl_nil ?_
  refine thn ?_
  refine seq_ ?_
  refine region_ ?_
  refine wl_valE (v := .int .i64 (0 : Int)) rfl (rf_assign rfl) rfl ?_
  refine wl_nil ?_
  refine thn ?_
  refine seq_ ?_
  refine seq_ ?_
  refine region_ ?_
  refine wl_valE (v := .pointer (some ⟨b3, 0, none⟩)) rfl (rf_fieldAddr Try.underlying87 rfl ti3 rfl rfl) rfl ?_
  refine wl_valE (v := .int .i64 x.op) rfl (rf_load Try.underlying3 rfl rfl rfl ((H4.blk 1 rfl).cell rfl)) rfl ?_
  refine wl_tr H4 rfl [] (spell_tr x.op h) rfl .nil (rf_call Try.call40 rfl rfl) rfl ?_
  rintro _ w5 _ ⟨rfl, rfl⟩ H5
  refine wl_nil ?_
  refine thn ?_
  refine block_ ?_
  refine seq_ ?_
  refine seq_ ?_
  refine region_ ?_
  refine wl_valE (v := .bool (decide (x.op = 1))) rfl (rf_eqlStr rfl rfl rfl rfl) (congrArg Value.bool (decide_eq_decide.2 (spl_eq h (k := 1) rfl))) ?_
  refine wl_valE (v := .bool (decide (x.op = 1))) rfl (rf_assign rfl) rfl ?_
  refine wl_nil ?_
  refine thn ?_
  refine cond_ (t := decide (x.op = 1)) rfl rfl (fun c12 => ?_) (fun c12 => ?_)
  · have c12p := of_decide_eq_true c12
    refine skip_ ?_
    refine thn ?_
    refine condT' rfl rfl (t := decide (x.op = 1)) (c12) ?_
    refine seq_ ?_
    refine region_ ?_
    refine wl_valE (v := .bool true) rfl (rf_assign rfl) rfl ?_
    refine wl_nil ?_
    refine thn ?_
    refine ret_ ?_
    refine blr (thr ?_)
    refine fin1 (v := .bool true) Try.results37 rfl rfl ?_
    exact ⟨_, ⟨congrArg Value.bool (by first | exact (decide_eq_false (by unfold argB mostF; omega)).symm | exact (decide_eq_true (by unfold argB mostF; omega)).symm | exact decide_eq_decide.2 (by unfold argB mostF; omega)), rfl⟩, H5.pick' [] rfl rfl⟩
  · have c12p := of_decide_eq_false c12
    refine seq_ ?_
    refine region_ ?_
    refine wl_valE (v := .bool (decide (x.op = 30))) rfl (rf_eqlStr rfl rfl rfl rfl) (congrArg Value.bool (decide_eq_decide.2 (spl_eq h (k := 30) rfl))) ?_
    refine wl_valE (v := .bool (decide (x.op = 30))) rfl (rf_assign rfl) rfl ?_
    refine wl_nil ?_
    refine thn ?_
    refine cond_ (t := decide (x.op = 30)) rfl rfl (fun c12 => ?_) (fun c12 => ?_)
    · have c12p := of_decide_eq_true c12
      refine skip_ ?_
      refine thn ?_
      refine condT' rfl rfl (t := decide (x.op = 30)) (c12) ?_
      refine seq_ ?_
      refine region_ ?_
      refine wl_valE (v := .bool true) rfl (rf_assign rfl) rfl ?_
      refine wl_nil ?_
      refine thn ?_
      refine ret_ ?_
      refine blr (thr ?_)
      refine fin1 (v := .bool true) Try.results37 rfl rfl ?_
      exact ⟨_, ⟨congrArg Value.bool (by first | exact (decide_eq_false (by unfold argB mostF; omega)).symm | exact (decide_eq_true (by unfold argB mostF; omega)).symm | exact decide_eq_decide.2 (by unfold argB mostF; omega)), rfl⟩, H5.pick' [] rfl rfl⟩
    · have c12p := of_decide_eq_false c12
      refine region_ ?_
      refine wl_valE (v := .bool (decide (x.op = 31))) rfl (rf_eqlStr rfl rfl rfl rfl) (congrArg Value.bool (decide_eq_decide.2 (spl_eq h (k := 31) rfl))) ?_
      refine wl_valE (v := .bool (decide (x.op = 31))) rfl (rf_assign rfl) rfl ?_
      refine wl_nil ?_
      refine thn ?_
      refine cond_ (t := decide (x.op = 31)) rfl rfl (fun c12 => ?_) (fun c12 => ?_)
      · have c12p := of_decide_eq_true c12
        refine seq_ ?_
        refine region_ ?_
        refine wl_valE (v := .bool true) rfl (rf_assign rfl) rfl ?_
        refine wl_nil ?_
        refine thn ?_
        refine ret_ ?_
        refine blr (thr ?_)
        refine fin1 (v := .bool true) Try.results37 rfl rfl ?_
        exact ⟨_, ⟨congrArg Value.bool (by first | exact (decide_eq_false (by unfold argB mostF; omega)).symm | exact (decide_eq_true (by unfold argB mostF; omega)).symm | exact decide_eq_decide.2 (by unfold argB mostF; omega)), rfl⟩, H5.pick' [] rfl rfl⟩
      · have c12p := of_decide_eq_false c12
        refine seq_ ?_
        refine seq_ ?_
        refine region_ ?_
        refine wl_valE (v := .bool (decide (x.op = 4))) rfl (rf_eqlStr rfl rfl rfl rfl) (congrArg Value.bool (decide_eq_decide.2 (spl_eq h (k := 4) rfl))) ?_
        refine wl_valE (v := .bool (decide (x.op = 4))) rfl (rf_assign rfl) rfl ?_
        refine wl_nil ?_
        refine thn ?_
        refine cond_ (t := decide (x.op = 4)) rfl rfl (fun c16 => ?_) (fun c16 => ?_)
        · have c16p := of_decide_eq_true c16
          refine skip_ ?_
          refine thn ?_
          refine condT' rfl rfl (t := decide (x.op = 4)) (c16) ?_
          refine region_ ?_
          refine wl_valE (v := .pointer (some ⟨b1, 3, none⟩)) rfl (rf_fieldAddr Try.underlying32 rfl ti3 rfl rfl) rfl ?_
          refine wl_valE (v := .int .i64 p.locals) rfl (rf_load Try.underlying3 rfl rfl rfl ((H5.blk 0 rfl).cell rfl)) rfl ?_
          refine wl_valE (v := .int .i64 p.locals) rfl (rf_assign rfl) rfl ?_
          refine wl_nil ?_
          refine bln ?_
          refine thn ?_
          refine seq_ ?_
          refine region_ ?_
          refine wl_valE (v := .pointer (some ⟨b3, 1, none⟩)) rfl (rf_fieldAddr Try.underlying87 rfl ti2 rfl rfl) rfl ?_
          refine wl_valE (v := .int .i64 x.a) rfl (rf_load Try.underlying2 rfl rfl rfl ((H5.blk 1 rfl).cell rfl)) rfl ?_
          refine wl_valE (v := .bool (decide ((0 : Int) ≤ x.a))) rfl (rf_geq rfl rfl rfl rfl) rfl ?_
          refine wl_valE (v := .bool (decide ((0 : Int) ≤ x.a))) rfl (rf_move rfl) rfl ?_
          refine wl_split (decide ((0 : Int) ≤ x.a)) (fun u19_3 => ?_) (fun u19_3 => ?_)
          · have u19_3p := of_decide_eq_true u19_3
            refine wl_guardT rfl rfl rfl u19_3 ?_
            refine wl_valE (v := .pointer (some ⟨b3, 1, none⟩)) rfl (rf_fieldAddr Try.underlying87 rfl ti2 rfl rfl) rfl ?_
            refine wl_guardT rfl rfl rfl u19_3 ?_
            refine wl_valE (v := .int .i64 x.a) rfl (rf_load Try.underlying2 rfl rfl rfl ((H5.blk 1 rfl).cell rfl)) rfl ?_
            refine wl_guardT rfl rfl rfl u19_3 ?_
            refine wl_valE (v := .int .i64 p.locals) rfl (rf_move rfl) rfl ?_
            refine wl_guardT rfl rfl rfl u19_3 ?_
            refine wl_valE (v := .bool (decide (x.a < p.locals))) rfl (rf_lss rfl rfl rfl rfl) rfl ?_
            refine wl_valE (v := .bool (decide (x.a < p.locals))) rfl (rf_pickT rfl rfl rfl u19_3) rfl ?_
            refine wl_valE (v := .bool (decide (x.a < p.locals))) rfl (rf_assign rfl) rfl ?_
            refine wl_nil ?_
            refine thn ?_
            refine ret_ ?_
            refine fin1 (v := .bool (decide (x.a < p.locals))) Try.results37 rfl rfl ?_
            exact ⟨_, ⟨congrArg Value.bool (by first | exact (decide_eq_false (by unfold argB mostF; omega)).symm | exact (decide_eq_true (by unfold argB mostF; omega)).symm | exact decide_eq_decide.2 (by unfold argB mostF; omega)), rfl⟩, H5.pick' [] rfl rfl⟩
          · have u19_3p := of_decide_eq_false u19_3
            refine wl_guardF rfl rfl rfl u19_3 ?_
            refine wl_guardF rfl rfl rfl u19_3 ?_
            refine wl_guardF rfl rfl rfl u19_3 ?_
            refine wl_guardF rfl rfl rfl u19_3 ?_
            refine wl_valE (v := .bool false) rfl (rf_pickF rfl rfl rfl u19_3) rfl ?_
            refine wl_valE (v := .bool false) rfl (rf_assign rfl) rfl ?_
            refine wl_nil ?_
            refine thn ?_
            refine ret_ ?_
            refine fin1 (v := .bool false) Try.results37 rfl rfl ?_
            exact ⟨_, ⟨congrArg Value.bool (by first | exact (decide_eq_false (by unfold argB mostF; omega)).symm | exact (decide_eq_true (by unfold argB mostF; omega)).symm | exact decide_eq_decide.2 (by unfold argB mostF; omega)), rfl⟩, H5.pick' [] rfl rfl⟩
        · have c16p := of_decide_eq_false c16
          refine region_ ?_
          refine wl_valE (v := .bool (decide (x.op = 5))) rfl (rf_eqlStr rfl rfl rfl rfl) (congrArg Value.bool (decide_eq_decide.2 (spl_eq h (k := 5) rfl))) ?_
          refine wl_valE (v := .bool (decide (x.op = 5))) rfl (rf_assign rfl) rfl ?_
          refine wl_nil ?_
          refine thn ?_
          refine cond_ (t := decide (x.op = 5)) rfl rfl (fun c16 => ?_) (fun c16 => ?_)
          · have c16p := of_decide_eq_true c16
            refine region_ ?_
            refine wl_valE (v := .pointer (some ⟨b1, 3, none⟩)) rfl (rf_fieldAddr Try.underlying32 rfl ti3 rfl rfl) rfl ?_
            refine wl_valE (v := .int .i64 p.locals) rfl (rf_load Try.underlying3 rfl rfl rfl ((H5.blk 0 rfl).cell rfl)) rfl ?_
            refine wl_valE (v := .int .i64 p.locals) rfl (rf_assign rfl) rfl ?_
            refine wl_nil ?_
            refine bln ?_
            refine thn ?_
            refine seq_ ?_
            refine region_ ?_
            refine wl_valE (v := .pointer (some ⟨b3, 1, none⟩)) rfl (rf_fieldAddr Try.underlying87 rfl ti2 rfl rfl) rfl ?_
            refine wl_valE (v := .int .i64 x.a) rfl (rf_load Try.underlying2 rfl rfl rfl ((H5.blk 1 rfl).cell rfl)) rfl ?_
            refine wl_valE (v := .bool (decide ((0 : Int) ≤ x.a))) rfl (rf_geq rfl rfl rfl rfl) rfl ?_
            refine wl_valE (v := .bool (decide ((0 : Int) ≤ x.a))) rfl (rf_move rfl) rfl ?_
            refine wl_split (decide ((0 : Int) ≤ x.a)) (fun u19_3 => ?_) (fun u19_3 => ?_)
            · have u19_3p := of_decide_eq_true u19_3
              refine wl_guardT rfl rfl rfl u19_3 ?_
              refine wl_valE (v := .pointer (some ⟨b3, 1, none⟩)) rfl (rf_fieldAddr Try.underlying87 rfl ti2 rfl rfl) rfl ?_
              refine wl_guardT rfl rfl rfl u19_3 ?_
              refine wl_valE (v := .int .i64 x.a) rfl (rf_load Try.underlying2 rfl rfl rfl ((H5.blk 1 rfl).cell rfl)) rfl ?_
              refine wl_guardT rfl rfl rfl u19_3 ?_
              refine wl_valE (v := .int .i64 p.locals) rfl (rf_move rfl) rfl ?_
              refine wl_guardT rfl rfl rfl u19_3 ?_
              refine wl_valE (v := .bool (decide (x.a < p.locals))) rfl (rf_lss rfl rfl rfl rfl) rfl ?_
              refine wl_valE (v := .bool (decide (x.a < p.locals))) rfl (rf_pickT rfl rfl rfl u19_3) rfl ?_
              refine wl_valE (v := .bool (decide (x.a < p.locals))) rfl (rf_assign rfl) rfl ?_
              refine wl_nil ?_
              refine thn ?_
              refine ret_ ?_
              refine fin1 (v := .bool (decide (x.a < p.locals))) Try.results37 rfl rfl ?_
              exact ⟨_, ⟨congrArg Value.bool (by first | exact (decide_eq_false (by unfold argB mostF; omega)).symm | exact (decide_eq_true (by unfold argB mostF; omega)).symm | exact decide_eq_decide.2 (by unfold argB mostF; omega)), rfl⟩, H5.pick' [] rfl rfl⟩
            · have u19_3p := of_decide_eq_false u19_3
              refine wl_guardF rfl rfl rfl u19_3 ?_
              refine wl_guardF rfl rfl rfl u19_3 ?_
              refine wl_guardF rfl rfl rfl u19_3 ?_
              refine wl_guardF rfl rfl rfl u19_3 ?_
              refine wl_valE (v := .bool false) rfl (rf_pickF rfl rfl rfl u19_3) rfl ?_
              refine wl_valE (v := .bool false) rfl (rf_assign rfl) rfl ?_
              refine wl_nil ?_
              refine thn ?_
              refine ret_ ?_
              refine fin1 (v := .bool false) Try.results37 rfl rfl ?_
              exact ⟨_, ⟨congrArg Value.bool (by first | exact (decide_eq_false (by unfold argB mostF; omega)).symm | exact (decide_eq_true (by unfold argB mostF; omega)).symm | exact decide_eq_decide.2 (by unfold argB mostF; omega)), rfl⟩, H5.pick' [] rfl rfl⟩
          · have c16p := of_decide_eq_false c16
            refine seq_ ?_
            refine region_ ?_
            refine wl_valE (v := .bool (decide (x.op = 6))) rfl (rf_eqlStr rfl rfl rfl rfl) (congrArg Value.bool (decide_eq_decide.2 (spl_eq h (k := 6) rfl))) ?_
            refine wl_valE (v := .bool (decide (x.op = 6))) rfl (rf_assign rfl) rfl ?_
            refine wl_nil ?_
            refine thn ?_
            refine cond_ (t := decide (x.op = 6)) rfl rfl (fun c21 => ?_) (fun c21 => ?_)
            · have c21p := of_decide_eq_true c21
              refine region_ ?_
              refine wl_valE (v := .pointer (some ⟨b1, 0, none⟩)) rfl (rf_fieldAddr Try.underlying32 rfl ti3 rfl rfl) rfl ?_
              refine wl_valE (v := .int .i64 p.args) rfl (rf_load Try.underlying3 rfl rfl rfl ((H5.blk 0 rfl).cell rfl)) rfl ?_
              refine wl_valE (v := .int .i64 p.args) rfl (rf_assign rfl) rfl ?_
              refine wl_nil ?_
              refine bln ?_
              refine thn ?_
              refine seq_ ?_
              refine region_ ?_
              refine wl_valE (v := .pointer (some ⟨b3, 1, none⟩)) rfl (rf_fieldAddr Try.underlying87 rfl ti2 rfl rfl) rfl ?_
              refine wl_valE (v := .int .i64 x.a) rfl (rf_load Try.underlying2 rfl rfl rfl ((H5.blk 1 rfl).cell rfl)) rfl ?_
              refine wl_valE (v := .bool (decide ((0 : Int) ≤ x.a))) rfl (rf_geq rfl rfl rfl rfl) rfl ?_
              refine wl_valE (v := .bool (decide ((0 : Int) ≤ x.a))) rfl (rf_move rfl) rfl ?_
              refine wl_split (decide ((0 : Int) ≤ x.a)) (fun u19_3 => ?_) (fun u19_3 => ?_)
              · have u19_3p := of_decide_eq_true u19_3
                refine wl_guardT rfl rfl rfl u19_3 ?_
                refine wl_valE (v := .pointer (some ⟨b3, 1, none⟩)) rfl (rf_fieldAddr Try.underlying87 rfl ti2 rfl rfl) rfl ?_
                refine wl_guardT rfl rfl rfl u19_3 ?_
                refine wl_valE (v := .int .i64 x.a) rfl (rf_load Try.underlying2 rfl rfl rfl ((H5.blk 1 rfl).cell rfl)) rfl ?_
                refine wl_guardT rfl rfl rfl u19_3 ?_
                refine wl_valE (v := .int .i64 p.args) rfl (rf_move rfl) rfl ?_
                refine wl_guardT rfl rfl rfl u19_3 ?_
                refine wl_valE (v := .bool (decide (x.a < p.args))) rfl (rf_lss rfl rfl rfl rfl) rfl ?_
                refine wl_valE (v := .bool (decide (x.a < p.args))) rfl (rf_pickT rfl rfl rfl u19_3) rfl ?_
                refine wl_valE (v := .bool (decide (x.a < p.args))) rfl (rf_assign rfl) rfl ?_
                refine wl_nil ?_
                refine thn ?_
                refine ret_ ?_
                refine fin1 (v := .bool (decide (x.a < p.args))) Try.results37 rfl rfl ?_
                exact ⟨_, ⟨congrArg Value.bool (by first | exact (decide_eq_false (by unfold argB mostF; omega)).symm | exact (decide_eq_true (by unfold argB mostF; omega)).symm | exact decide_eq_decide.2 (by unfold argB mostF; omega)), rfl⟩, H5.pick' [] rfl rfl⟩
              · have u19_3p := of_decide_eq_false u19_3
                refine wl_guardF rfl rfl rfl u19_3 ?_
                refine wl_guardF rfl rfl rfl u19_3 ?_
                refine wl_guardF rfl rfl rfl u19_3 ?_
                refine wl_guardF rfl rfl rfl u19_3 ?_
                refine wl_valE (v := .bool false) rfl (rf_pickF rfl rfl rfl u19_3) rfl ?_
                refine wl_valE (v := .bool false) rfl (rf_assign rfl) rfl ?_
                refine wl_nil ?_
                refine thn ?_
                refine ret_ ?_
                refine fin1 (v := .bool false) Try.results37 rfl rfl ?_
                exact ⟨_, ⟨congrArg Value.bool (by first | exact (decide_eq_false (by unfold argB mostF; omega)).symm | exact (decide_eq_true (by unfold argB mostF; omega)).symm | exact decide_eq_decide.2 (by unfold argB mostF; omega)), rfl⟩, H5.pick' [] rfl rfl⟩
            · have c21p := of_decide_eq_false c21
              refine seq_ ?_
              refine seq_ ?_
              refine region_ ?_
              refine wl_valE (v := .bool (decide (x.op = 7))) rfl (rf_eqlStr rfl rfl rfl rfl) (congrArg Value.bool (decide_eq_decide.2 (spl_eq h (k := 7) rfl))) ?_
              refine wl_valE (v := .bool (decide (x.op = 7))) rfl (rf_assign rfl) rfl ?_
              refine wl_nil ?_
              refine thn ?_
              refine cond_ (t := decide (x.op = 7)) rfl rfl (fun c25 => ?_) (fun c25 => ?_)
              · have c25p := of_decide_eq_true c25
                refine skip_ ?_
                refine thn ?_
                refine condT' rfl rfl (t := decide (x.op = 7)) (c25) ?_
                refine region_ ?_
                refine wl_valE (v := .pointer (some ⟨b1, 1, none⟩)) rfl (rf_fieldAddr Try.underlying32 rfl ti3 rfl rfl) rfl ?_
                refine wl_valE (v := .int .i64 p.reads) rfl (rf_load Try.underlying3 rfl rfl rfl ((H5.blk 0 rfl).cell rfl)) rfl ?_
                refine wl_valE (v := .int .i64 p.reads) rfl (rf_assign rfl) rfl ?_
                refine wl_nil ?_
                refine bln ?_
                refine thn ?_
                refine seq_ ?_
                refine region_ ?_
                refine wl_valE (v := .pointer (some ⟨b3, 1, none⟩)) rfl (rf_fieldAddr Try.underlying87 rfl ti2 rfl rfl) rfl ?_
                refine wl_valE (v := .int .i64 x.a) rfl (rf_load Try.underlying2 rfl rfl rfl ((H5.blk 1 rfl).cell rfl)) rfl ?_
                refine wl_valE (v := .bool (decide ((0 : Int) ≤ x.a))) rfl (rf_geq rfl rfl rfl rfl) rfl ?_
                refine wl_valE (v := .bool (decide ((0 : Int) ≤ x.a))) rfl (rf_move rfl) rfl ?_
                refine wl_split (decide ((0 : Int) ≤ x.a)) (fun u19_3 => ?_) (fun u19_3 => ?_)
                · have u19_3p := of_decide_eq_true u19_3
                  refine wl_guardT rfl rfl rfl u19_3 ?_
                  refine wl_valE (v := .pointer (some ⟨b3, 1, none⟩)) rfl (rf_fieldAddr Try.underlying87 rfl ti2 rfl rfl) rfl ?_
                  refine wl_guardT rfl rfl rfl u19_3 ?_
                  refine wl_valE (v := .int .i64 x.a) rfl (rf_load Try.underlying2 rfl rfl rfl ((H5.blk 1 rfl).cell rfl)) rfl ?_
                  refine wl_guardT rfl rfl rfl u19_3 ?_
                  refine wl_valE (v := .int .i64 p.reads) rfl (rf_move rfl) rfl ?_
                  refine wl_guardT rfl rfl rfl u19_3 ?_
                  refine wl_valE (v := .bool (decide (x.a < p.reads))) rfl (rf_lss rfl rfl rfl rfl) rfl ?_
                  refine wl_valE (v := .bool (decide (x.a < p.reads))) rfl (rf_pickT rfl rfl rfl u19_3) rfl ?_
                  refine wl_valE (v := .bool (decide (x.a < p.reads))) rfl (rf_assign rfl) rfl ?_
                  refine wl_nil ?_
                  refine thn ?_
                  refine ret_ ?_
                  refine fin1 (v := .bool (decide (x.a < p.reads))) Try.results37 rfl rfl ?_
                  exact ⟨_, ⟨congrArg Value.bool (by first | exact (decide_eq_false (by unfold argB mostF; omega)).symm | exact (decide_eq_true (by unfold argB mostF; omega)).symm | exact decide_eq_decide.2 (by unfold argB mostF; omega)), rfl⟩, H5.pick' [] rfl rfl⟩
                · have u19_3p := of_decide_eq_false u19_3
                  refine wl_guardF rfl rfl rfl u19_3 ?_
                  refine wl_guardF rfl rfl rfl u19_3 ?_
                  refine wl_guardF rfl rfl rfl u19_3 ?_
                  refine wl_guardF rfl rfl rfl u19_3 ?_
                  refine wl_valE (v := .bool false) rfl (rf_pickF rfl rfl rfl u19_3) rfl ?_
                  refine wl_valE (v := .bool false) rfl (rf_assign rfl) rfl ?_
                  refine wl_nil ?_
                  refine thn ?_
                  refine ret_ ?_
                  refine fin1 (v := .bool false) Try.results37 rfl rfl ?_
                  exact ⟨_, ⟨congrArg Value.bool (by first | exact (decide_eq_false (by unfold argB mostF; omega)).symm | exact (decide_eq_true (by unfold argB mostF; omega)).symm | exact decide_eq_decide.2 (by unfold argB mostF; omega)), rfl⟩, H5.pick' [] rfl rfl⟩
              · have c25p := of_decide_eq_false c25
                refine region_ ?_
                refine wl_valE (v := .bool (decide (x.op = 8))) rfl (rf_eqlStr rfl rfl rfl rfl) (congrArg Value.bool (decide_eq_decide.2 (spl_eq h (k := 8) rfl))) ?_
                refine wl_valE (v := .bool (decide (x.op = 8))) rfl (rf_assign rfl) rfl ?_
                refine wl_nil ?_
                refine thn ?_
                refine cond_ (t := decide (x.op = 8)) rfl rfl (fun c25 => ?_) (fun c25 => ?_)
                · have c25p := of_decide_eq_true c25
                  refine region_ ?_
                  refine wl_valE (v := .pointer (some ⟨b1, 1, none⟩)) rfl (rf_fieldAddr Try.underlying32 rfl ti3 rfl rfl) rfl ?_
                  refine wl_valE (v := .int .i64 p.reads) rfl (rf_load Try.underlying3 rfl rfl rfl ((H5.blk 0 rfl).cell rfl)) rfl ?_
                  refine wl_valE (v := .int .i64 p.reads) rfl (rf_assign rfl) rfl ?_
                  refine wl_nil ?_
                  refine bln ?_
                  refine thn ?_
                  refine seq_ ?_
                  refine region_ ?_
                  refine wl_valE (v := .pointer (some ⟨b3, 1, none⟩)) rfl (rf_fieldAddr Try.underlying87 rfl ti2 rfl rfl) rfl ?_
                  refine wl_valE (v := .int .i64 x.a) rfl (rf_load Try.underlying2 rfl rfl rfl ((H5.blk 1 rfl).cell rfl)) rfl ?_
                  refine wl_valE (v := .bool (decide ((0 : Int) ≤ x.a))) rfl (rf_geq rfl rfl rfl rfl) rfl ?_
                  refine wl_valE (v := .bool (decide ((0 : Int) ≤ x.a))) rfl (rf_move rfl) rfl ?_
                  refine wl_split (decide ((0 : Int) ≤ x.a)) (fun u19_3 => ?_) (fun u19_3 => ?_)
                  · have u19_3p := of_decide_eq_true u19_3
                    refine wl_guardT rfl rfl rfl u19_3 ?_
                    refine wl_valE (v := .pointer (some ⟨b3, 1, none⟩)) rfl (rf_fieldAddr Try.underlying87 rfl ti2 rfl rfl) rfl ?_
                    refine wl_guardT rfl rfl rfl u19_3 ?_
                    refine wl_valE (v := .int .i64 x.a) rfl (rf_load Try.underlying2 rfl rfl rfl ((H5.blk 1 rfl).cell rfl)) rfl ?_
                    refine wl_guardT rfl rfl rfl u19_3 ?_
                    refine wl_valE (v := .int .i64 p.reads) rfl (rf_move rfl) rfl ?_
                    refine wl_guardT rfl rfl rfl u19_3 ?_
                    refine wl_valE (v := .bool (decide (x.a < p.reads))) rfl (rf_lss rfl rfl rfl rfl) rfl ?_
                    refine wl_valE (v := .bool (decide (x.a < p.reads))) rfl (rf_pickT rfl rfl rfl u19_3) rfl ?_
                    refine wl_valE (v := .bool (decide (x.a < p.reads))) rfl (rf_assign rfl) rfl ?_
                    refine wl_nil ?_
                    refine thn ?_
                    refine ret_ ?_
                    refine fin1 (v := .bool (decide (x.a < p.reads))) Try.results37 rfl rfl ?_
                    exact ⟨_, ⟨congrArg Value.bool (by first | exact (decide_eq_false (by unfold argB mostF; omega)).symm | exact (decide_eq_true (by unfold argB mostF; omega)).symm | exact decide_eq_decide.2 (by unfold argB mostF; omega)), rfl⟩, H5.pick' [] rfl rfl⟩
                  · have u19_3p := of_decide_eq_false u19_3
                    refine wl_guardF rfl rfl rfl u19_3 ?_
                    refine wl_guardF rfl rfl rfl u19_3 ?_
                    refine wl_guardF rfl rfl rfl u19_3 ?_
                    refine wl_guardF rfl rfl rfl u19_3 ?_
                    refine wl_valE (v := .bool false) rfl (rf_pickF rfl rfl rfl u19_3) rfl ?_
                    refine wl_valE (v := .bool false) rfl (rf_assign rfl) rfl ?_
                    refine wl_nil ?_
                    refine thn ?_
                    refine ret_ ?_
                    refine fin1 (v := .bool false) Try.results37 rfl rfl ?_
                    exact ⟨_, ⟨congrArg Value.bool (by first | exact (decide_eq_false (by unfold argB mostF; omega)).symm | exact (decide_eq_true (by unfold argB mostF; omega)).symm | exact decide_eq_decide.2 (by unfold argB mostF; omega)), rfl⟩, H5.pick' [] rfl rfl⟩
                · have c25p := of_decide_eq_false c25
                  refine seq_ ?_
                  refine seq_ ?_
                  refine region_ ?_
                  refine wl_valE (v := .bool (decide (x.op = 32))) rfl (rf_eqlStr rfl rfl rfl rfl) (congrArg Value.bool (decide_eq_decide.2 (spl_eq h (k := 32) rfl))) ?_
                  refine wl_valE (v := .bool (decide (x.op = 32))) rfl (rf_assign rfl) rfl ?_
                  refine wl_nil ?_
                  refine thn ?_
                  refine cond_ (t := decide (x.op = 32)) rfl rfl (fun c30 => ?_) (fun c30 => ?_)
                  · have c30p := of_decide_eq_true c30
                    refine skip_ ?_
                    refine thn ?_
                    refine condT' rfl rfl (t := decide (x.op = 32)) (c30) ?_
                    refine region_ ?_
                    refine wl_valE (v := .pointer (some ⟨b1, 2, none⟩)) rfl (rf_fieldAddr Try.underlying32 rfl ti3 rfl rfl) rfl ?_
                    refine wl_valE (v := .int .i64 p.writes) rfl (rf_load Try.underlying3 rfl rfl rfl ((H5.blk 0 rfl).cell rfl)) rfl ?_
                    refine wl_valE (v := .int .i64 p.writes) rfl (rf_assign rfl) rfl ?_
                    refine wl_nil ?_
                    refine bln ?_
                    refine thn ?_
                    refine seq_ ?_
                    refine region_ ?_
                    refine wl_valE (v := .pointer (some ⟨b3, 1, none⟩)) rfl (rf_fieldAddr Try.underlying87 rfl ti2 rfl rfl) rfl ?_
                    refine wl_valE (v := .int .i64 x.a) rfl (rf_load Try.underlying2 rfl rfl rfl ((H5.blk 1 rfl).cell rfl)) rfl ?_
                    refine wl_valE (v := .bool (decide ((0 : Int) ≤ x.a))) rfl (rf_geq rfl rfl rfl rfl) rfl ?_
                    refine wl_valE (v := .bool (decide ((0 : Int) ≤ x.a))) rfl (rf_move rfl) rfl ?_
                    refine wl_split (decide ((0 : Int) ≤ x.a)) (fun u19_3 => ?_) (fun u19_3 => ?_)
                    · have u19_3p := of_decide_eq_true u19_3
                      refine wl_guardT rfl rfl rfl u19_3 ?_
                      refine wl_valE (v := .pointer (some ⟨b3, 1, none⟩)) rfl (rf_fieldAddr Try.underlying87 rfl ti2 rfl rfl) rfl ?_
                      refine wl_guardT rfl rfl rfl u19_3 ?_
                      refine wl_valE (v := .int .i64 x.a) rfl (rf_load Try.underlying2 rfl rfl rfl ((H5.blk 1 rfl).cell rfl)) rfl ?_
                      refine wl_guardT rfl rfl rfl u19_3 ?_
                      refine wl_valE (v := .int .i64 p.writes) rfl (rf_move rfl) rfl ?_
                      refine wl_guardT rfl rfl rfl u19_3 ?_
                      refine wl_valE (v := .bool (decide (x.a < p.writes))) rfl (rf_lss rfl rfl rfl rfl) rfl ?_
                      refine wl_valE (v := .bool (decide (x.a < p.writes))) rfl (rf_pickT rfl rfl rfl u19_3) rfl ?_
                      refine wl_valE (v := .bool (decide (x.a < p.writes))) rfl (rf_assign rfl) rfl ?_
                      refine wl_nil ?_
                      refine thn ?_
                      refine ret_ ?_
                      refine fin1 (v := .bool (decide (x.a < p.writes))) Try.results37 rfl rfl ?_
                      exact ⟨_, ⟨congrArg Value.bool (by first | exact (decide_eq_false (by unfold argB mostF; omega)).symm | exact (decide_eq_true (by unfold argB mostF; omega)).symm | exact decide_eq_decide.2 (by unfold argB mostF; omega)), rfl⟩, H5.pick' [] rfl rfl⟩
                    · have u19_3p := of_decide_eq_false u19_3
                      refine wl_guardF rfl rfl rfl u19_3 ?_
                      refine wl_guardF rfl rfl rfl u19_3 ?_
                      refine wl_guardF rfl rfl rfl u19_3 ?_
                      refine wl_guardF rfl rfl rfl u19_3 ?_
                      refine wl_valE (v := .bool false) rfl (rf_pickF rfl rfl rfl u19_3) rfl ?_
                      refine wl_valE (v := .bool false) rfl (rf_assign rfl) rfl ?_
                      refine wl_nil ?_
                      refine thn ?_
                      refine ret_ ?_
                      refine fin1 (v := .bool false) Try.results37 rfl rfl ?_
                      exact ⟨_, ⟨congrArg Value.bool (by first | exact (decide_eq_false (by unfold argB mostF; omega)).symm | exact (decide_eq_true (by unfold argB mostF; omega)).symm | exact decide_eq_decide.2 (by unfold argB mostF; omega)), rfl⟩, H5.pick' [] rfl rfl⟩
                  · have c30p := of_decide_eq_false c30
                    refine region_ ?_
                    refine wl_valE (v := .bool (decide (x.op = 33))) rfl (rf_eqlStr rfl rfl rfl rfl) (congrArg Value.bool (decide_eq_decide.2 (spl_eq h (k := 33) rfl))) ?_
                    refine wl_valE (v := .bool (decide (x.op = 33))) rfl (rf_assign rfl) rfl ?_
                    refine wl_nil ?_
                    refine thn ?_
                    refine cond_ (t := decide (x.op = 33)) rfl rfl (fun c30 => ?_) (fun c30 => ?_)
                    · have c30p := of_decide_eq_true c30
                      refine region_ ?_
                      refine wl_valE (v := .pointer (some ⟨b1, 2, none⟩)) rfl (rf_fieldAddr Try.underlying32 rfl ti3 rfl rfl) rfl ?_
                      refine wl_valE (v := .int .i64 p.writes) rfl (rf_load Try.underlying3 rfl rfl rfl ((H5.blk 0 rfl).cell rfl)) rfl ?_
                      refine wl_valE (v := .int .i64 p.writes) rfl (rf_assign rfl) rfl ?_
                      refine wl_nil ?_
                      refine bln ?_
                      refine thn ?_
                      refine seq_ ?_
                      refine region_ ?_
                      refine wl_valE (v := .pointer (some ⟨b3, 1, none⟩)) rfl (rf_fieldAddr Try.underlying87 rfl ti2 rfl rfl) rfl ?_
                      refine wl_valE (v := .int .i64 x.a) rfl (rf_load Try.underlying2 rfl rfl rfl ((H5.blk 1 rfl).cell rfl)) rfl ?_
                      refine wl_valE (v := .bool (decide ((0 : Int) ≤ x.a))) rfl (rf_geq rfl rfl rfl rfl) rfl ?_
                      refine wl_valE (v := .bool (decide ((0 : Int) ≤ x.a))) rfl (rf_move rfl) rfl ?_
                      refine wl_split (decide ((0 : Int) ≤ x.a)) (fun u19_3 => ?_) (fun u19_3 => ?_)
                      · have u19_3p := of_decide_eq_true u19_3
                        refine wl_guardT rfl rfl rfl u19_3 ?_
                        refine wl_valE (v := .pointer (some ⟨b3, 1, none⟩)) rfl (rf_fieldAddr Try.underlying87 rfl ti2 rfl rfl) rfl ?_
                        refine wl_guardT rfl rfl rfl u19_3 ?_
                        refine wl_valE (v := .int .i64 x.a) rfl (rf_load Try.underlying2 rfl rfl rfl ((H5.blk 1 rfl).cell rfl)) rfl ?_
                        refine wl_guardT rfl rfl rfl u19_3 ?_
                        refine wl_valE (v := .int .i64 p.writes) rfl (rf_move rfl) rfl ?_
                        refine wl_guardT rfl rfl rfl u19_3 ?_
                        refine wl_valE (v := .bool (decide (x.a < p.writes))) rfl (rf_lss rfl rfl rfl rfl) rfl ?_
                        refine wl_valE (v := .bool (decide (x.a < p.writes))) rfl (rf_pickT rfl rfl rfl u19_3) rfl ?_
                        refine wl_valE (v := .bool (decide (x.a < p.writes))) rfl (rf_assign rfl) rfl ?_
                        refine wl_nil ?_
                        refine thn ?_
                        refine ret_ ?_
                        refine fin1 (v := .bool (decide (x.a < p.writes))) Try.results37 rfl rfl ?_
                        exact ⟨_, ⟨congrArg Value.bool (by first | exact (decide_eq_false (by unfold argB mostF; omega)).symm | exact (decide_eq_true (by unfold argB mostF; omega)).symm | exact decide_eq_decide.2 (by unfold argB mostF; omega)), rfl⟩, H5.pick' [] rfl rfl⟩
                      · have u19_3p := of_decide_eq_false u19_3
                        refine wl_guardF rfl rfl rfl u19_3 ?_
                        refine wl_guardF rfl rfl rfl u19_3 ?_
                        refine wl_guardF rfl rfl rfl u19_3 ?_
                        refine wl_guardF rfl rfl rfl u19_3 ?_
                        refine wl_valE (v := .bool false) rfl (rf_pickF rfl rfl rfl u19_3) rfl ?_
                        refine wl_valE (v := .bool false) rfl (rf_assign rfl) rfl ?_
                        refine wl_nil ?_
                        refine thn ?_
                        refine ret_ ?_
                        refine fin1 (v := .bool false) Try.results37 rfl rfl ?_
                        exact ⟨_, ⟨congrArg Value.bool (by first | exact (decide_eq_false (by unfold argB mostF; omega)).symm | exact (decide_eq_true (by unfold argB mostF; omega)).symm | exact decide_eq_decide.2 (by unfold argB mostF; omega)), rfl⟩, H5.pick' [] rfl rfl⟩
                    · have c30p := of_decide_eq_false c30
                      refine seq_ ?_
                      refine region_ ?_
                      refine wl_valE (v := .pointer (some ⟨b3, 1, none⟩)) rfl (rf_fieldAddr Try.underlying87 rfl ti2 rfl rfl) rfl ?_
                      refine wl_valE (v := .int .i64 x.a) rfl (rf_load Try.underlying2 rfl rfl rfl ((H5.blk 1 rfl).cell rfl)) rfl ?_
                      refine wl_valE (v := .bool (decide (x.a = (0 : Int)))) rfl (rf_eql rfl rfl rfl rfl) rfl ?_
                      refine wl_valE (v := .bool (decide (x.a = (0 : Int)))) rfl (rf_assign rfl) rfl ?_
                      refine wl_nil ?_
                      refine thn ?_
                      refine ret_ ?_
                      refine blr (thr ?_)
                      refine fin1 (v := .bool (decide (x.a = (0 : Int)))) Try.results37 rfl rfl ?_
                      exact ⟨_, ⟨congrArg Value.bool (by first | exact (decide_eq_false (by unfold argB mostF; omega)).symm | exact (decide_eq_true (by unfold argB mostF; omega)).symm | exact decide_eq_decide.2 (by unfold argB mostF; omega)), rfl⟩, H5.pick' [] rfl rfl⟩
theorem ways_tr (x : InsR) (i : Nat) (hi : i ≤ 256) : Tr Try.prog 34 [.agg #[.int .i64 x.op, .int .i64 x.a], .int .i64 ((i : Nat) : Int)] [] [] (fun v m => ∃ a c, v = .slice a (waysF ((i : Nat) : Int) x).length c ∧ m = [slH encI 1 3 a (waysF ((i : Nat) : Int) x).length c (waysF ((i : Nat) : Int) x)]) := by
  intro w0 S0 H0
  refine enterR Try.func34 rfl Try.ntmps34 rfl ?_
  intro g0
  refine seq_ ?_
  refine region_ ?_
  refine wl_boxH H0 (v := .agg #[.int .i64 x.op, .int .i64 x.a]) rfl rfl ?_
  intro b1 w2 H2
  refine wl_valE (v := .slice none 0 0) rfl (rf_assign rfl) rfl ?_
  refine wl_nil ?_
  refine thn ?_
  refine seq_ ?_
  refine seq_ ?_
  refine region_ ?_
  refine wl_valE (v := .pointer (some ⟨b1, 0, none⟩)) rfl (rf_fieldAddr Try.underlying87 rfl ti3 rfl rfl) rfl ?_
  refine wl_valE (v := .int .i64 x.op) rfl (rf_load Try.underlying3 rfl rfl rfl ((H2.blk 0 rfl).cell rfl)) rfl ?_
  refine wl_nil ?_
  refine thn ?_
  refine block_ ?_
  refine seq_ ?_
  refine seq_ ?_
  refine region_ ?_
  refine wl_valE (v := .bool (decide (x.op = (0 : Int)))) rfl (rf_eql rfl rfl rfl rfl) rfl ?_
  refine wl_valE (v := .bool (decide (x.op = (0 : Int)))) rfl (rf_assign rfl) rfl ?_
  refine wl_nil ?_
  refine thn ?_
  refine cond_ (t := decide (x.op = (0 : Int))) rfl rfl (fun c7 => ?_) (fun c7 => ?_)
  · have c7p := of_decide_eq_true c7
    refine skip_ ?_
    refine thn ?_
    refine condT' rfl rfl (t := decide (x.op = (0 : Int))) (c7) ?_
    refine seq_ ?_
    refine region_ ?_
    refine wl_valE (v := .slice none 0 0) rfl (rf_assign rfl) rfl ?_
    refine wl_nil ?_
    refine thn ?_
    refine ret_ ?_
    refine blr (thr ?_)
    refine fin1 (v := .slice none 0 0) Try.results34 rfl rfl ?_
    have hw : waysF ((i : Nat) : Int) x = [] := by unfold waysF; rw [if_pos (by omega)]
    exact ⟨_, ⟨none, 0, by rw [hw]; rfl, rfl⟩, by rw [hw]; exact (H2.addNil encI 1 3 (α := Int)).pick' [1] rfl rfl⟩
  · have c7p := of_decide_eq_false c7
    refine region_ ?_
    refine wl_valE (v := .bool (decide (x.op = (36 : Int)))) rfl (rf_eql rfl rfl rfl rfl) rfl ?_
    refine wl_valE (v := .bool (decide (x.op = (36 : Int)))) rfl (rf_assign rfl) rfl ?_
    refine wl_nil ?_
    refine thn ?_
    refine cond_ (t := decide (x.op = (36 : Int))) rfl rfl (fun c7 => ?_) (fun c7 => ?_)
    · have c7p := of_decide_eq_true c7
      refine seq_ ?_
      refine region_ ?_
      refine wl_valE (v := .slice none 0 0) rfl (rf_assign rfl) rfl ?_
      refine wl_nil ?_
      refine thn ?_
      refine ret_ ?_
      refine blr (thr ?_)
      refine fin1 (v := .slice none 0 0) Try.results34 rfl rfl ?_
      have hw : waysF ((i : Nat) : Int) x = [] := by unfold waysF; rw [if_pos (by omega)]
      exact ⟨_, ⟨none, 0, by rw [hw]; rfl, rfl⟩, by rw [hw]; exact (H2.addNil encI 1 3 (α := Int)).pick' [1] rfl rfl⟩
    · have c7p := of_decide_eq_false c7
      refine seq_ ?_
      refine region_ ?_
      refine wl_valE (v := .bool (decide (x.op = (30 : Int)))) rfl (rf_eql rfl rfl rfl rfl) rfl ?_
      refine wl_valE (v := .bool (decide (x.op = (30 : Int)))) rfl (rf_assign rfl) rfl ?_
      refine wl_nil ?_
      refine thn ?_
      refine cond_ (t := decide (x.op = (30 : Int))) rfl rfl (fun c10 => ?_) (fun c10 => ?_)
      · have c10p := of_decide_eq_true c10
        refine seq_ ?_
        refine region_ ?_
        refine wl_valE (v := .pointer (some ⟨b1, 1, none⟩)) rfl (rf_fieldAddr Try.underlying87 rfl ti2 rfl rfl) rfl ?_
        refine wl_valE (v := .int .i64 x.a) rfl (rf_load Try.underlying2 rfl rfl rfl ((H2.blk 0 rfl).cell rfl)) rfl ?_
        refine wl_buildSliceH (enc := encI) H2 [x.a] encI_len Try.underlying65 ti3 rfl rfl rfl (.cons rfl rfl rfl rfl rfl rfl .nil) ?_
        intro a3 w4 H4
        refine wl_valE (v := .slice a3 1 1) rfl (rf_assign rfl) rfl ?_
        refine wl_nil ?_
        refine thn ?_
        refine ret_ ?_
        refine blr (thr ?_)
        refine fin1 (v := .slice a3 1 1) Try.results34 rfl rfl ?_
        have hw : waysF ((i : Nat) : Int) x = [x.a] := by unfold waysF; rw [if_neg (by omega), if_pos (by omega)]
        exact ⟨_, ⟨_, _, by rw [hw]; rfl, by rw [hw]; rfl⟩, H4.pick' [1] rfl rfl⟩
      · have c10p := of_decide_eq_false c10
        refine seq_ ?_
        refine region_ ?_
        refine wl_valE (v := .bool (decide (x.op = (31 : Int)))) rfl (rf_eql rfl rfl rfl rfl) rfl ?_
        refine wl_valE (v := .bool (decide (x.op = (31 : Int)))) rfl (rf_assign rfl) rfl ?_
        refine wl_nil ?_
        refine thn ?_
        refine cond_ (t := decide (x.op = (31 : Int))) rfl rfl (fun c15 => ?_) (fun c15 => ?_)
        · have c15p := of_decide_eq_true c15
          refine seq_ ?_
          refine region_ ?_
          refine wl_valE (v := .pointer (some ⟨b1, 1, none⟩)) rfl (rf_fieldAddr Try.underlying87 rfl ti2 rfl rfl) rfl ?_
          refine wl_valE (v := .int .i64 x.a) rfl (rf_load Try.underlying2 rfl rfl rfl ((H2.blk 0 rfl).cell rfl)) rfl ?_
          refine wl_valE (v := .int .i64 ((i : Nat) : Int)) rfl (rf_move rfl) rfl ?_
          refine wl_valE (v := .int .i64 ((i + 1 : Nat) : Int)) rfl (rf_add rfl rfl rfl rfl (IntWalk.i64_in _ (by omega))) rfl ?_
          refine wl_buildSliceH (enc := encI) H2 [x.a, ((i : Nat) : Int) + 1] encI_len Try.underlying65 ti3 rfl rfl rfl (.cons rfl rfl rfl rfl rfl rfl (.cons rfl rfl rfl rfl rfl rfl .nil)) ?_
          intro a5 w6 H6
          refine wl_valE (v := .slice a5 2 2) rfl (rf_assign rfl) rfl ?_
          refine wl_nil ?_
          refine thn ?_
          refine ret_ ?_
          refine blr (thr ?_)
          refine fin1 (v := .slice a5 2 2) Try.results34 rfl rfl ?_
          have hw : waysF ((i : Nat) : Int) x = [x.a, ((i : Nat) : Int) + 1] := by unfold waysF; rw [if_neg (by omega), if_neg (by omega), if_pos (by omega)]
          exact ⟨_, ⟨_, _, by rw [hw]; rfl, by rw [hw]; rfl⟩, H6.pick' [1] rfl rfl⟩
        · have c15p := of_decide_eq_false c15
          refine skip_ ?_
          refine bln ?_
          refine thn ?_
          refine seq_ ?_
          refine region_ ?_
          refine wl_valE (v := .int .i64 ((i : Nat) : Int)) rfl (rf_move rfl) rfl ?_
          refine wl_valE (v := .int .i64 ((i + 1 : Nat) : Int)) rfl (rf_add rfl rfl rfl rfl (IntWalk.i64_in _ (by omega))) rfl ?_
          refine wl_buildSliceH (enc := encI) H2 [((i : Nat) : Int) + 1] encI_len Try.underlying65 ti3 rfl rfl rfl (.cons rfl rfl rfl rfl rfl rfl .nil) ?_
          intro a7 w8 H8
          refine wl_valE (v := .slice a7 1 1) rfl (rf_assign rfl) rfl ?_
          refine wl_nil ?_
          refine thn ?_
          refine ret_ ?_
          refine fin1 (v := .slice a7 1 1) Try.results34 rfl rfl ?_
          have hw : waysF ((i : Nat) : Int) x = [((i : Nat) : Int) + 1] := by unfold waysF; rw [if_neg (by omega), if_neg (by omega), if_neg (by omega)]
          exact ⟨_, ⟨_, _, by rw [hw]; rfl, by rw [hw]; rfl⟩, H8.pick' [1] rfl rfl⟩
theorem next_tr (p : ProgR) (i : Nat) (x : InsR) (hx : p.cl[i]? = some x) (hi : i ≤ 256) (h : 0 ≤ x.op ∧ x.op < 37) : Tr Try.prog 39 [.agg #[.int .i64 p.args, .int .i64 p.reads, .int .i64 p.writes, .int .i64 p.locals, .slice p.code.a p.code.n p.code.c], .int .i64 ((i : Nat) : Int)] [rdH encIns 2 p.code.a p.code.n p.code.c p.cl] [] (fun v m => ∃ a c, v = .slice a (nextF ((i : Nat) : Int) x).length c ∧ m = [slH encI 1 3 a (nextF ((i : Nat) : Int) x).length c (nextF ((i : Nat) : Int) x)]) := by
  intro w0 S0 H0
  have hl := (rd_len (H0.rdR 0 Le.rfl)).1
  have hil := (List.getElem?_eq_some_iff.1 hx).1
  refine enterR Try.func39 rfl Try.ntmps39 rfl ?_
  intro g0
  refine seq_ ?_
  refine region_ ?_
  refine wl_boxH H0 (v := .agg #[.int .i64 p.args, .int .i64 p.reads, .int .i64 p.writes, .int .i64 p.locals, .slice p.code.a p.code.n p.code.c]) rfl rfl ?_
  intro b1 w2 H2
  refine wl_valE (v := .slice none 0 0) rfl (rf_assign rfl) rfl ?_
  refine wl_nil ?_
  refine thn ?_
  refine seq_ ?_
  refine region_ ?_
  refine wl_valE (v := .pointer (some ⟨b1, 4, none⟩)) rfl (rf_fieldAddr Try.underlying32 rfl ti30 rfl rfl) rfl ?_
  refine wl_valE (v := .slice p.code.a p.code.n p.code.c) rfl (rf_load Try.underlying30 rfl rfl rfl ((H2.blk 0 rfl).cell rfl)) rfl ?_
  refine wl_valE (v := .int .i64 ((i : Nat) : Int)) rfl (rf_move rfl) rfl ?_
  refine wl_valE (v := .pointer (some ⟨ab p.code.a, ao p.code.a + i * 2, none⟩)) rfl (rf_indexAddrH Try.underlying30 ti87 rfl rfl rfl rfl (by omega) (by omega) (H2.rdR 0 Le.rfl)) rfl ?_
  refine wl_valE (v := .agg #[.int .i64 x.op, .int .i64 x.a]) rfl (rf_loadAgg (cs := [.int .i64 x.op, .int .i64 x.a]) Try.underlying87 rfl ti87 rfl rfl (el_sub' (rd_el (H2.rdR 0 Le.rfl) hx) 0 2 rfl) rfl) rfl ?_
  refine wl_allocH H2 ti87 ?_
  intro b3 w4 H4
  refine wl_storeAggH H4 1 (o := 0) (cs := [.int .i64 x.op, .int .i64 x.a]) (A' := #[.int .i64 x.op, .int .i64 x.a]) rfl rfl ti87 rfl rfl rfl rfl rfl oneAll (leb rfl) rfl ?_
  intro w5 H5
  refine wl_nil ?_
  refine thn ?_
  refine seq_ ?_
  refine seq_ ?_
  refine region_ ?_
  refine wl_valE (v := .pointer (some ⟨b3, 0, none⟩)) rfl (rf_fieldAddr Try.underlying87 rfl ti3 rfl rfl) rfl ?_
  refine wl_valE (v := .int .i64 x.op) rfl (rf_load Try.underlying3 rfl rfl rfl ((H5.blk 1 rfl).cell rfl)) rfl ?_
  refine wl_tr H5 rfl [] (spell_tr x.op h) rfl .nil (rf_call Try.call40 rfl rfl) rfl ?_
  rintro _ w6 _ ⟨rfl, rfl⟩ H6
  refine wl_nil ?_
  refine thn ?_
  refine block_ ?_
  refine seq_ ?_
  refine seq_ ?_
  refine region_ ?_
  refine wl_valE (v := .bool (decide (x.op = 0))) rfl (rf_eqlStr rfl rfl rfl rfl) (congrArg Value.bool (decide_eq_decide.2 (spl_eq h (k := 0) rfl))) ?_
  refine wl_valE (v := .bool (decide (x.op = 0))) rfl (rf_assign rfl) rfl ?_
  refine wl_nil ?_
  refine thn ?_
  refine cond_ (t := decide (x.op = 0)) rfl rfl (fun c14 => ?_) (fun c14 => ?_)
  · have c14p := of_decide_eq_true c14
    refine skip_ ?_
    refine thn ?_
    refine condT' rfl rfl (t := decide (x.op = 0)) (c14) ?_
    refine seq_ ?_
    refine region_ ?_
    refine wl_valE (v := .slice none 0 0) rfl (rf_assign rfl) rfl ?_
    refine wl_nil ?_
    refine thn ?_
    refine ret_ ?_
    refine blr (thr ?_)
    refine fin1 (v := .slice none 0 0) Try.results39 rfl rfl ?_
    have hw : nextF ((i : Nat) : Int) x = [] := by unfold nextF; rw [if_pos (by omega)]
    exact ⟨_, ⟨none, 0, by rw [hw]; rfl, rfl⟩, by rw [hw]; exact (H6.addNil encI 1 3 (α := Int)).pick' [2] rfl rfl⟩
  · have c14p := of_decide_eq_false c14
    refine region_ ?_
    refine wl_valE (v := .bool (decide (x.op = 36))) rfl (rf_eqlStr rfl rfl rfl rfl) (congrArg Value.bool (decide_eq_decide.2 (spl_eq h (k := 36) rfl))) ?_
    refine wl_valE (v := .bool (decide (x.op = 36))) rfl (rf_assign rfl) rfl ?_
    refine wl_nil ?_
    refine thn ?_
    refine cond_ (t := decide (x.op = 36)) rfl rfl (fun c14 => ?_) (fun c14 => ?_)
    · have c14p := of_decide_eq_true c14
      refine seq_ ?_
      refine region_ ?_
      refine wl_valE (v := .slice none 0 0) rfl (rf_assign rfl) rfl ?_
      refine wl_nil ?_
      refine thn ?_
      refine ret_ ?_
      refine blr (thr ?_)
      refine fin1 (v := .slice none 0 0) Try.results39 rfl rfl ?_
      have hw : nextF ((i : Nat) : Int) x = [] := by unfold nextF; rw [if_pos (by omega)]
      exact ⟨_, ⟨none, 0, by rw [hw]; rfl, rfl⟩, by rw [hw]; exact (H6.addNil encI 1 3 (α := Int)).pick' [2] rfl rfl⟩
    · have c14p := of_decide_eq_false c14
      refine seq_ ?_
      refine region_ ?_
      refine wl_valE (v := .bool (decide (x.op = 30))) rfl (rf_eqlStr rfl rfl rfl rfl) (congrArg Value.bool (decide_eq_decide.2 (spl_eq h (k := 30) rfl))) ?_
      refine wl_valE (v := .bool (decide (x.op = 30))) rfl (rf_assign rfl) rfl ?_
      refine wl_nil ?_
      refine thn ?_
      refine cond_ (t := decide (x.op = 30)) rfl rfl (fun c17 => ?_) (fun c17 => ?_)
      · have c17p := of_decide_eq_true c17
        refine seq_ ?_
        refine region_ ?_
        refine wl_valE (v := .pointer (some ⟨b3, 1, none⟩)) rfl (rf_fieldAddr Try.underlying87 rfl ti2 rfl rfl) rfl ?_
        refine wl_valE (v := .int .i64 x.a) rfl (rf_load Try.underlying2 rfl rfl rfl ((H6.blk 1 rfl).cell rfl)) rfl ?_
        refine wl_buildSliceH (enc := encI) H6 [x.a] encI_len Try.underlying65 ti3 rfl rfl rfl (.cons rfl rfl rfl rfl rfl rfl .nil) ?_
        intro a7 w8 H8
        try dsimp only [putsH, setH, List.cons_append, List.nil_append] at H8
        refine wl_valE (v := .slice a7 1 1) rfl (rf_assign rfl) rfl ?_
        refine wl_nil ?_
        refine thn ?_
        refine ret_ ?_
        refine blr (thr ?_)
        refine fin1 (v := .slice a7 1 1) Try.results39 rfl rfl ?_
        have hw : nextF ((i : Nat) : Int) x = [x.a] := by unfold nextF; rw [if_neg (by omega), if_pos (by omega)]
        exact ⟨_, ⟨_, _, by rw [hw]; rfl, by rw [hw]; rfl⟩, H8.pick' [2] rfl rfl⟩
      · have c17p := of_decide_eq_false c17
        refine seq_ ?_
        refine region_ ?_
        refine wl_valE (v := .bool (decide (x.op = 31))) rfl (rf_eqlStr rfl rfl rfl rfl) (congrArg Value.bool (decide_eq_decide.2 (spl_eq h (k := 31) rfl))) ?_
        refine wl_valE (v := .bool (decide (x.op = 31))) rfl (rf_assign rfl) rfl ?_
        refine wl_nil ?_
        refine thn ?_
        refine cond_ (t := decide (x.op = 31)) rfl rfl (fun c22 => ?_) (fun c22 => ?_)
        · have c22p := of_decide_eq_true c22
          refine seq_ ?_
          refine region_ ?_
          refine wl_valE (v := .int .i64 ((i : Nat) : Int)) rfl (rf_move rfl) rfl ?_
          refine wl_valE (v := .int .i64 ((i + 1 : Nat) : Int)) rfl (rf_add rfl rfl rfl rfl (IntWalk.i64_in _ (by omega))) rfl ?_
          refine wl_valE (v := .pointer (some ⟨b3, 1, none⟩)) rfl (rf_fieldAddr Try.underlying87 rfl ti2 rfl rfl) rfl ?_
          refine wl_valE (v := .int .i64 x.a) rfl (rf_load Try.underlying2 rfl rfl rfl ((H6.blk 1 rfl).cell rfl)) rfl ?_
          refine wl_buildSliceH (enc := encI) H6 [((i : Nat) : Int) + 1, x.a] encI_len Try.underlying65 ti3 rfl rfl rfl (.cons rfl rfl rfl rfl rfl rfl (.cons rfl rfl rfl rfl rfl rfl .nil)) ?_
          intro a9 w10 H10
          try dsimp only [putsH, setH, List.cons_append, List.nil_append] at H10
          refine wl_valE (v := .slice a9 2 2) rfl (rf_assign rfl) rfl ?_
          refine wl_nil ?_
          refine thn ?_
          refine ret_ ?_
          refine blr (thr ?_)
          refine fin1 (v := .slice a9 2 2) Try.results39 rfl rfl ?_
          have hw : nextF ((i : Nat) : Int) x = [((i : Nat) : Int) + 1, x.a] := by unfold nextF; rw [if_neg (by omega), if_neg (by omega), if_pos (by omega)]
          exact ⟨_, ⟨_, _, by rw [hw]; rfl, by rw [hw]; rfl⟩, H10.pick' [2] rfl rfl⟩
        · have c22p := of_decide_eq_false c22
          refine skip_ ?_
          refine bln ?_
          refine thn ?_
          refine seq_ ?_
          refine region_ ?_
          refine wl_valE (v := .int .i64 ((i : Nat) : Int)) rfl (rf_move rfl) rfl ?_
          refine wl_valE (v := .int .i64 ((i + 1 : Nat) : Int)) rfl (rf_add rfl rfl rfl rfl (IntWalk.i64_in _ (by omega))) rfl ?_
          refine wl_buildSliceH (enc := encI) H6 [((i : Nat) : Int) + 1] encI_len Try.underlying65 ti3 rfl rfl rfl (.cons rfl rfl rfl rfl rfl rfl .nil) ?_
          intro a11 w12 H12
          try dsimp only [putsH, setH, List.cons_append, List.nil_append] at H12
          refine wl_valE (v := .slice a11 1 1) rfl (rf_assign rfl) rfl ?_
          refine wl_nil ?_
          refine thn ?_
          refine ret_ ?_
          refine fin1 (v := .slice a11 1 1) Try.results39 rfl rfl ?_
          have hw : nextF ((i : Nat) : Int) x = [((i : Nat) : Int) + 1] := by unfold nextF; rw [if_neg (by omega), if_neg (by omega), if_neg (by omega)]
          exact ⟨_, ⟨_, _, by rw [hw]; rfl, by rw [hw]; rfl⟩, H12.pick' [2] rfl rfl⟩
theorem isName_tr (s : ByteArray) : Tr Try.prog 24 [.string s] [] [] (fun v m => v = .bool (decide (nameP s)) ∧ m = []) := by
  intro w0 S0 H0
  refine enterR Try.func24 rfl Try.ntmps24 rfl ?_
  intro g0
  refine seq_ ?_
  refine region_ ?_
  refine wl_valE (v := .bool false) rfl (rf_assign rfl) rfl ?_
  refine wl_nil ?_
  refine thn ?_
  refine seq_ ?_
  refine seq_ ?_
  refine region_ ?_
  refine wl_valE (v := .string s) rfl (rf_move rfl) rfl ?_
  refine wl_valE (v := .bool (decide (((s.size : Nat) : Int) = 0))) rfl (rf_eqlStr rfl rfl rfl rfl) (congrArg Value.bool (decide_eq_decide.2 ba_nil)) ?_
  refine wl_valE (v := .bool (decide (((s.size : Nat) : Int) = 0))) rfl (rf_move rfl) rfl ?_
  refine wl_split (decide (((s.size : Nat) : Int) = 0)) (fun u1_2 => ?_) (fun u1_2 => ?_)
  · have u1_2p := of_decide_eq_true u1_2
    refine wl_guardF rfl rfl rfl u1_2 ?_
    refine wl_guardF rfl rfl rfl u1_2 ?_
    refine wl_guardF rfl rfl rfl u1_2 ?_
    refine wl_valE (v := .bool true) rfl (rf_pickT rfl rfl rfl u1_2) rfl ?_
    refine wl_nil ?_
    refine thn ?_
    refine condT rfl rfl ?_
    refine seq_ ?_
    refine region_ ?_
    refine wl_valE (v := .bool false) rfl (rf_assign rfl) rfl ?_
    refine wl_nil ?_
    refine thn ?_
    refine ret_ ?_
    refine thr ?_
    refine fin1 (v := .bool false) Try.results24 rfl rfl ?_
    exact ⟨_, ⟨congrArg Value.bool (by first | exact (decide_eq_false (name_bad (by omega) hcc (by unfold okC; omega))).symm | exact (decide_eq_false (fun hn => by have := hn.1; omega)).symm | exact (decide_eq_true ⟨by omega, fun j h => hno j h (by omega)⟩).symm), rfl⟩, H0.pick' [] rfl rfl⟩
  · have u1_2p := of_decide_eq_false u1_2
    refine wl_guardT rfl rfl rfl u1_2 ?_
    refine wl_valE (v := .string s) rfl (rf_move rfl) rfl ?_
    refine wl_guardT rfl rfl rfl u1_2 ?_
    refine wl_valE (v := .int .i64 ((s.size : Nat) : Int)) rfl (rf_len_string Try.underlying9 rfl rfl) rfl ?_
    refine wl_guardT rfl rfl rfl u1_2 ?_
    refine wl_valE (v := .bool (decide ((31 : Int) < ((s.size : Nat) : Int)))) rfl (rf_gtr rfl rfl rfl rfl) rfl ?_
    refine wl_valE (v := .bool (decide ((31 : Int) < ((s.size : Nat) : Int)))) rfl (rf_pickF rfl rfl rfl u1_2) rfl ?_
    refine wl_nil ?_
    refine thn ?_
    refine cond_ (t := decide ((31 : Int) < ((s.size : Nat) : Int))) rfl rfl (fun c12 => ?_) (fun c12 => ?_)
    · have c12p := of_decide_eq_true c12
      refine seq_ ?_
      refine region_ ?_
      refine wl_valE (v := .bool false) rfl (rf_assign rfl) rfl ?_
      refine wl_nil ?_
      refine thn ?_
      refine ret_ ?_
      refine thr ?_
      refine fin1 (v := .bool false) Try.results24 rfl rfl ?_
      exact ⟨_, ⟨congrArg Value.bool (by first | exact (decide_eq_false (name_bad (by omega) hcc (by unfold okC; omega))).symm | exact (decide_eq_false (fun hn => by have := hn.1; omega)).symm | exact (decide_eq_true ⟨by omega, fun j h => hno j h (by omega)⟩).symm), rfl⟩, H0.pick' [] rfl rfl⟩
    · have c12p := of_decide_eq_false c12
      refine skip_ ?_
      refine thn ?_
      refine seq_ ?_
      refine seq_ ?_
      refine region_ ?_
      refine wl_valE (v := .int .i64 (0 : Int)) rfl (rf_assign rfl) rfl ?_
      refine wl_nil ?_
      refine thn ?_
      refine block_ ?_
      refine loop_ (fun qk_ qf_ qw_ => ∃ (g : Nat → Value) (i : Nat), qf_ = upds g [(0, .string s), (3, .int .i64 ((i : Nat) : Int))] ∧ qk_ = s.size - i ∧ (i ≤ s.size) ∧ (∀ j, (h : j < s.size) → j < i → okC j (((s[j]'h).toNat : Nat) : Int)) ∧ St w0 S0 [] qw_ []) (s.size - 0) ?_ ?_
      · refine ⟨_, 0, upds_self ⟨rfl, rfl, trivial⟩, rfl, Nat.zero_le _, fun j _ h => by omega, H0.pick' [] rfl rfl⟩
      · rintro lk0 _ wl0 ⟨gl0, i, rfl, hlk0, hi, hno, HL0⟩
        refine seq_ ?_
        refine seq_ ?_
        refine region_ ?_
        refine wl_valE (v := .int .i64 ((i : Nat) : Int)) rfl (rf_move rfl) rfl ?_
        refine wl_valE (v := .string s) rfl (rf_move rfl) rfl ?_
        refine wl_valE (v := .int .i64 ((s.size : Nat) : Int)) rfl (rf_len_string Try.underlying9 rfl rfl) rfl ?_
        refine wl_valE (v := .bool (decide (((i : Nat) : Int) < ((s.size : Nat) : Int)))) rfl (rf_lss rfl rfl rfl rfl) rfl ?_
        refine wl_nil ?_
        refine thn ?_
        refine cond_ (t := decide (((i : Nat) : Int) < ((s.size : Nat) : Int))) rfl rfl (fun c16 => ?_) (fun c16 => ?_)
        · have c16p := of_decide_eq_true c16
          refine skip_ ?_
          refine thn ?_
          refine seq_ ?_
          refine block_ ?_
          refine seq_ ?_
          obtain ⟨cc, hcc⟩ : ∃ cc : Int, (((s[i]'(by omega)).toNat : Nat) : Int) = cc := ⟨_, rfl⟩
          refine region_ ?_
          refine wl_valE (v := .string s) rfl (rf_move rfl) rfl ?_
          refine wl_valE (v := .int .i64 ((i : Nat) : Int)) rfl (rf_move rfl) rfl ?_
          refine wl_valE (v := .int .u8 cc) rfl (rf_indexS Try.underlying9 rfl rfl rfl rfl (by omega) hcc) rfl ?_
          refine wl_valE (v := .int .u8 cc) rfl (rf_assign rfl) rfl ?_
          refine wl_nil ?_
          refine thn ?_
          refine seq_ ?_
          refine region_ ?_
          refine wl_valE (v := .int .u8 cc) rfl (rf_move rfl) rfl ?_
          refine wl_valE (v := .bool (decide ((97 : Int) ≤ cc))) rfl (rf_geq rfl rfl rfl rfl) rfl ?_
          refine wl_valE (v := .bool (decide ((97 : Int) ≤ cc))) rfl (rf_move rfl) rfl ?_
          refine wl_split (decide ((97 : Int) ≤ cc)) (fun u7_2 => ?_) (fun u7_2 => ?_)
          · have u7_2p := of_decide_eq_true u7_2
            refine wl_guardT rfl rfl rfl u7_2 ?_
            refine wl_valE (v := .int .u8 cc) rfl (rf_move rfl) rfl ?_
            refine wl_guardT rfl rfl rfl u7_2 ?_
            refine wl_valE (v := .bool (decide (cc ≤ (122 : Int)))) rfl (rf_leq rfl rfl rfl rfl) rfl ?_
            refine wl_valE (v := .bool (decide (cc ≤ (122 : Int)))) rfl (rf_pickT rfl rfl rfl u7_2) rfl ?_
            refine wl_valE (v := .bool (decide (cc ≤ (122 : Int)))) rfl (rf_move rfl) rfl ?_
            refine wl_split (decide (cc ≤ (122 : Int))) (fun u7_6 => ?_) (fun u7_6 => ?_)
            · have u7_6p := of_decide_eq_true u7_6
              refine wl_guardF rfl rfl rfl u7_6 ?_
              refine wl_guardF rfl rfl rfl u7_6 ?_
              refine wl_guardF rfl rfl rfl u7_6 ?_
              refine wl_guardS rfl rfl rfl ?_
              refine wl_guardS rfl rfl rfl ?_
              refine wl_guardF rfl rfl rfl u7_6 ?_
              refine wl_valE (v := .bool true) rfl (rf_pickT rfl rfl rfl u7_6) rfl ?_
              refine wl_valE (v := .bool true) rfl (rf_assign rfl) rfl ?_
              refine wl_nil ?_
              refine thn ?_
              refine seq_ ?_
              refine region_ ?_
              refine wl_valE (v := .bool true) rfl (rf_move rfl) rfl ?_
              refine wl_valE (v := .bool false) rfl (rf_not rfl rfl) rfl ?_
              refine wl_valE (v := .bool false) rfl (rf_move rfl) rfl ?_
              refine wl_guardF rfl rfl rfl rfl ?_
              refine wl_guardF rfl rfl rfl rfl ?_
              refine wl_guardF rfl rfl rfl rfl ?_
              refine wl_guardS rfl rfl rfl ?_
              refine wl_guardS rfl rfl rfl ?_
              refine wl_guardS rfl rfl rfl ?_
              refine wl_guardS rfl rfl rfl ?_
              refine wl_guardS rfl rfl rfl ?_
              refine wl_guardS rfl rfl rfl ?_
              refine wl_guardS rfl rfl rfl ?_
              refine wl_guardS rfl rfl rfl ?_
              refine wl_guardS rfl rfl rfl ?_
              refine wl_guardS rfl rfl rfl ?_
              refine wl_guardF rfl rfl rfl rfl ?_
              refine wl_valE (v := .bool false) rfl (rf_pickF rfl rfl rfl rfl) rfl ?_
              refine wl_nil ?_
              refine thn ?_
              refine condF rfl rfl ?_
              refine skip_ ?_
              refine bln ?_
              refine thn ?_
              refine region_ ?_
              refine wl_valE (v := .int .i64 ((i : Nat) : Int)) rfl (rf_move rfl) rfl ?_
              refine wl_valE (v := .int .i64 ((i + 1 : Nat) : Int)) rfl (rf_add rfl rfl rfl rfl (IntWalk.i64_in _ (by omega))) rfl ?_
              refine wl_valE (v := .int .i64 ((i + 1 : Nat) : Int)) rfl (rf_assign rfl) rfl ?_
              refine wl_nil ?_
              refine thn ?_
              refine ⟨s.size - (i + 1), _, rfl, (by omega), _, i + 1, upds_self ⟨rfl, rfl, trivial⟩, rfl, by omega, fun j h h2 => by
                rcases Nat.lt_or_eq_of_le (Nat.le_of_lt_succ h2) with h3 | h3
                · exact hno j h h3
                · subst h3; rw [hcc]; unfold okC; omega, HL0.pick' [] rfl rfl⟩
            · have u7_6p := of_decide_eq_false u7_6
              refine wl_guardT rfl rfl rfl u7_6 ?_
              refine wl_valE (v := .int .u8 cc) rfl (rf_move rfl) rfl ?_
              refine wl_guardT rfl rfl rfl u7_6 ?_
              refine wl_valE (v := .bool (decide ((65 : Int) ≤ cc))) rfl (rf_geq rfl rfl rfl rfl) rfl ?_
              refine wl_guardT rfl rfl rfl u7_6 ?_
              refine wl_valE (v := .bool (decide ((65 : Int) ≤ cc))) rfl (rf_move rfl) rfl ?_
              refine wl_split (decide ((65 : Int) ≤ cc)) (fun u7_9 => ?_) (fun u7_9 => ?_)
              · have u7_9p := of_decide_eq_true u7_9
                refine wl_guardT rfl rfl rfl u7_9 ?_
                refine wl_valE (v := .int .u8 cc) rfl (rf_move rfl) rfl ?_
                refine wl_guardT rfl rfl rfl u7_9 ?_
                refine wl_valE (v := .bool (decide (cc ≤ (90 : Int)))) rfl (rf_leq rfl rfl rfl rfl) rfl ?_
                refine wl_guardT rfl rfl rfl u7_6 ?_
                refine wl_valE (v := .bool (decide (cc ≤ (90 : Int)))) rfl (rf_pickT rfl rfl rfl u7_9) rfl ?_
                refine wl_valE (v := .bool (decide (cc ≤ (90 : Int)))) rfl (rf_pickF rfl rfl rfl u7_6) rfl ?_
                refine wl_valE (v := .bool (decide (cc ≤ (90 : Int)))) rfl (rf_assign rfl) rfl ?_
                refine wl_nil ?_
                refine thn ?_
                refine seq_ ?_
                refine region_ ?_
                refine wl_valE (v := .bool (decide (cc ≤ (90 : Int)))) rfl (rf_move rfl) rfl ?_
                refine wl_valE (v := .bool (!(decide (cc ≤ (90 : Int))))) rfl (rf_not rfl rfl) rfl ?_
                refine wl_valE (v := .bool (!(decide (cc ≤ (90 : Int))))) rfl (rf_move rfl) rfl ?_
                refine wl_split (!(decide (cc ≤ (90 : Int)))) (fun u8_2 => ?_) (fun u8_2 => ?_)
                · have u8_2p := of_decide_eq_false (bnotT u8_2)
                  refine wl_guardT rfl rfl rfl u8_2 ?_
                  refine wl_valE (v := .int .i64 ((i : Nat) : Int)) rfl (rf_move rfl) rfl ?_
                  refine wl_guardT rfl rfl rfl u8_2 ?_
                  refine wl_valE (v := .bool (decide (((i : Nat) : Int) = (0 : Int)))) rfl (rf_eql rfl rfl rfl rfl) rfl ?_
                  refine wl_guardT rfl rfl rfl u8_2 ?_
                  refine wl_valE (v := .bool (decide (((i : Nat) : Int) = (0 : Int)))) rfl (rf_move rfl) rfl ?_
                  refine wl_split (decide (((i : Nat) : Int) = (0 : Int))) (fun u8_5 => ?_) (fun u8_5 => ?_)
                  · have u8_5p := of_decide_eq_true u8_5
                    refine wl_guardF rfl rfl rfl u8_5 ?_
                    refine wl_guardF rfl rfl rfl u8_5 ?_
                    refine wl_guardF rfl rfl rfl u8_5 ?_
                    refine wl_guardS rfl rfl rfl ?_
                    refine wl_guardS rfl rfl rfl ?_
                    refine wl_guardS rfl rfl rfl ?_
                    refine wl_guardS rfl rfl rfl ?_
                    refine wl_guardS rfl rfl rfl ?_
                    refine wl_guardS rfl rfl rfl ?_
                    refine wl_guardF rfl rfl rfl u8_5 ?_
                    refine wl_guardT rfl rfl rfl u8_2 ?_
                    refine wl_valE (v := .bool true) rfl (rf_pickT rfl rfl rfl u8_5) rfl ?_
                    refine wl_valE (v := .bool true) rfl (rf_pickT rfl rfl rfl u8_2) rfl ?_
                    refine wl_nil ?_
                    refine thn ?_
                    refine condT rfl rfl ?_
                    refine seq_ ?_
                    refine region_ ?_
                    refine wl_valE (v := .bool false) rfl (rf_assign rfl) rfl ?_
                    refine wl_nil ?_
                    refine thn ?_
                    refine ret_ ?_
                    refine blr (thr (thr (blr (thr ?_))))
                    refine fin1 (v := .bool false) Try.results24 rfl rfl ?_
                    exact ⟨_, ⟨congrArg Value.bool (by first | exact (decide_eq_false (name_bad (by omega) hcc (by unfold okC; omega))).symm | exact (decide_eq_false (fun hn => by have := hn.1; omega)).symm | exact (decide_eq_true ⟨by omega, fun j h => hno j h (by omega)⟩).symm), rfl⟩, HL0.pick' [] rfl rfl⟩
                  · have u8_5p := of_decide_eq_false u8_5
                    refine wl_guardT rfl rfl rfl u8_5 ?_
                    refine wl_valE (v := .int .u8 cc) rfl (rf_move rfl) rfl ?_
                    refine wl_guardT rfl rfl rfl u8_5 ?_
                    refine wl_valE (v := .bool (decide (cc ≠ (95 : Int)))) rfl (rf_neq rfl rfl rfl rfl) rfl ?_
                    refine wl_guardT rfl rfl rfl u8_5 ?_
                    refine wl_valE (v := .bool (decide (cc ≠ (95 : Int)))) rfl (rf_move rfl) rfl ?_
                    refine wl_split (decide (cc ≠ (95 : Int))) (fun u8_8 => ?_) (fun u8_8 => ?_)
                    · have u8_8p := of_decide_eq_true u8_8
                      refine wl_guardT rfl rfl rfl u8_8 ?_
                      refine wl_valE (v := .int .u8 cc) rfl (rf_move rfl) rfl ?_
                      refine wl_guardT rfl rfl rfl u8_8 ?_
                      refine wl_valE (v := .bool (decide (cc < (48 : Int)))) rfl (rf_lss rfl rfl rfl rfl) rfl ?_
                      refine wl_guardT rfl rfl rfl u8_8 ?_
                      refine wl_valE (v := .bool (decide (cc < (48 : Int)))) rfl (rf_move rfl) rfl ?_
                      refine wl_split (decide (cc < (48 : Int))) (fun u8_11 => ?_) (fun u8_11 => ?_)
                      · have u8_11p := of_decide_eq_true u8_11
                        refine wl_guardF rfl rfl rfl u8_11 ?_
                        refine wl_guardF rfl rfl rfl u8_11 ?_
                        refine wl_guardT rfl rfl rfl u8_8 ?_
                        refine wl_valE (v := .bool true) rfl (rf_pickT rfl rfl rfl u8_11) rfl ?_
                        refine wl_guardT rfl rfl rfl u8_5 ?_
                        refine wl_valE (v := .bool true) rfl (rf_pickT rfl rfl rfl u8_8) rfl ?_
                        refine wl_guardT rfl rfl rfl u8_2 ?_
                        refine wl_valE (v := .bool true) rfl (rf_pickF rfl rfl rfl u8_5) rfl ?_
                        refine wl_valE (v := .bool true) rfl (rf_pickT rfl rfl rfl u8_2) rfl ?_
                        refine wl_nil ?_
                        refine thn ?_
                        refine condT rfl rfl ?_
                        refine seq_ ?_
                        refine region_ ?_
                        refine wl_valE (v := .bool false) rfl (rf_assign rfl) rfl ?_
                        refine wl_nil ?_
                        refine thn ?_
                        refine ret_ ?_
                        refine blr (thr (thr (blr (thr ?_))))
                        refine fin1 (v := .bool false) Try.results24 rfl rfl ?_
                        exact ⟨_, ⟨congrArg Value.bool (by first | exact (decide_eq_false (name_bad (by omega) hcc (by unfold okC; omega))).symm | exact (decide_eq_false (fun hn => by have := hn.1; omega)).symm | exact (decide_eq_true ⟨by omega, fun j h => hno j h (by omega)⟩).symm), rfl⟩, HL0.pick' [] rfl rfl⟩
                      · have u8_11p := of_decide_eq_false u8_11
                        refine wl_guardT rfl rfl rfl u8_11 ?_
                        refine wl_valE (v := .int .u8 cc) rfl (rf_move rfl) rfl ?_
                        refine wl_guardT rfl rfl rfl u8_11 ?_
                        refine wl_valE (v := .bool (decide ((57 : Int) < cc))) rfl (rf_gtr rfl rfl rfl rfl) rfl ?_
                        refine wl_guardT rfl rfl rfl u8_8 ?_
                        refine wl_valE (v := .bool (decide ((57 : Int) < cc))) rfl (rf_pickF rfl rfl rfl u8_11) rfl ?_
                        refine wl_guardT rfl rfl rfl u8_5 ?_
                        refine wl_valE (v := .bool (decide ((57 : Int) < cc))) rfl (rf_pickT rfl rfl rfl u8_8) rfl ?_
                        refine wl_guardT rfl rfl rfl u8_2 ?_
                        refine wl_valE (v := .bool (decide ((57 : Int) < cc))) rfl (rf_pickF rfl rfl rfl u8_5) rfl ?_
                        refine wl_valE (v := .bool (decide ((57 : Int) < cc))) rfl (rf_pickT rfl rfl rfl u8_2) rfl ?_
                        refine wl_nil ?_
                        refine thn ?_
                        refine cond_ (t := decide ((57 : Int) < cc)) rfl rfl (fun c53 => ?_) (fun c53 => ?_)
                        · have c53p := of_decide_eq_true c53
                          refine seq_ ?_
                          refine region_ ?_
                          refine wl_valE (v := .bool false) rfl (rf_assign rfl) rfl ?_
                          refine wl_nil ?_
                          refine thn ?_
                          refine ret_ ?_
                          refine blr (thr (thr (blr (thr ?_))))
                          refine fin1 (v := .bool false) Try.results24 rfl rfl ?_
                          exact ⟨_, ⟨congrArg Value.bool (by first | exact (decide_eq_false (name_bad (by omega) hcc (by unfold okC; omega))).symm | exact (decide_eq_false (fun hn => by have := hn.1; omega)).symm | exact (decide_eq_true ⟨by omega, fun j h => hno j h (by omega)⟩).symm), rfl⟩, HL0.pick' [] rfl rfl⟩
                        · have c53p := of_decide_eq_false c53
                          refine skip_ ?_
                          refine bln ?_
                          refine thn ?_
                          refine region_ ?_
                          refine wl_valE (v := .int .i64 ((i : Nat) : Int)) rfl (rf_move rfl) rfl ?_
                          refine wl_valE (v := .int .i64 ((i + 1 : Nat) : Int)) rfl (rf_add rfl rfl rfl rfl (IntWalk.i64_in _ (by omega))) rfl ?_
                          refine wl_valE (v := .int .i64 ((i + 1 : Nat) : Int)) rfl (rf_assign rfl) rfl ?_
                          refine wl_nil ?_
                          refine thn ?_
                          refine ⟨s.size - (i + 1), _, rfl, (by omega), _, i + 1, upds_self ⟨rfl, rfl, trivial⟩, rfl, by omega, fun j h h2 => by
                            rcases Nat.lt_or_eq_of_le (Nat.le_of_lt_succ h2) with h3 | h3
                            · exact hno j h h3
                            · subst h3; rw [hcc]; unfold okC; omega, HL0.pick' [] rfl rfl⟩
                    · have u8_8p := of_decide_eq_false u8_8
                      refine wl_guardF rfl rfl rfl u8_8 ?_
                      refine wl_guardF rfl rfl rfl u8_8 ?_
                      refine wl_guardF rfl rfl rfl u8_8 ?_
                      refine wl_guardS rfl rfl rfl ?_
                      refine wl_guardS rfl rfl rfl ?_
                      refine wl_guardF rfl rfl rfl u8_8 ?_
                      refine wl_guardT rfl rfl rfl u8_5 ?_
                      refine wl_valE (v := .bool false) rfl (rf_pickF rfl rfl rfl u8_8) rfl ?_
                      refine wl_guardT rfl rfl rfl u8_2 ?_
                      refine wl_valE (v := .bool false) rfl (rf_pickF rfl rfl rfl u8_5) rfl ?_
                      refine wl_valE (v := .bool false) rfl (rf_pickT rfl rfl rfl u8_2) rfl ?_
                      refine wl_nil ?_
                      refine thn ?_
                      refine condF rfl rfl ?_
                      refine skip_ ?_
                      refine bln ?_
                      refine thn ?_
                      refine region_ ?_
                      refine wl_valE (v := .int .i64 ((i : Nat) : Int)) rfl (rf_move rfl) rfl ?_
                      refine wl_valE (v := .int .i64 ((i + 1 : Nat) : Int)) rfl (rf_add rfl rfl rfl rfl (IntWalk.i64_in _ (by omega))) rfl ?_
                      refine wl_valE (v := .int .i64 ((i + 1 : Nat) : Int)) rfl (rf_assign rfl) rfl ?_
                      refine wl_nil ?_
                      refine thn ?_
                      refine ⟨s.size - (i + 1), _, rfl, (by omega), _, i + 1, upds_self ⟨rfl, rfl, trivial⟩, rfl, by omega, fun j h h2 => by
                        rcases Nat.lt_or_eq_of_le (Nat.le_of_lt_succ h2) with h3 | h3
                        · exact hno j h h3
                        · subst h3; rw [hcc]; unfold okC; omega, HL0.pick' [] rfl rfl⟩
                · have u8_2p := of_decide_eq_true (bnotF u8_2)
                  refine wl_guardF rfl rfl rfl u8_2 ?_
                  refine wl_guardF rfl rfl rfl u8_2 ?_
                  refine wl_guardF rfl rfl rfl u8_2 ?_
                  refine wl_guardS rfl rfl rfl ?_
                  refine wl_guardS rfl rfl rfl ?_
                  refine wl_guardS rfl rfl rfl ?_
                  refine wl_guardS rfl rfl rfl ?_
                  refine wl_guardS rfl rfl rfl ?_
                  refine wl_guardS rfl rfl rfl ?_
                  refine wl_guardS rfl rfl rfl ?_
                  refine wl_guardS rfl rfl rfl ?_
                  refine wl_guardS rfl rfl rfl ?_
                  refine wl_guardS rfl rfl rfl ?_
                  refine wl_guardF rfl rfl rfl u8_2 ?_
                  refine wl_valE (v := .bool false) rfl (rf_pickF rfl rfl rfl u8_2) rfl ?_
                  refine wl_nil ?_
                  refine thn ?_
                  refine condF rfl rfl ?_
                  refine skip_ ?_
                  refine bln ?_
                  refine thn ?_
                  refine region_ ?_
                  refine wl_valE (v := .int .i64 ((i : Nat) : Int)) rfl (rf_move rfl) rfl ?_
                  refine wl_valE (v := .int .i64 ((i + 1 : Nat) : Int)) rfl (rf_add rfl rfl rfl rfl (IntWalk.i64_in _ (by omega))) rfl ?_
                  refine wl_valE (v := .int .i64 ((i + 1 : Nat) : Int)) rfl (rf_assign rfl) rfl ?_
                  refine wl_nil ?_
                  refine thn ?_
                  refine ⟨s.size - (i + 1), _, rfl, (by omega), _, i + 1, upds_self ⟨rfl, rfl, trivial⟩, rfl, by omega, fun j h h2 => by
                    rcases Nat.lt_or_eq_of_le (Nat.le_of_lt_succ h2) with h3 | h3
                    · exact hno j h h3
                    · subst h3; rw [hcc]; unfold okC; omega, HL0.pick' [] rfl rfl⟩
              · have u7_9p := of_decide_eq_false u7_9
                refine wl_guardF rfl rfl rfl u7_9 ?_
                refine wl_guardF rfl rfl rfl u7_9 ?_
                refine wl_guardT rfl rfl rfl u7_6 ?_
                refine wl_valE (v := .bool false) rfl (rf_pickF rfl rfl rfl u7_9) rfl ?_
                refine wl_valE (v := .bool false) rfl (rf_pickF rfl rfl rfl u7_6) rfl ?_
                refine wl_valE (v := .bool false) rfl (rf_assign rfl) rfl ?_
                refine wl_nil ?_
                refine thn ?_
                refine seq_ ?_
                refine region_ ?_
                refine wl_valE (v := .bool false) rfl (rf_move rfl) rfl ?_
                refine wl_valE (v := .bool true) rfl (rf_not rfl rfl) rfl ?_
                refine wl_valE (v := .bool true) rfl (rf_move rfl) rfl ?_
                refine wl_guardT rfl rfl rfl rfl ?_
                refine wl_valE (v := .int .i64 ((i : Nat) : Int)) rfl (rf_move rfl) rfl ?_
                refine wl_guardT rfl rfl rfl rfl ?_
                refine wl_valE (v := .bool (decide (((i : Nat) : Int) = (0 : Int)))) rfl (rf_eql rfl rfl rfl rfl) rfl ?_
                refine wl_guardT rfl rfl rfl rfl ?_
                refine wl_valE (v := .bool (decide (((i : Nat) : Int) = (0 : Int)))) rfl (rf_move rfl) rfl ?_
                refine wl_split (decide (((i : Nat) : Int) = (0 : Int))) (fun u8_5 => ?_) (fun u8_5 => ?_)
                · have u8_5p := of_decide_eq_true u8_5
                  refine wl_guardF rfl rfl rfl u8_5 ?_
                  refine wl_guardF rfl rfl rfl u8_5 ?_
                  refine wl_guardF rfl rfl rfl u8_5 ?_
                  refine wl_guardS rfl rfl rfl ?_
                  refine wl_guardS rfl rfl rfl ?_
                  refine wl_guardS rfl rfl rfl ?_
                  refine wl_guardS rfl rfl rfl ?_
                  refine wl_guardS rfl rfl rfl ?_
                  refine wl_guardS rfl rfl rfl ?_
                  refine wl_guardF rfl rfl rfl u8_5 ?_
                  refine wl_guardT rfl rfl rfl rfl ?_
                  refine wl_valE (v := .bool true) rfl (rf_pickT rfl rfl rfl u8_5) rfl ?_
                  refine wl_valE (v := .bool true) rfl (rf_pickT rfl rfl rfl rfl) rfl ?_
                  refine wl_nil ?_
                  refine thn ?_
                  refine condT rfl rfl ?_
                  refine seq_ ?_
                  refine region_ ?_
                  refine wl_valE (v := .bool false) rfl (rf_assign rfl) rfl ?_
                  refine wl_nil ?_
                  refine thn ?_
                  refine ret_ ?_
                  refine blr (thr (thr (blr (thr ?_))))
                  refine fin1 (v := .bool false) Try.results24 rfl rfl ?_
                  exact ⟨_, ⟨congrArg Value.bool (by first | exact (decide_eq_false (name_bad (by omega) hcc (by unfold okC; omega))).symm | exact (decide_eq_false (fun hn => by have := hn.1; omega)).symm | exact (decide_eq_true ⟨by omega, fun j h => hno j h (by omega)⟩).symm), rfl⟩, HL0.pick' [] rfl rfl⟩
                · have u8_5p := of_decide_eq_false u8_5
                  refine wl_guardT rfl rfl rfl u8_5 ?_
                  refine wl_valE (v := .int .u8 cc) rfl (rf_move rfl) rfl ?_
                  refine wl_guardT rfl rfl rfl u8_5 ?_
                  refine wl_valE (v := .bool (decide (cc ≠ (95 : Int)))) rfl (rf_neq rfl rfl rfl rfl) rfl ?_
                  refine wl_guardT rfl rfl rfl u8_5 ?_
                  refine wl_valE (v := .bool (decide (cc ≠ (95 : Int)))) rfl (rf_move rfl) rfl ?_
                  refine wl_split (decide (cc ≠ (95 : Int))) (fun u8_8 => ?_) (fun u8_8 => ?_)
                  · have u8_8p := of_decide_eq_true u8_8
                    refine wl_guardT rfl rfl rfl u8_8 ?_
                    refine wl_valE (v := .int .u8 cc) rfl (rf_move rfl) rfl ?_
                    refine wl_guardT rfl rfl rfl u8_8 ?_
                    refine wl_valE (v := .bool (decide (cc < (48 : Int)))) rfl (rf_lss rfl rfl rfl rfl) rfl ?_
                    refine wl_guardT rfl rfl rfl u8_8 ?_
                    refine wl_valE (v := .bool (decide (cc < (48 : Int)))) rfl (rf_move rfl) rfl ?_
                    refine wl_split (decide (cc < (48 : Int))) (fun u8_11 => ?_) (fun u8_11 => ?_)
                    · have u8_11p := of_decide_eq_true u8_11
                      refine wl_guardF rfl rfl rfl u8_11 ?_
                      refine wl_guardF rfl rfl rfl u8_11 ?_
                      refine wl_guardT rfl rfl rfl u8_8 ?_
                      refine wl_valE (v := .bool true) rfl (rf_pickT rfl rfl rfl u8_11) rfl ?_
                      refine wl_guardT rfl rfl rfl u8_5 ?_
                      refine wl_valE (v := .bool true) rfl (rf_pickT rfl rfl rfl u8_8) rfl ?_
                      refine wl_guardT rfl rfl rfl rfl ?_
                      refine wl_valE (v := .bool true) rfl (rf_pickF rfl rfl rfl u8_5) rfl ?_
                      refine wl_valE (v := .bool true) rfl (rf_pickT rfl rfl rfl rfl) rfl ?_
                      refine wl_nil ?_
                      refine thn ?_
                      refine condT rfl rfl ?_
                      refine seq_ ?_
                      refine region_ ?_
                      refine wl_valE (v := .bool false) rfl (rf_assign rfl) rfl ?_
                      refine wl_nil ?_
                      refine thn ?_
                      refine ret_ ?_
                      refine blr (thr (thr (blr (thr ?_))))
                      refine fin1 (v := .bool false) Try.results24 rfl rfl ?_
                      exact ⟨_, ⟨congrArg Value.bool (by first | exact (decide_eq_false (name_bad (by omega) hcc (by unfold okC; omega))).symm | exact (decide_eq_false (fun hn => by have := hn.1; omega)).symm | exact (decide_eq_true ⟨by omega, fun j h => hno j h (by omega)⟩).symm), rfl⟩, HL0.pick' [] rfl rfl⟩
                    · have u8_11p := of_decide_eq_false u8_11
                      refine wl_guardT rfl rfl rfl u8_11 ?_
                      refine wl_valE (v := .int .u8 cc) rfl (rf_move rfl) rfl ?_
                      refine wl_guardT rfl rfl rfl u8_11 ?_
                      refine wl_valE (v := .bool (decide ((57 : Int) < cc))) rfl (rf_gtr rfl rfl rfl rfl) rfl ?_
                      refine wl_guardT rfl rfl rfl u8_8 ?_
                      refine wl_valE (v := .bool (decide ((57 : Int) < cc))) rfl (rf_pickF rfl rfl rfl u8_11) rfl ?_
                      refine wl_guardT rfl rfl rfl u8_5 ?_
                      refine wl_valE (v := .bool (decide ((57 : Int) < cc))) rfl (rf_pickT rfl rfl rfl u8_8) rfl ?_
                      refine wl_guardT rfl rfl rfl rfl ?_
                      refine wl_valE (v := .bool (decide ((57 : Int) < cc))) rfl (rf_pickF rfl rfl rfl u8_5) rfl ?_
                      refine wl_valE (v := .bool (decide ((57 : Int) < cc))) rfl (rf_pickT rfl rfl rfl rfl) rfl ?_
                      refine wl_nil ?_
                      refine thn ?_
                      refine cond_ (t := decide ((57 : Int) < cc)) rfl rfl (fun c53 => ?_) (fun c53 => ?_)
                      · have c53p := of_decide_eq_true c53
                        refine seq_ ?_
                        refine region_ ?_
                        refine wl_valE (v := .bool false) rfl (rf_assign rfl) rfl ?_
                        refine wl_nil ?_
                        refine thn ?_
                        refine ret_ ?_
                        refine blr (thr (thr (blr (thr ?_))))
                        refine fin1 (v := .bool false) Try.results24 rfl rfl ?_
                        exact ⟨_, ⟨congrArg Value.bool (by first | exact (decide_eq_false (name_bad (by omega) hcc (by unfold okC; omega))).symm | exact (decide_eq_false (fun hn => by have := hn.1; omega)).symm | exact (decide_eq_true ⟨by omega, fun j h => hno j h (by omega)⟩).symm), rfl⟩, HL0.pick' [] rfl rfl⟩
                      · have c53p := of_decide_eq_false c53
                        refine skip_ ?_
                        refine bln ?_
                        refine thn ?_
                        refine region_ ?_
                        refine wl_valE (v := .int .i64 ((i : Nat) : Int)) rfl (rf_move rfl) rfl ?_
                        refine wl_valE (v := .int .i64 ((i + 1 : Nat) : Int)) rfl (rf_add rfl rfl rfl rfl (IntWalk.i64_in _ (by omega))) rfl ?_
                        refine wl_valE (v := .int .i64 ((i + 1 : Nat) : Int)) rfl (rf_assign rfl) rfl ?_
                        refine wl_nil ?_
                        refine thn ?_
                        refine ⟨s.size - (i + 1), _, rfl, (by omega), _, i + 1, upds_self ⟨rfl, rfl, trivial⟩, rfl, by omega, fun j h h2 => by
                          rcases Nat.lt_or_eq_of_le (Nat.le_of_lt_succ h2) with h3 | h3
                          · exact hno j h h3
                          · subst h3; rw [hcc]; unfold okC; omega, HL0.pick' [] rfl rfl⟩
                  · have u8_8p := of_decide_eq_false u8_8
                    refine wl_guardF rfl rfl rfl u8_8 ?_
                    refine wl_guardF rfl rfl rfl u8_8 ?_
                    refine wl_guardF rfl rfl rfl u8_8 ?_
                    refine wl_guardS rfl rfl rfl ?_
                    refine wl_guardS rfl rfl rfl ?_
                    refine wl_guardF rfl rfl rfl u8_8 ?_
                    refine wl_guardT rfl rfl rfl u8_5 ?_
                    refine wl_valE (v := .bool false) rfl (rf_pickF rfl rfl rfl u8_8) rfl ?_
                    refine wl_guardT rfl rfl rfl rfl ?_
                    refine wl_valE (v := .bool false) rfl (rf_pickF rfl rfl rfl u8_5) rfl ?_
                    refine wl_valE (v := .bool false) rfl (rf_pickT rfl rfl rfl rfl) rfl ?_
                    refine wl_nil ?_
                    refine thn ?_
                    refine condF rfl rfl ?_
                    refine skip_ ?_
                    refine bln ?_
                    refine thn ?_
                    refine region_ ?_
                    refine wl_valE (v := .int .i64 ((i : Nat) : Int)) rfl (rf_move rfl) rfl ?_
                    refine wl_valE (v := .int .i64 ((i + 1 : Nat) : Int)) rfl (rf_add rfl rfl rfl rfl (IntWalk.i64_in _ (by omega))) rfl ?_
                    refine wl_valE (v := .int .i64 ((i + 1 : Nat) : Int)) rfl (rf_assign rfl) rfl ?_
                    refine wl_nil ?_
                    refine thn ?_
                    refine ⟨s.size - (i + 1), _, rfl, (by omega), _, i + 1, upds_self ⟨rfl, rfl, trivial⟩, rfl, by omega, fun j h h2 => by
                      rcases Nat.lt_or_eq_of_le (Nat.le_of_lt_succ h2) with h3 | h3
                      · exact hno j h h3
                      · subst h3; rw [hcc]; unfold okC; omega, HL0.pick' [] rfl rfl⟩
          · have u7_2p := of_decide_eq_false u7_2
            refine wl_guardF rfl rfl rfl u7_2 ?_
            refine wl_guardF rfl rfl rfl u7_2 ?_
            refine wl_valE (v := .bool false) rfl (rf_pickF rfl rfl rfl u7_2) rfl ?_
            refine wl_valE (v := .bool false) rfl (rf_move rfl) rfl ?_
            refine wl_guardT rfl rfl rfl rfl ?_
            refine wl_valE (v := .int .u8 cc) rfl (rf_move rfl) rfl ?_
            refine wl_guardT rfl rfl rfl rfl ?_
            refine wl_valE (v := .bool (decide ((65 : Int) ≤ cc))) rfl (rf_geq rfl rfl rfl rfl) rfl ?_
            refine wl_guardT rfl rfl rfl rfl ?_
            refine wl_valE (v := .bool (decide ((65 : Int) ≤ cc))) rfl (rf_move rfl) rfl ?_
            refine wl_split (decide ((65 : Int) ≤ cc)) (fun u7_9 => ?_) (fun u7_9 => ?_)
            · have u7_9p := of_decide_eq_true u7_9
              refine wl_guardT rfl rfl rfl u7_9 ?_
              refine wl_valE (v := .int .u8 cc) rfl (rf_move rfl) rfl ?_
              refine wl_guardT rfl rfl rfl u7_9 ?_
              refine wl_valE (v := .bool (decide (cc ≤ (90 : Int)))) rfl (rf_leq rfl rfl rfl rfl) rfl ?_
              refine wl_guardT rfl rfl rfl rfl ?_
              refine wl_valE (v := .bool (decide (cc ≤ (90 : Int)))) rfl (rf_pickT rfl rfl rfl u7_9) rfl ?_
              refine wl_valE (v := .bool (decide (cc ≤ (90 : Int)))) rfl (rf_pickF rfl rfl rfl rfl) rfl ?_
              refine wl_valE (v := .bool (decide (cc ≤ (90 : Int)))) rfl (rf_assign rfl) rfl ?_
              refine wl_nil ?_
              refine thn ?_
              refine seq_ ?_
              refine region_ ?_
              refine wl_valE (v := .bool (decide (cc ≤ (90 : Int)))) rfl (rf_move rfl) rfl ?_
              refine wl_valE (v := .bool (!(decide (cc ≤ (90 : Int))))) rfl (rf_not rfl rfl) rfl ?_
              refine wl_valE (v := .bool (!(decide (cc ≤ (90 : Int))))) rfl (rf_move rfl) rfl ?_
              refine wl_split (!(decide (cc ≤ (90 : Int)))) (fun u8_2 => ?_) (fun u8_2 => ?_)
              · have u8_2p := of_decide_eq_false (bnotT u8_2)
                refine wl_guardT rfl rfl rfl u8_2 ?_
                refine wl_valE (v := .int .i64 ((i : Nat) : Int)) rfl (rf_move rfl) rfl ?_
                refine wl_guardT rfl rfl rfl u8_2 ?_
                refine wl_valE (v := .bool (decide (((i : Nat) : Int) = (0 : Int)))) rfl (rf_eql rfl rfl rfl rfl) rfl ?_
                refine wl_guardT rfl rfl rfl u8_2 ?_
                refine wl_valE (v := .bool (decide (((i : Nat) : Int) = (0 : Int)))) rfl (rf_move rfl) rfl ?_
                refine wl_split (decide (((i : Nat) : Int) = (0 : Int))) (fun u8_5 => ?_) (fun u8_5 => ?_)
                · have u8_5p := of_decide_eq_true u8_5
                  refine wl_guardF rfl rfl rfl u8_5 ?_
                  refine wl_guardF rfl rfl rfl u8_5 ?_
                  refine wl_guardF rfl rfl rfl u8_5 ?_
                  refine wl_guardS rfl rfl rfl ?_
                  refine wl_guardS rfl rfl rfl ?_
                  refine wl_guardS rfl rfl rfl ?_
                  refine wl_guardS rfl rfl rfl ?_
                  refine wl_guardS rfl rfl rfl ?_
                  refine wl_guardS rfl rfl rfl ?_
                  refine wl_guardF rfl rfl rfl u8_5 ?_
                  refine wl_guardT rfl rfl rfl u8_2 ?_
                  refine wl_valE (v := .bool true) rfl (rf_pickT rfl rfl rfl u8_5) rfl ?_
                  refine wl_valE (v := .bool true) rfl (rf_pickT rfl rfl rfl u8_2) rfl ?_
                  refine wl_nil ?_
                  refine thn ?_
                  refine condT rfl rfl ?_
                  refine seq_ ?_
                  refine region_ ?_
                  refine wl_valE (v := .bool false) rfl (rf_assign rfl) rfl ?_
                  refine wl_nil ?_
                  refine thn ?_
                  refine ret_ ?_
                  refine blr (thr (thr (blr (thr ?_))))
                  refine fin1 (v := .bool false) Try.results24 rfl rfl ?_
                  exact ⟨_, ⟨congrArg Value.bool (by first | exact (decide_eq_false (name_bad (by omega) hcc (by unfold okC; omega))).symm | exact (decide_eq_false (fun hn => by have := hn.1; omega)).symm | exact (decide_eq_true ⟨by omega, fun j h => hno j h (by omega)⟩).symm), rfl⟩, HL0.pick' [] rfl rfl⟩
                · have u8_5p := of_decide_eq_false u8_5
                  refine wl_guardT rfl rfl rfl u8_5 ?_
                  refine wl_valE (v := .int .u8 cc) rfl (rf_move rfl) rfl ?_
                  refine wl_guardT rfl rfl rfl u8_5 ?_
                  refine wl_valE (v := .bool (decide (cc ≠ (95 : Int)))) rfl (rf_neq rfl rfl rfl rfl) rfl ?_
                  refine wl_guardT rfl rfl rfl u8_5 ?_
                  refine wl_valE (v := .bool (decide (cc ≠ (95 : Int)))) rfl (rf_move rfl) rfl ?_
                  refine wl_split (decide (cc ≠ (95 : Int))) (fun u8_8 => ?_) (fun u8_8 => ?_)
                  · have u8_8p := of_decide_eq_true u8_8
                    refine wl_guardT rfl rfl rfl u8_8 ?_
                    refine wl_valE (v := .int .u8 cc) rfl (rf_move rfl) rfl ?_
                    refine wl_guardT rfl rfl rfl u8_8 ?_
                    refine wl_valE (v := .bool (decide (cc < (48 : Int)))) rfl (rf_lss rfl rfl rfl rfl) rfl ?_
                    refine wl_guardT rfl rfl rfl u8_8 ?_
                    refine wl_valE (v := .bool (decide (cc < (48 : Int)))) rfl (rf_move rfl) rfl ?_
                    refine wl_split (decide (cc < (48 : Int))) (fun u8_11 => ?_) (fun u8_11 => ?_)
                    · have u8_11p := of_decide_eq_true u8_11
                      refine wl_guardF rfl rfl rfl u8_11 ?_
                      refine wl_guardF rfl rfl rfl u8_11 ?_
                      refine wl_guardT rfl rfl rfl u8_8 ?_
                      refine wl_valE (v := .bool true) rfl (rf_pickT rfl rfl rfl u8_11) rfl ?_
                      refine wl_guardT rfl rfl rfl u8_5 ?_
                      refine wl_valE (v := .bool true) rfl (rf_pickT rfl rfl rfl u8_8) rfl ?_
                      refine wl_guardT rfl rfl rfl u8_2 ?_
                      refine wl_valE (v := .bool true) rfl (rf_pickF rfl rfl rfl u8_5) rfl ?_
                      refine wl_valE (v := .bool true) rfl (rf_pickT rfl rfl rfl u8_2) rfl ?_
                      refine wl_nil ?_
                      refine thn ?_
                      refine condT rfl rfl ?_
                      refine seq_ ?_
                      refine region_ ?_
                      refine wl_valE (v := .bool false) rfl (rf_assign rfl) rfl ?_
                      refine wl_nil ?_
                      refine thn ?_
                      refine ret_ ?_
                      refine blr (thr (thr (blr (thr ?_))))
                      refine fin1 (v := .bool false) Try.results24 rfl rfl ?_
                      exact ⟨_, ⟨congrArg Value.bool (by first | exact (decide_eq_false (name_bad (by omega) hcc (by unfold okC; omega))).symm | exact (decide_eq_false (fun hn => by have := hn.1; omega)).symm | exact (decide_eq_true ⟨by omega, fun j h => hno j h (by omega)⟩).symm), rfl⟩, HL0.pick' [] rfl rfl⟩
                    · have u8_11p := of_decide_eq_false u8_11
                      refine wl_guardT rfl rfl rfl u8_11 ?_
                      refine wl_valE (v := .int .u8 cc) rfl (rf_move rfl) rfl ?_
                      refine wl_guardT rfl rfl rfl u8_11 ?_
                      refine wl_valE (v := .bool (decide ((57 : Int) < cc))) rfl (rf_gtr rfl rfl rfl rfl) rfl ?_
                      refine wl_guardT rfl rfl rfl u8_8 ?_
                      refine wl_valE (v := .bool (decide ((57 : Int) < cc))) rfl (rf_pickF rfl rfl rfl u8_11) rfl ?_
                      refine wl_guardT rfl rfl rfl u8_5 ?_
                      refine wl_valE (v := .bool (decide ((57 : Int) < cc))) rfl (rf_pickT rfl rfl rfl u8_8) rfl ?_
                      refine wl_guardT rfl rfl rfl u8_2 ?_
                      refine wl_valE (v := .bool (decide ((57 : Int) < cc))) rfl (rf_pickF rfl rfl rfl u8_5) rfl ?_
                      refine wl_valE (v := .bool (decide ((57 : Int) < cc))) rfl (rf_pickT rfl rfl rfl u8_2) rfl ?_
                      refine wl_nil ?_
                      refine thn ?_
                      refine cond_ (t := decide ((57 : Int) < cc)) rfl rfl (fun c53 => ?_) (fun c53 => ?_)
                      · have c53p := of_decide_eq_true c53
                        refine seq_ ?_
                        refine region_ ?_
                        refine wl_valE (v := .bool false) rfl (rf_assign rfl) rfl ?_
                        refine wl_nil ?_
                        refine thn ?_
                        refine ret_ ?_
                        refine blr (thr (thr (blr (thr ?_))))
                        refine fin1 (v := .bool false) Try.results24 rfl rfl ?_
                        exact ⟨_, ⟨congrArg Value.bool (by first | exact (decide_eq_false (name_bad (by omega) hcc (by unfold okC; omega))).symm | exact (decide_eq_false (fun hn => by have := hn.1; omega)).symm | exact (decide_eq_true ⟨by omega, fun j h => hno j h (by omega)⟩).symm), rfl⟩, HL0.pick' [] rfl rfl⟩
                      · have c53p := of_decide_eq_false c53
                        refine skip_ ?_
                        refine bln ?_
                        refine thn ?_
                        refine region_ ?_
                        refine wl_valE (v := .int .i64 ((i : Nat) : Int)) rfl (rf_move rfl) rfl ?_
                        refine wl_valE (v := .int .i64 ((i + 1 : Nat) : Int)) rfl (rf_add rfl rfl rfl rfl (IntWalk.i64_in _ (by omega))) rfl ?_
                        refine wl_valE (v := .int .i64 ((i + 1 : Nat) : Int)) rfl (rf_assign rfl) rfl ?_
                        refine wl_nil ?_
                        refine thn ?_
                        refine ⟨s.size - (i + 1), _, rfl, (by omega), _, i + 1, upds_self ⟨rfl, rfl, trivial⟩, rfl, by omega, fun j h h2 => by
                          rcases Nat.lt_or_eq_of_le (Nat.le_of_lt_succ h2) with h3 | h3
                          · exact hno j h h3
                          · subst h3; rw [hcc]; unfold okC; omega, HL0.pick' [] rfl rfl⟩
                  · have u8_8p := of_decide_eq_false u8_8
                    refine wl_guardF rfl rfl rfl u8_8 ?_
                    refine wl_guardF rfl rfl rfl u8_8 ?_
                    refine wl_guardF rfl rfl rfl u8_8 ?_
                    refine wl_guardS rfl rfl rfl ?_
                    refine wl_guardS rfl rfl rfl ?_
                    refine wl_guardF rfl rfl rfl u8_8 ?_
                    refine wl_guardT rfl rfl rfl u8_5 ?_
                    refine wl_valE (v := .bool false) rfl (rf_pickF rfl rfl rfl u8_8) rfl ?_
                    refine wl_guardT rfl rfl rfl u8_2 ?_
                    refine wl_valE (v := .bool false) rfl (rf_pickF rfl rfl rfl u8_5) rfl ?_
                    refine wl_valE (v := .bool false) rfl (rf_pickT rfl rfl rfl u8_2) rfl ?_
                    refine wl_nil ?_
                    refine thn ?_
                    refine condF rfl rfl ?_
                    refine skip_ ?_
                    refine bln ?_
                    refine thn ?_
                    refine region_ ?_
                    refine wl_valE (v := .int .i64 ((i : Nat) : Int)) rfl (rf_move rfl) rfl ?_
                    refine wl_valE (v := .int .i64 ((i + 1 : Nat) : Int)) rfl (rf_add rfl rfl rfl rfl (IntWalk.i64_in _ (by omega))) rfl ?_
                    refine wl_valE (v := .int .i64 ((i + 1 : Nat) : Int)) rfl (rf_assign rfl) rfl ?_
                    refine wl_nil ?_
                    refine thn ?_
                    refine ⟨s.size - (i + 1), _, rfl, (by omega), _, i + 1, upds_self ⟨rfl, rfl, trivial⟩, rfl, by omega, fun j h h2 => by
                      rcases Nat.lt_or_eq_of_le (Nat.le_of_lt_succ h2) with h3 | h3
                      · exact hno j h h3
                      · subst h3; rw [hcc]; unfold okC; omega, HL0.pick' [] rfl rfl⟩
              · have u8_2p := of_decide_eq_true (bnotF u8_2)
                refine wl_guardF rfl rfl rfl u8_2 ?_
                refine wl_guardF rfl rfl rfl u8_2 ?_
                refine wl_guardF rfl rfl rfl u8_2 ?_
                refine wl_guardS rfl rfl rfl ?_
                refine wl_guardS rfl rfl rfl ?_
                refine wl_guardS rfl rfl rfl ?_
                refine wl_guardS rfl rfl rfl ?_
                refine wl_guardS rfl rfl rfl ?_
                refine wl_guardS rfl rfl rfl ?_
                refine wl_guardS rfl rfl rfl ?_
                refine wl_guardS rfl rfl rfl ?_
                refine wl_guardS rfl rfl rfl ?_
                refine wl_guardS rfl rfl rfl ?_
                refine wl_guardF rfl rfl rfl u8_2 ?_
                refine wl_valE (v := .bool false) rfl (rf_pickF rfl rfl rfl u8_2) rfl ?_
                refine wl_nil ?_
                refine thn ?_
                refine condF rfl rfl ?_
                refine skip_ ?_
                refine bln ?_
                refine thn ?_
                refine region_ ?_
                refine wl_valE (v := .int .i64 ((i : Nat) : Int)) rfl (rf_move rfl) rfl ?_
                refine wl_valE (v := .int .i64 ((i + 1 : Nat) : Int)) rfl (rf_add rfl rfl rfl rfl (IntWalk.i64_in _ (by omega))) rfl ?_
                refine wl_valE (v := .int .i64 ((i + 1 : Nat) : Int)) rfl (rf_assign rfl) rfl ?_
                refine wl_nil ?_
                refine thn ?_
                refine ⟨s.size - (i + 1), _, rfl, (by omega), _, i + 1, upds_self ⟨rfl, rfl, trivial⟩, rfl, by omega, fun j h h2 => by
                  rcases Nat.lt_or_eq_of_le (Nat.le_of_lt_succ h2) with h3 | h3
                  · exact hno j h h3
                  · subst h3; rw [hcc]; unfold okC; omega, HL0.pick' [] rfl rfl⟩
            · have u7_9p := of_decide_eq_false u7_9
              refine wl_guardF rfl rfl rfl u7_9 ?_
              refine wl_guardF rfl rfl rfl u7_9 ?_
              refine wl_guardT rfl rfl rfl rfl ?_
              refine wl_valE (v := .bool false) rfl (rf_pickF rfl rfl rfl u7_9) rfl ?_
              refine wl_valE (v := .bool false) rfl (rf_pickF rfl rfl rfl rfl) rfl ?_
              refine wl_valE (v := .bool false) rfl (rf_assign rfl) rfl ?_
              refine wl_nil ?_
              refine thn ?_
              refine seq_ ?_
              refine region_ ?_
              refine wl_valE (v := .bool false) rfl (rf_move rfl) rfl ?_
              refine wl_valE (v := .bool true) rfl (rf_not rfl rfl) rfl ?_
              refine wl_valE (v := .bool true) rfl (rf_move rfl) rfl ?_
              refine wl_guardT rfl rfl rfl rfl ?_
              refine wl_valE (v := .int .i64 ((i : Nat) : Int)) rfl (rf_move rfl) rfl ?_
              refine wl_guardT rfl rfl rfl rfl ?_
              refine wl_valE (v := .bool (decide (((i : Nat) : Int) = (0 : Int)))) rfl (rf_eql rfl rfl rfl rfl) rfl ?_
              refine wl_guardT rfl rfl rfl rfl ?_
              refine wl_valE (v := .bool (decide (((i : Nat) : Int) = (0 : Int)))) rfl (rf_move rfl) rfl ?_
              refine wl_split (decide (((i : Nat) : Int) = (0 : Int))) (fun u8_5 => ?_) (fun u8_5 => ?_)
              · have u8_5p := of_decide_eq_true u8_5
                refine wl_guardF rfl rfl rfl u8_5 ?_
                refine wl_guardF rfl rfl rfl u8_5 ?_
                refine wl_guardF rfl rfl rfl u8_5 ?_
                refine wl_guardS rfl rfl rfl ?_
                refine wl_guardS rfl rfl rfl ?_
                refine wl_guardS rfl rfl rfl ?_
                refine wl_guardS rfl rfl rfl ?_
                refine wl_guardS rfl rfl rfl ?_
                refine wl_guardS rfl rfl rfl ?_
                refine wl_guardF rfl rfl rfl u8_5 ?_
                refine wl_guardT rfl rfl rfl rfl ?_
                refine wl_valE (v := .bool true) rfl (rf_pickT rfl rfl rfl u8_5) rfl ?_
                refine wl_valE (v := .bool true) rfl (rf_pickT rfl rfl rfl rfl) rfl ?_
                refine wl_nil ?_
                refine thn ?_
                refine condT rfl rfl ?_
                refine seq_ ?_
                refine region_ ?_
                refine wl_valE (v := .bool false) rfl (rf_assign rfl) rfl ?_
                refine wl_nil ?_
                refine thn ?_
                refine ret_ ?_
                refine blr (thr (thr (blr (thr ?_))))
                refine fin1 (v := .bool false) Try.results24 rfl rfl ?_
                exact ⟨_, ⟨congrArg Value.bool (by first | exact (decide_eq_false (name_bad (by omega) hcc (by unfold okC; omega))).symm | exact (decide_eq_false (fun hn => by have := hn.1; omega)).symm | exact (decide_eq_true ⟨by omega, fun j h => hno j h (by omega)⟩).symm), rfl⟩, HL0.pick' [] rfl rfl⟩
              · have u8_5p := of_decide_eq_false u8_5
                refine wl_guardT rfl rfl rfl u8_5 ?_
                refine wl_valE (v := .int .u8 cc) rfl (rf_move rfl) rfl ?_
                refine wl_guardT rfl rfl rfl u8_5 ?_
                refine wl_valE (v := .bool (decide (cc ≠ (95 : Int)))) rfl (rf_neq rfl rfl rfl rfl) rfl ?_
                refine wl_guardT rfl rfl rfl u8_5 ?_
                refine wl_valE (v := .bool (decide (cc ≠ (95 : Int)))) rfl (rf_move rfl) rfl ?_
                refine wl_split (decide (cc ≠ (95 : Int))) (fun u8_8 => ?_) (fun u8_8 => ?_)
                · have u8_8p := of_decide_eq_true u8_8
                  refine wl_guardT rfl rfl rfl u8_8 ?_
                  refine wl_valE (v := .int .u8 cc) rfl (rf_move rfl) rfl ?_
                  refine wl_guardT rfl rfl rfl u8_8 ?_
                  refine wl_valE (v := .bool (decide (cc < (48 : Int)))) rfl (rf_lss rfl rfl rfl rfl) rfl ?_
                  refine wl_guardT rfl rfl rfl u8_8 ?_
                  refine wl_valE (v := .bool (decide (cc < (48 : Int)))) rfl (rf_move rfl) rfl ?_
                  refine wl_split (decide (cc < (48 : Int))) (fun u8_11 => ?_) (fun u8_11 => ?_)
                  · have u8_11p := of_decide_eq_true u8_11
                    refine wl_guardF rfl rfl rfl u8_11 ?_
                    refine wl_guardF rfl rfl rfl u8_11 ?_
                    refine wl_guardT rfl rfl rfl u8_8 ?_
                    refine wl_valE (v := .bool true) rfl (rf_pickT rfl rfl rfl u8_11) rfl ?_
                    refine wl_guardT rfl rfl rfl u8_5 ?_
                    refine wl_valE (v := .bool true) rfl (rf_pickT rfl rfl rfl u8_8) rfl ?_
                    refine wl_guardT rfl rfl rfl rfl ?_
                    refine wl_valE (v := .bool true) rfl (rf_pickF rfl rfl rfl u8_5) rfl ?_
                    refine wl_valE (v := .bool true) rfl (rf_pickT rfl rfl rfl rfl) rfl ?_
                    refine wl_nil ?_
                    refine thn ?_
                    refine condT rfl rfl ?_
                    refine seq_ ?_
                    refine region_ ?_
                    refine wl_valE (v := .bool false) rfl (rf_assign rfl) rfl ?_
                    refine wl_nil ?_
                    refine thn ?_
                    refine ret_ ?_
                    refine blr (thr (thr (blr (thr ?_))))
                    refine fin1 (v := .bool false) Try.results24 rfl rfl ?_
                    exact ⟨_, ⟨congrArg Value.bool (by first | exact (decide_eq_false (name_bad (by omega) hcc (by unfold okC; omega))).symm | exact (decide_eq_false (fun hn => by have := hn.1; omega)).symm | exact (decide_eq_true ⟨by omega, fun j h => hno j h (by omega)⟩).symm), rfl⟩, HL0.pick' [] rfl rfl⟩
                  · have u8_11p := of_decide_eq_false u8_11
                    refine wl_guardT rfl rfl rfl u8_11 ?_
                    refine wl_valE (v := .int .u8 cc) rfl (rf_move rfl) rfl ?_
                    refine wl_guardT rfl rfl rfl u8_11 ?_
                    refine wl_valE (v := .bool (decide ((57 : Int) < cc))) rfl (rf_gtr rfl rfl rfl rfl) rfl ?_
                    refine wl_guardT rfl rfl rfl u8_8 ?_
                    refine wl_valE (v := .bool (decide ((57 : Int) < cc))) rfl (rf_pickF rfl rfl rfl u8_11) rfl ?_
                    refine wl_guardT rfl rfl rfl u8_5 ?_
                    refine wl_valE (v := .bool (decide ((57 : Int) < cc))) rfl (rf_pickT rfl rfl rfl u8_8) rfl ?_
                    refine wl_guardT rfl rfl rfl rfl ?_
                    refine wl_valE (v := .bool (decide ((57 : Int) < cc))) rfl (rf_pickF rfl rfl rfl u8_5) rfl ?_
                    refine wl_valE (v := .bool (decide ((57 : Int) < cc))) rfl (rf_pickT rfl rfl rfl rfl) rfl ?_
                    refine wl_nil ?_
                    refine thn ?_
                    refine cond_ (t := decide ((57 : Int) < cc)) rfl rfl (fun c53 => ?_) (fun c53 => ?_)
                    · have c53p := of_decide_eq_true c53
                      refine seq_ ?_
                      refine region_ ?_
                      refine wl_valE (v := .bool false) rfl (rf_assign rfl) rfl ?_
                      refine wl_nil ?_
                      refine thn ?_
                      refine ret_ ?_
                      refine blr (thr (thr (blr (thr ?_))))
                      refine fin1 (v := .bool false) Try.results24 rfl rfl ?_
                      exact ⟨_, ⟨congrArg Value.bool (by first | exact (decide_eq_false (name_bad (by omega) hcc (by unfold okC; omega))).symm | exact (decide_eq_false (fun hn => by have := hn.1; omega)).symm | exact (decide_eq_true ⟨by omega, fun j h => hno j h (by omega)⟩).symm), rfl⟩, HL0.pick' [] rfl rfl⟩
                    · have c53p := of_decide_eq_false c53
                      refine skip_ ?_
                      refine bln ?_
                      refine thn ?_
                      refine region_ ?_
                      refine wl_valE (v := .int .i64 ((i : Nat) : Int)) rfl (rf_move rfl) rfl ?_
                      refine wl_valE (v := .int .i64 ((i + 1 : Nat) : Int)) rfl (rf_add rfl rfl rfl rfl (IntWalk.i64_in _ (by omega))) rfl ?_
                      refine wl_valE (v := .int .i64 ((i + 1 : Nat) : Int)) rfl (rf_assign rfl) rfl ?_
                      refine wl_nil ?_
                      refine thn ?_
                      refine ⟨s.size - (i + 1), _, rfl, (by omega), _, i + 1, upds_self ⟨rfl, rfl, trivial⟩, rfl, by omega, fun j h h2 => by
                        rcases Nat.lt_or_eq_of_le (Nat.le_of_lt_succ h2) with h3 | h3
                        · exact hno j h h3
                        · subst h3; rw [hcc]; unfold okC; omega, HL0.pick' [] rfl rfl⟩
                · have u8_8p := of_decide_eq_false u8_8
                  refine wl_guardF rfl rfl rfl u8_8 ?_
                  refine wl_guardF rfl rfl rfl u8_8 ?_
                  refine wl_guardF rfl rfl rfl u8_8 ?_
                  refine wl_guardS rfl rfl rfl ?_
                  refine wl_guardS rfl rfl rfl ?_
                  refine wl_guardF rfl rfl rfl u8_8 ?_
                  refine wl_guardT rfl rfl rfl u8_5 ?_
                  refine wl_valE (v := .bool false) rfl (rf_pickF rfl rfl rfl u8_8) rfl ?_
                  refine wl_guardT rfl rfl rfl rfl ?_
                  refine wl_valE (v := .bool false) rfl (rf_pickF rfl rfl rfl u8_5) rfl ?_
                  refine wl_valE (v := .bool false) rfl (rf_pickT rfl rfl rfl rfl) rfl ?_
                  refine wl_nil ?_
                  refine thn ?_
                  refine condF rfl rfl ?_
                  refine skip_ ?_
                  refine bln ?_
                  refine thn ?_
                  refine region_ ?_
                  refine wl_valE (v := .int .i64 ((i : Nat) : Int)) rfl (rf_move rfl) rfl ?_
                  refine wl_valE (v := .int .i64 ((i + 1 : Nat) : Int)) rfl (rf_add rfl rfl rfl rfl (IntWalk.i64_in _ (by omega))) rfl ?_
                  refine wl_valE (v := .int .i64 ((i + 1 : Nat) : Int)) rfl (rf_assign rfl) rfl ?_
                  refine wl_nil ?_
                  refine thn ?_
                  refine ⟨s.size - (i + 1), _, rfl, (by omega), _, i + 1, upds_self ⟨rfl, rfl, trivial⟩, rfl, by omega, fun j h h2 => by
                    rcases Nat.lt_or_eq_of_le (Nat.le_of_lt_succ h2) with h3 | h3
                    · exact hno j h h3
                    · subst h3; rw [hcc]; unfold okC; omega, HL0.pick' [] rfl rfl⟩
        · have c16p := of_decide_eq_false c16
          refine exit_ ?_
          refine thx (thx (blx ?_))
          refine thn ?_
          refine seq_ ?_
          refine region_ ?_
          refine wl_valE (v := .bool true) rfl (rf_assign rfl) rfl ?_
          refine wl_nil ?_
          refine thn ?_
          refine ret_ ?_
          refine fin1 (v := .bool true) Try.results24 rfl rfl ?_
          exact ⟨_, ⟨congrArg Value.bool (by first | exact (decide_eq_false (name_bad (by omega) hcc (by unfold okC; omega))).symm | exact (decide_eq_false (fun hn => by have := hn.1; omega)).symm | exact (decide_eq_true ⟨by omega, fun j h => hno j h (by omega)⟩).symm), rfl⟩, HL0.pick' [] rfl rfl⟩
theorem name_tr (s : ByteArray) : Tr Try.prog 26 [.string s] [] [] (fun v m => v = .bool (decide (nameP s)) ∧ m = []) := by
  intro w0 S0 H0
  refine enterR Try.func26 rfl Try.ntmps26 rfl ?_
  intro g0
  refine seq_ ?_
  refine region_ ?_
  refine wl_valE (v := .bool false) rfl (rf_assign rfl) rfl ?_
  refine wl_nil ?_
  refine thn ?_
  refine seq_ ?_
  refine seq_ ?_
  refine region_ ?_
  refine wl_valE (v := .string s) rfl (rf_move rfl) rfl ?_
  refine wl_valE (v := .int .i64 ((s.size : Nat) : Int)) rfl (rf_len_string Try.underlying9 rfl rfl) rfl ?_
  refine wl_valE (v := .bool (decide (((s.size : Nat) : Int) < (1 : Int)))) rfl (rf_lss rfl rfl rfl rfl) rfl ?_
  refine wl_valE (v := .bool (decide (((s.size : Nat) : Int) < (1 : Int)))) rfl (rf_move rfl) rfl ?_
  refine wl_split (decide (((s.size : Nat) : Int) < (1 : Int))) (fun u1_3 => ?_) (fun u1_3 => ?_)
  · have u1_3p := of_decide_eq_true u1_3
    refine wl_guardF rfl rfl rfl u1_3 ?_
    refine wl_guardF rfl rfl rfl u1_3 ?_
    refine wl_guardF rfl rfl rfl u1_3 ?_
    refine wl_valE (v := .bool true) rfl (rf_pickT rfl rfl rfl u1_3) rfl ?_
    refine wl_nil ?_
    refine thn ?_
    refine condT rfl rfl ?_
    refine seq_ ?_
    refine region_ ?_
    refine wl_valE (v := .bool false) rfl (rf_assign rfl) rfl ?_
    refine wl_nil ?_
    refine thn ?_
    refine ret_ ?_
    refine thr ?_
    refine fin1 (v := .bool false) Try.results26 rfl rfl ?_
    exact ⟨_, ⟨congrArg Value.bool (by first | exact (decide_eq_false (name_bad (by omega) hcc (by unfold okC; omega))).symm | exact (decide_eq_false (fun hn => by have := hn.1; omega)).symm | exact (decide_eq_true ⟨by omega, fun j h => hno j h (by omega)⟩).symm), rfl⟩, H0.pick' [] rfl rfl⟩
  · have u1_3p := of_decide_eq_false u1_3
    refine wl_guardT rfl rfl rfl u1_3 ?_
    refine wl_valE (v := .string s) rfl (rf_move rfl) rfl ?_
    refine wl_guardT rfl rfl rfl u1_3 ?_
    refine wl_valE (v := .int .i64 ((s.size : Nat) : Int)) rfl (rf_len_string Try.underlying9 rfl rfl) rfl ?_
    refine wl_guardT rfl rfl rfl u1_3 ?_
    refine wl_valE (v := .bool (decide ((31 : Int) < ((s.size : Nat) : Int)))) rfl (rf_gtr rfl rfl rfl rfl) rfl ?_
    refine wl_valE (v := .bool (decide ((31 : Int) < ((s.size : Nat) : Int)))) rfl (rf_pickF rfl rfl rfl u1_3) rfl ?_
    refine wl_nil ?_
    refine thn ?_
    refine cond_ (t := decide ((31 : Int) < ((s.size : Nat) : Int))) rfl rfl (fun c13 => ?_) (fun c13 => ?_)
    · have c13p := of_decide_eq_true c13
      refine seq_ ?_
      refine region_ ?_
      refine wl_valE (v := .bool false) rfl (rf_assign rfl) rfl ?_
      refine wl_nil ?_
      refine thn ?_
      refine ret_ ?_
      refine thr ?_
      refine fin1 (v := .bool false) Try.results26 rfl rfl ?_
      exact ⟨_, ⟨congrArg Value.bool (by first | exact (decide_eq_false (name_bad (by omega) hcc (by unfold okC; omega))).symm | exact (decide_eq_false (fun hn => by have := hn.1; omega)).symm | exact (decide_eq_true ⟨by omega, fun j h => hno j h (by omega)⟩).symm), rfl⟩, H0.pick' [] rfl rfl⟩
    · have c13p := of_decide_eq_false c13
      refine skip_ ?_
      refine thn ?_
      refine seq_ ?_
      refine seq_ ?_
      refine region_ ?_
      refine wl_valE (v := .int .i64 (0 : Int)) rfl (rf_assign rfl) rfl ?_
      refine wl_nil ?_
      refine thn ?_
      refine block_ ?_
      refine loop_ (fun qk_ qf_ qw_ => ∃ (g : Nat → Value) (i : Nat), qf_ = upds g [(0, .string s), (3, .int .i64 ((i : Nat) : Int))] ∧ qk_ = s.size - i ∧ (i ≤ s.size) ∧ (∀ j, (h : j < s.size) → j < i → okC j (((s[j]'h).toNat : Nat) : Int)) ∧ St w0 S0 [] qw_ []) (s.size - 0) ?_ ?_
      · refine ⟨_, 0, upds_self ⟨rfl, rfl, trivial⟩, rfl, Nat.zero_le _, fun j _ h => by omega, H0.pick' [] rfl rfl⟩
      · rintro lk0 _ wl0 ⟨gl0, i, rfl, hlk0, hi, hno, HL0⟩
        refine seq_ ?_
        refine seq_ ?_
        refine region_ ?_
        refine wl_valE (v := .int .i64 ((i : Nat) : Int)) rfl (rf_move rfl) rfl ?_
        refine wl_valE (v := .string s) rfl (rf_move rfl) rfl ?_
        refine wl_valE (v := .int .i64 ((s.size : Nat) : Int)) rfl (rf_len_string Try.underlying9 rfl rfl) rfl ?_
        refine wl_valE (v := .bool (decide (((i : Nat) : Int) < ((s.size : Nat) : Int)))) rfl (rf_lss rfl rfl rfl rfl) rfl ?_
        refine wl_nil ?_
        refine thn ?_
        refine cond_ (t := decide (((i : Nat) : Int) < ((s.size : Nat) : Int))) rfl rfl (fun c17 => ?_) (fun c17 => ?_)
        · have c17p := of_decide_eq_true c17
          refine skip_ ?_
          refine thn ?_
          refine seq_ ?_
          refine block_ ?_
          refine seq_ ?_
          obtain ⟨cc, hcc⟩ : ∃ cc : Int, (((s[i]'(by omega)).toNat : Nat) : Int) = cc := ⟨_, rfl⟩
          refine region_ ?_
          refine wl_valE (v := .string s) rfl (rf_move rfl) rfl ?_
          refine wl_valE (v := .int .i64 ((i : Nat) : Int)) rfl (rf_move rfl) rfl ?_
          refine wl_valE (v := .int .u8 cc) rfl (rf_indexS Try.underlying9 rfl rfl rfl rfl (by omega) hcc) rfl ?_
          refine wl_valE (v := .int .u8 cc) rfl (rf_assign rfl) rfl ?_
          refine wl_nil ?_
          refine thn ?_
          refine seq_ ?_
          refine region_ ?_
          refine wl_valE (v := .int .u8 cc) rfl (rf_move rfl) rfl ?_
          refine wl_valE (v := .bool (decide ((97 : Int) ≤ cc))) rfl (rf_geq rfl rfl rfl rfl) rfl ?_
          refine wl_valE (v := .bool (decide ((97 : Int) ≤ cc))) rfl (rf_move rfl) rfl ?_
          refine wl_split (decide ((97 : Int) ≤ cc)) (fun u7_2 => ?_) (fun u7_2 => ?_)
          · have u7_2p := of_decide_eq_true u7_2
            refine wl_guardT rfl rfl rfl u7_2 ?_
            refine wl_valE (v := .int .u8 cc) rfl (rf_move rfl) rfl ?_
            refine wl_guardT rfl rfl rfl u7_2 ?_
            refine wl_valE (v := .bool (decide (cc ≤ (122 : Int)))) rfl (rf_leq rfl rfl rfl rfl) rfl ?_
            refine wl_valE (v := .bool (decide (cc ≤ (122 : Int)))) rfl (rf_pickT rfl rfl rfl u7_2) rfl ?_
            refine wl_valE (v := .bool (decide (cc ≤ (122 : Int)))) rfl (rf_move rfl) rfl ?_
            refine wl_split (decide (cc ≤ (122 : Int))) (fun u7_6 => ?_) (fun u7_6 => ?_)
            · have u7_6p := of_decide_eq_true u7_6
              refine wl_guardF rfl rfl rfl u7_6 ?_
              refine wl_guardF rfl rfl rfl u7_6 ?_
              refine wl_guardF rfl rfl rfl u7_6 ?_
              refine wl_guardS rfl rfl rfl ?_
              refine wl_guardS rfl rfl rfl ?_
              refine wl_guardF rfl rfl rfl u7_6 ?_
              refine wl_valE (v := .bool true) rfl (rf_pickT rfl rfl rfl u7_6) rfl ?_
              refine wl_valE (v := .bool true) rfl (rf_assign rfl) rfl ?_
              refine wl_nil ?_
              refine thn ?_
              refine seq_ ?_
              refine region_ ?_
              refine wl_valE (v := .bool true) rfl (rf_move rfl) rfl ?_
              refine wl_valE (v := .bool false) rfl (rf_not rfl rfl) rfl ?_
              refine wl_valE (v := .bool false) rfl (rf_move rfl) rfl ?_
              refine wl_guardF rfl rfl rfl rfl ?_
              refine wl_guardF rfl rfl rfl rfl ?_
              refine wl_guardF rfl rfl rfl rfl ?_
              refine wl_guardS rfl rfl rfl ?_
              refine wl_guardS rfl rfl rfl ?_
              refine wl_guardS rfl rfl rfl ?_
              refine wl_guardS rfl rfl rfl ?_
              refine wl_guardS rfl rfl rfl ?_
              refine wl_guardS rfl rfl rfl ?_
              refine wl_guardS rfl rfl rfl ?_
              refine wl_guardS rfl rfl rfl ?_
              refine wl_guardS rfl rfl rfl ?_
              refine wl_guardS rfl rfl rfl ?_
              refine wl_guardF rfl rfl rfl rfl ?_
              refine wl_valE (v := .bool false) rfl (rf_pickF rfl rfl rfl rfl) rfl ?_
              refine wl_nil ?_
              refine thn ?_
              refine condF rfl rfl ?_
              refine skip_ ?_
              refine bln ?_
              refine thn ?_
              refine region_ ?_
              refine wl_valE (v := .int .i64 ((i : Nat) : Int)) rfl (rf_move rfl) rfl ?_
              refine wl_valE (v := .int .i64 ((i + 1 : Nat) : Int)) rfl (rf_add rfl rfl rfl rfl (IntWalk.i64_in _ (by omega))) rfl ?_
              refine wl_valE (v := .int .i64 ((i + 1 : Nat) : Int)) rfl (rf_assign rfl) rfl ?_
              refine wl_nil ?_
              refine thn ?_
              refine ⟨s.size - (i + 1), _, rfl, (by omega), _, i + 1, upds_self ⟨rfl, rfl, trivial⟩, rfl, by omega, fun j h h2 => by
                rcases Nat.lt_or_eq_of_le (Nat.le_of_lt_succ h2) with h3 | h3
                · exact hno j h h3
                · subst h3; rw [hcc]; unfold okC; omega, HL0.pick' [] rfl rfl⟩
            · have u7_6p := of_decide_eq_false u7_6
              refine wl_guardT rfl rfl rfl u7_6 ?_
              refine wl_valE (v := .int .u8 cc) rfl (rf_move rfl) rfl ?_
              refine wl_guardT rfl rfl rfl u7_6 ?_
              refine wl_valE (v := .bool (decide ((65 : Int) ≤ cc))) rfl (rf_geq rfl rfl rfl rfl) rfl ?_
              refine wl_guardT rfl rfl rfl u7_6 ?_
              refine wl_valE (v := .bool (decide ((65 : Int) ≤ cc))) rfl (rf_move rfl) rfl ?_
              refine wl_split (decide ((65 : Int) ≤ cc)) (fun u7_9 => ?_) (fun u7_9 => ?_)
              · have u7_9p := of_decide_eq_true u7_9
                refine wl_guardT rfl rfl rfl u7_9 ?_
                refine wl_valE (v := .int .u8 cc) rfl (rf_move rfl) rfl ?_
                refine wl_guardT rfl rfl rfl u7_9 ?_
                refine wl_valE (v := .bool (decide (cc ≤ (90 : Int)))) rfl (rf_leq rfl rfl rfl rfl) rfl ?_
                refine wl_guardT rfl rfl rfl u7_6 ?_
                refine wl_valE (v := .bool (decide (cc ≤ (90 : Int)))) rfl (rf_pickT rfl rfl rfl u7_9) rfl ?_
                refine wl_valE (v := .bool (decide (cc ≤ (90 : Int)))) rfl (rf_pickF rfl rfl rfl u7_6) rfl ?_
                refine wl_valE (v := .bool (decide (cc ≤ (90 : Int)))) rfl (rf_assign rfl) rfl ?_
                refine wl_nil ?_
                refine thn ?_
                refine seq_ ?_
                refine region_ ?_
                refine wl_valE (v := .bool (decide (cc ≤ (90 : Int)))) rfl (rf_move rfl) rfl ?_
                refine wl_valE (v := .bool (!(decide (cc ≤ (90 : Int))))) rfl (rf_not rfl rfl) rfl ?_
                refine wl_valE (v := .bool (!(decide (cc ≤ (90 : Int))))) rfl (rf_move rfl) rfl ?_
                refine wl_split (!(decide (cc ≤ (90 : Int)))) (fun u8_2 => ?_) (fun u8_2 => ?_)
                · have u8_2p := of_decide_eq_false (bnotT u8_2)
                  refine wl_guardT rfl rfl rfl u8_2 ?_
                  refine wl_valE (v := .int .i64 ((i : Nat) : Int)) rfl (rf_move rfl) rfl ?_
                  refine wl_guardT rfl rfl rfl u8_2 ?_
                  refine wl_valE (v := .bool (decide (((i : Nat) : Int) = (0 : Int)))) rfl (rf_eql rfl rfl rfl rfl) rfl ?_
                  refine wl_guardT rfl rfl rfl u8_2 ?_
                  refine wl_valE (v := .bool (decide (((i : Nat) : Int) = (0 : Int)))) rfl (rf_move rfl) rfl ?_
                  refine wl_split (decide (((i : Nat) : Int) = (0 : Int))) (fun u8_5 => ?_) (fun u8_5 => ?_)
                  · have u8_5p := of_decide_eq_true u8_5
                    refine wl_guardF rfl rfl rfl u8_5 ?_
                    refine wl_guardF rfl rfl rfl u8_5 ?_
                    refine wl_guardF rfl rfl rfl u8_5 ?_
                    refine wl_guardS rfl rfl rfl ?_
                    refine wl_guardS rfl rfl rfl ?_
                    refine wl_guardS rfl rfl rfl ?_
                    refine wl_guardS rfl rfl rfl ?_
                    refine wl_guardS rfl rfl rfl ?_
                    refine wl_guardS rfl rfl rfl ?_
                    refine wl_guardF rfl rfl rfl u8_5 ?_
                    refine wl_guardT rfl rfl rfl u8_2 ?_
                    refine wl_valE (v := .bool true) rfl (rf_pickT rfl rfl rfl u8_5) rfl ?_
                    refine wl_valE (v := .bool true) rfl (rf_pickT rfl rfl rfl u8_2) rfl ?_
                    refine wl_nil ?_
                    refine thn ?_
                    refine condT rfl rfl ?_
                    refine seq_ ?_
                    refine region_ ?_
                    refine wl_valE (v := .bool false) rfl (rf_assign rfl) rfl ?_
                    refine wl_nil ?_
                    refine thn ?_
                    refine ret_ ?_
                    refine blr (thr (thr (blr (thr ?_))))
                    refine fin1 (v := .bool false) Try.results26 rfl rfl ?_
                    exact ⟨_, ⟨congrArg Value.bool (by first | exact (decide_eq_false (name_bad (by omega) hcc (by unfold okC; omega))).symm | exact (decide_eq_false (fun hn => by have := hn.1; omega)).symm | exact (decide_eq_true ⟨by omega, fun j h => hno j h (by omega)⟩).symm), rfl⟩, HL0.pick' [] rfl rfl⟩
                  · have u8_5p := of_decide_eq_false u8_5
                    refine wl_guardT rfl rfl rfl u8_5 ?_
                    refine wl_valE (v := .int .u8 cc) rfl (rf_move rfl) rfl ?_
                    refine wl_guardT rfl rfl rfl u8_5 ?_
                    refine wl_valE (v := .bool (decide (cc ≠ (95 : Int)))) rfl (rf_neq rfl rfl rfl rfl) rfl ?_
                    refine wl_guardT rfl rfl rfl u8_5 ?_
                    refine wl_valE (v := .bool (decide (cc ≠ (95 : Int)))) rfl (rf_move rfl) rfl ?_
                    refine wl_split (decide (cc ≠ (95 : Int))) (fun u8_8 => ?_) (fun u8_8 => ?_)
                    · have u8_8p := of_decide_eq_true u8_8
                      refine wl_guardT rfl rfl rfl u8_8 ?_
                      refine wl_valE (v := .int .u8 cc) rfl (rf_move rfl) rfl ?_
                      refine wl_guardT rfl rfl rfl u8_8 ?_
                      refine wl_valE (v := .bool (decide (cc < (48 : Int)))) rfl (rf_lss rfl rfl rfl rfl) rfl ?_
                      refine wl_guardT rfl rfl rfl u8_8 ?_
                      refine wl_valE (v := .bool (decide (cc < (48 : Int)))) rfl (rf_move rfl) rfl ?_
                      refine wl_split (decide (cc < (48 : Int))) (fun u8_11 => ?_) (fun u8_11 => ?_)
                      · have u8_11p := of_decide_eq_true u8_11
                        refine wl_guardF rfl rfl rfl u8_11 ?_
                        refine wl_guardF rfl rfl rfl u8_11 ?_
                        refine wl_guardT rfl rfl rfl u8_8 ?_
                        refine wl_valE (v := .bool true) rfl (rf_pickT rfl rfl rfl u8_11) rfl ?_
                        refine wl_guardT rfl rfl rfl u8_5 ?_
                        refine wl_valE (v := .bool true) rfl (rf_pickT rfl rfl rfl u8_8) rfl ?_
                        refine wl_guardT rfl rfl rfl u8_2 ?_
                        refine wl_valE (v := .bool true) rfl (rf_pickF rfl rfl rfl u8_5) rfl ?_
                        refine wl_valE (v := .bool true) rfl (rf_pickT rfl rfl rfl u8_2) rfl ?_
                        refine wl_nil ?_
                        refine thn ?_
                        refine condT rfl rfl ?_
                        refine seq_ ?_
                        refine region_ ?_
                        refine wl_valE (v := .bool false) rfl (rf_assign rfl) rfl ?_
                        refine wl_nil ?_
                        refine thn ?_
                        refine ret_ ?_
                        refine blr (thr (thr (blr (thr ?_))))
                        refine fin1 (v := .bool false) Try.results26 rfl rfl ?_
                        exact ⟨_, ⟨congrArg Value.bool (by first | exact (decide_eq_false (name_bad (by omega) hcc (by unfold okC; omega))).symm | exact (decide_eq_false (fun hn => by have := hn.1; omega)).symm | exact (decide_eq_true ⟨by omega, fun j h => hno j h (by omega)⟩).symm), rfl⟩, HL0.pick' [] rfl rfl⟩
                      · have u8_11p := of_decide_eq_false u8_11
                        refine wl_guardT rfl rfl rfl u8_11 ?_
                        refine wl_valE (v := .int .u8 cc) rfl (rf_move rfl) rfl ?_
                        refine wl_guardT rfl rfl rfl u8_11 ?_
                        refine wl_valE (v := .bool (decide ((57 : Int) < cc))) rfl (rf_gtr rfl rfl rfl rfl) rfl ?_
                        refine wl_guardT rfl rfl rfl u8_8 ?_
                        refine wl_valE (v := .bool (decide ((57 : Int) < cc))) rfl (rf_pickF rfl rfl rfl u8_11) rfl ?_
                        refine wl_guardT rfl rfl rfl u8_5 ?_
                        refine wl_valE (v := .bool (decide ((57 : Int) < cc))) rfl (rf_pickT rfl rfl rfl u8_8) rfl ?_
                        refine wl_guardT rfl rfl rfl u8_2 ?_
                        refine wl_valE (v := .bool (decide ((57 : Int) < cc))) rfl (rf_pickF rfl rfl rfl u8_5) rfl ?_
                        refine wl_valE (v := .bool (decide ((57 : Int) < cc))) rfl (rf_pickT rfl rfl rfl u8_2) rfl ?_
                        refine wl_nil ?_
                        refine thn ?_
                        refine cond_ (t := decide ((57 : Int) < cc)) rfl rfl (fun c54 => ?_) (fun c54 => ?_)
                        · have c54p := of_decide_eq_true c54
                          refine seq_ ?_
                          refine region_ ?_
                          refine wl_valE (v := .bool false) rfl (rf_assign rfl) rfl ?_
                          refine wl_nil ?_
                          refine thn ?_
                          refine ret_ ?_
                          refine blr (thr (thr (blr (thr ?_))))
                          refine fin1 (v := .bool false) Try.results26 rfl rfl ?_
                          exact ⟨_, ⟨congrArg Value.bool (by first | exact (decide_eq_false (name_bad (by omega) hcc (by unfold okC; omega))).symm | exact (decide_eq_false (fun hn => by have := hn.1; omega)).symm | exact (decide_eq_true ⟨by omega, fun j h => hno j h (by omega)⟩).symm), rfl⟩, HL0.pick' [] rfl rfl⟩
                        · have c54p := of_decide_eq_false c54
                          refine skip_ ?_
                          refine bln ?_
                          refine thn ?_
                          refine region_ ?_
                          refine wl_valE (v := .int .i64 ((i : Nat) : Int)) rfl (rf_move rfl) rfl ?_
                          refine wl_valE (v := .int .i64 ((i + 1 : Nat) : Int)) rfl (rf_add rfl rfl rfl rfl (IntWalk.i64_in _ (by omega))) rfl ?_
                          refine wl_valE (v := .int .i64 ((i + 1 : Nat) : Int)) rfl (rf_assign rfl) rfl ?_
                          refine wl_nil ?_
                          refine thn ?_
                          refine ⟨s.size - (i + 1), _, rfl, (by omega), _, i + 1, upds_self ⟨rfl, rfl, trivial⟩, rfl, by omega, fun j h h2 => by
                            rcases Nat.lt_or_eq_of_le (Nat.le_of_lt_succ h2) with h3 | h3
                            · exact hno j h h3
                            · subst h3; rw [hcc]; unfold okC; omega, HL0.pick' [] rfl rfl⟩
                    · have u8_8p := of_decide_eq_false u8_8
                      refine wl_guardF rfl rfl rfl u8_8 ?_
                      refine wl_guardF rfl rfl rfl u8_8 ?_
                      refine wl_guardF rfl rfl rfl u8_8 ?_
                      refine wl_guardS rfl rfl rfl ?_
                      refine wl_guardS rfl rfl rfl ?_
                      refine wl_guardF rfl rfl rfl u8_8 ?_
                      refine wl_guardT rfl rfl rfl u8_5 ?_
                      refine wl_valE (v := .bool false) rfl (rf_pickF rfl rfl rfl u8_8) rfl ?_
                      refine wl_guardT rfl rfl rfl u8_2 ?_
                      refine wl_valE (v := .bool false) rfl (rf_pickF rfl rfl rfl u8_5) rfl ?_
                      refine wl_valE (v := .bool false) rfl (rf_pickT rfl rfl rfl u8_2) rfl ?_
                      refine wl_nil ?_
                      refine thn ?_
                      refine condF rfl rfl ?_
                      refine skip_ ?_
                      refine bln ?_
                      refine thn ?_
                      refine region_ ?_
                      refine wl_valE (v := .int .i64 ((i : Nat) : Int)) rfl (rf_move rfl) rfl ?_
                      refine wl_valE (v := .int .i64 ((i + 1 : Nat) : Int)) rfl (rf_add rfl rfl rfl rfl (IntWalk.i64_in _ (by omega))) rfl ?_
                      refine wl_valE (v := .int .i64 ((i + 1 : Nat) : Int)) rfl (rf_assign rfl) rfl ?_
                      refine wl_nil ?_
                      refine thn ?_
                      refine ⟨s.size - (i + 1), _, rfl, (by omega), _, i + 1, upds_self ⟨rfl, rfl, trivial⟩, rfl, by omega, fun j h h2 => by
                        rcases Nat.lt_or_eq_of_le (Nat.le_of_lt_succ h2) with h3 | h3
                        · exact hno j h h3
                        · subst h3; rw [hcc]; unfold okC; omega, HL0.pick' [] rfl rfl⟩
                · have u8_2p := of_decide_eq_true (bnotF u8_2)
                  refine wl_guardF rfl rfl rfl u8_2 ?_
                  refine wl_guardF rfl rfl rfl u8_2 ?_
                  refine wl_guardF rfl rfl rfl u8_2 ?_
                  refine wl_guardS rfl rfl rfl ?_
                  refine wl_guardS rfl rfl rfl ?_
                  refine wl_guardS rfl rfl rfl ?_
                  refine wl_guardS rfl rfl rfl ?_
                  refine wl_guardS rfl rfl rfl ?_
                  refine wl_guardS rfl rfl rfl ?_
                  refine wl_guardS rfl rfl rfl ?_
                  refine wl_guardS rfl rfl rfl ?_
                  refine wl_guardS rfl rfl rfl ?_
                  refine wl_guardS rfl rfl rfl ?_
                  refine wl_guardF rfl rfl rfl u8_2 ?_
                  refine wl_valE (v := .bool false) rfl (rf_pickF rfl rfl rfl u8_2) rfl ?_
                  refine wl_nil ?_
                  refine thn ?_
                  refine condF rfl rfl ?_
                  refine skip_ ?_
                  refine bln ?_
                  refine thn ?_
                  refine region_ ?_
                  refine wl_valE (v := .int .i64 ((i : Nat) : Int)) rfl (rf_move rfl) rfl ?_
                  refine wl_valE (v := .int .i64 ((i + 1 : Nat) : Int)) rfl (rf_add rfl rfl rfl rfl (IntWalk.i64_in _ (by omega))) rfl ?_
                  refine wl_valE (v := .int .i64 ((i + 1 : Nat) : Int)) rfl (rf_assign rfl) rfl ?_
                  refine wl_nil ?_
                  refine thn ?_
                  refine ⟨s.size - (i + 1), _, rfl, (by omega), _, i + 1, upds_self ⟨rfl, rfl, trivial⟩, rfl, by omega, fun j h h2 => by
                    rcases Nat.lt_or_eq_of_le (Nat.le_of_lt_succ h2) with h3 | h3
                    · exact hno j h h3
                    · subst h3; rw [hcc]; unfold okC; omega, HL0.pick' [] rfl rfl⟩
              · have u7_9p := of_decide_eq_false u7_9
                refine wl_guardF rfl rfl rfl u7_9 ?_
                refine wl_guardF rfl rfl rfl u7_9 ?_
                refine wl_guardT rfl rfl rfl u7_6 ?_
                refine wl_valE (v := .bool false) rfl (rf_pickF rfl rfl rfl u7_9) rfl ?_
                refine wl_valE (v := .bool false) rfl (rf_pickF rfl rfl rfl u7_6) rfl ?_
                refine wl_valE (v := .bool false) rfl (rf_assign rfl) rfl ?_
                refine wl_nil ?_
                refine thn ?_
                refine seq_ ?_
                refine region_ ?_
                refine wl_valE (v := .bool false) rfl (rf_move rfl) rfl ?_
                refine wl_valE (v := .bool true) rfl (rf_not rfl rfl) rfl ?_
                refine wl_valE (v := .bool true) rfl (rf_move rfl) rfl ?_
                refine wl_guardT rfl rfl rfl rfl ?_
                refine wl_valE (v := .int .i64 ((i : Nat) : Int)) rfl (rf_move rfl) rfl ?_
                refine wl_guardT rfl rfl rfl rfl ?_
                refine wl_valE (v := .bool (decide (((i : Nat) : Int) = (0 : Int)))) rfl (rf_eql rfl rfl rfl rfl) rfl ?_
                refine wl_guardT rfl rfl rfl rfl ?_
                refine wl_valE (v := .bool (decide (((i : Nat) : Int) = (0 : Int)))) rfl (rf_move rfl) rfl ?_
                refine wl_split (decide (((i : Nat) : Int) = (0 : Int))) (fun u8_5 => ?_) (fun u8_5 => ?_)
                · have u8_5p := of_decide_eq_true u8_5
                  refine wl_guardF rfl rfl rfl u8_5 ?_
                  refine wl_guardF rfl rfl rfl u8_5 ?_
                  refine wl_guardF rfl rfl rfl u8_5 ?_
                  refine wl_guardS rfl rfl rfl ?_
                  refine wl_guardS rfl rfl rfl ?_
                  refine wl_guardS rfl rfl rfl ?_
                  refine wl_guardS rfl rfl rfl ?_
                  refine wl_guardS rfl rfl rfl ?_
                  refine wl_guardS rfl rfl rfl ?_
                  refine wl_guardF rfl rfl rfl u8_5 ?_
                  refine wl_guardT rfl rfl rfl rfl ?_
                  refine wl_valE (v := .bool true) rfl (rf_pickT rfl rfl rfl u8_5) rfl ?_
                  refine wl_valE (v := .bool true) rfl (rf_pickT rfl rfl rfl rfl) rfl ?_
                  refine wl_nil ?_
                  refine thn ?_
                  refine condT rfl rfl ?_
                  refine seq_ ?_
                  refine region_ ?_
                  refine wl_valE (v := .bool false) rfl (rf_assign rfl) rfl ?_
                  refine wl_nil ?_
                  refine thn ?_
                  refine ret_ ?_
                  refine blr (thr (thr (blr (thr ?_))))
                  refine fin1 (v := .bool false) Try.results26 rfl rfl ?_
                  exact ⟨_, ⟨congrArg Value.bool (by first | exact (decide_eq_false (name_bad (by omega) hcc (by unfold okC; omega))).symm | exact (decide_eq_false (fun hn => by have := hn.1; omega)).symm | exact (decide_eq_true ⟨by omega, fun j h => hno j h (by omega)⟩).symm), rfl⟩, HL0.pick' [] rfl rfl⟩
                · have u8_5p := of_decide_eq_false u8_5
                  refine wl_guardT rfl rfl rfl u8_5 ?_
                  refine wl_valE (v := .int .u8 cc) rfl (rf_move rfl) rfl ?_
                  refine wl_guardT rfl rfl rfl u8_5 ?_
                  refine wl_valE (v := .bool (decide (cc ≠ (95 : Int)))) rfl (rf_neq rfl rfl rfl rfl) rfl ?_
                  refine wl_guardT rfl rfl rfl u8_5 ?_
                  refine wl_valE (v := .bool (decide (cc ≠ (95 : Int)))) rfl (rf_move rfl) rfl ?_
                  refine wl_split (decide (cc ≠ (95 : Int))) (fun u8_8 => ?_) (fun u8_8 => ?_)
                  · have u8_8p := of_decide_eq_true u8_8
                    refine wl_guardT rfl rfl rfl u8_8 ?_
                    refine wl_valE (v := .int .u8 cc) rfl (rf_move rfl) rfl ?_
                    refine wl_guardT rfl rfl rfl u8_8 ?_
                    refine wl_valE (v := .bool (decide (cc < (48 : Int)))) rfl (rf_lss rfl rfl rfl rfl) rfl ?_
                    refine wl_guardT rfl rfl rfl u8_8 ?_
                    refine wl_valE (v := .bool (decide (cc < (48 : Int)))) rfl (rf_move rfl) rfl ?_
                    refine wl_split (decide (cc < (48 : Int))) (fun u8_11 => ?_) (fun u8_11 => ?_)
                    · have u8_11p := of_decide_eq_true u8_11
                      refine wl_guardF rfl rfl rfl u8_11 ?_
                      refine wl_guardF rfl rfl rfl u8_11 ?_
                      refine wl_guardT rfl rfl rfl u8_8 ?_
                      refine wl_valE (v := .bool true) rfl (rf_pickT rfl rfl rfl u8_11) rfl ?_
                      refine wl_guardT rfl rfl rfl u8_5 ?_
                      refine wl_valE (v := .bool true) rfl (rf_pickT rfl rfl rfl u8_8) rfl ?_
                      refine wl_guardT rfl rfl rfl rfl ?_
                      refine wl_valE (v := .bool true) rfl (rf_pickF rfl rfl rfl u8_5) rfl ?_
                      refine wl_valE (v := .bool true) rfl (rf_pickT rfl rfl rfl rfl) rfl ?_
                      refine wl_nil ?_
                      refine thn ?_
                      refine condT rfl rfl ?_
                      refine seq_ ?_
                      refine region_ ?_
                      refine wl_valE (v := .bool false) rfl (rf_assign rfl) rfl ?_
                      refine wl_nil ?_
                      refine thn ?_
                      refine ret_ ?_
                      refine blr (thr (thr (blr (thr ?_))))
                      refine fin1 (v := .bool false) Try.results26 rfl rfl ?_
                      exact ⟨_, ⟨congrArg Value.bool (by first | exact (decide_eq_false (name_bad (by omega) hcc (by unfold okC; omega))).symm | exact (decide_eq_false (fun hn => by have := hn.1; omega)).symm | exact (decide_eq_true ⟨by omega, fun j h => hno j h (by omega)⟩).symm), rfl⟩, HL0.pick' [] rfl rfl⟩
                    · have u8_11p := of_decide_eq_false u8_11
                      refine wl_guardT rfl rfl rfl u8_11 ?_
                      refine wl_valE (v := .int .u8 cc) rfl (rf_move rfl) rfl ?_
                      refine wl_guardT rfl rfl rfl u8_11 ?_
                      refine wl_valE (v := .bool (decide ((57 : Int) < cc))) rfl (rf_gtr rfl rfl rfl rfl) rfl ?_
                      refine wl_guardT rfl rfl rfl u8_8 ?_
                      refine wl_valE (v := .bool (decide ((57 : Int) < cc))) rfl (rf_pickF rfl rfl rfl u8_11) rfl ?_
                      refine wl_guardT rfl rfl rfl u8_5 ?_
                      refine wl_valE (v := .bool (decide ((57 : Int) < cc))) rfl (rf_pickT rfl rfl rfl u8_8) rfl ?_
                      refine wl_guardT rfl rfl rfl rfl ?_
                      refine wl_valE (v := .bool (decide ((57 : Int) < cc))) rfl (rf_pickF rfl rfl rfl u8_5) rfl ?_
                      refine wl_valE (v := .bool (decide ((57 : Int) < cc))) rfl (rf_pickT rfl rfl rfl rfl) rfl ?_
                      refine wl_nil ?_
                      refine thn ?_
                      refine cond_ (t := decide ((57 : Int) < cc)) rfl rfl (fun c54 => ?_) (fun c54 => ?_)
                      · have c54p := of_decide_eq_true c54
                        refine seq_ ?_
                        refine region_ ?_
                        refine wl_valE (v := .bool false) rfl (rf_assign rfl) rfl ?_
                        refine wl_nil ?_
                        refine thn ?_
                        refine ret_ ?_
                        refine blr (thr (thr (blr (thr ?_))))
                        refine fin1 (v := .bool false) Try.results26 rfl rfl ?_
                        exact ⟨_, ⟨congrArg Value.bool (by first | exact (decide_eq_false (name_bad (by omega) hcc (by unfold okC; omega))).symm | exact (decide_eq_false (fun hn => by have := hn.1; omega)).symm | exact (decide_eq_true ⟨by omega, fun j h => hno j h (by omega)⟩).symm), rfl⟩, HL0.pick' [] rfl rfl⟩
                      · have c54p := of_decide_eq_false c54
                        refine skip_ ?_
                        refine bln ?_
                        refine thn ?_
                        refine region_ ?_
                        refine wl_valE (v := .int .i64 ((i : Nat) : Int)) rfl (rf_move rfl) rfl ?_
                        refine wl_valE (v := .int .i64 ((i + 1 : Nat) : Int)) rfl (rf_add rfl rfl rfl rfl (IntWalk.i64_in _ (by omega))) rfl ?_
                        refine wl_valE (v := .int .i64 ((i + 1 : Nat) : Int)) rfl (rf_assign rfl) rfl ?_
                        refine wl_nil ?_
                        refine thn ?_
                        refine ⟨s.size - (i + 1), _, rfl, (by omega), _, i + 1, upds_self ⟨rfl, rfl, trivial⟩, rfl, by omega, fun j h h2 => by
                          rcases Nat.lt_or_eq_of_le (Nat.le_of_lt_succ h2) with h3 | h3
                          · exact hno j h h3
                          · subst h3; rw [hcc]; unfold okC; omega, HL0.pick' [] rfl rfl⟩
                  · have u8_8p := of_decide_eq_false u8_8
                    refine wl_guardF rfl rfl rfl u8_8 ?_
                    refine wl_guardF rfl rfl rfl u8_8 ?_
                    refine wl_guardF rfl rfl rfl u8_8 ?_
                    refine wl_guardS rfl rfl rfl ?_
                    refine wl_guardS rfl rfl rfl ?_
                    refine wl_guardF rfl rfl rfl u8_8 ?_
                    refine wl_guardT rfl rfl rfl u8_5 ?_
                    refine wl_valE (v := .bool false) rfl (rf_pickF rfl rfl rfl u8_8) rfl ?_
                    refine wl_guardT rfl rfl rfl rfl ?_
                    refine wl_valE (v := .bool false) rfl (rf_pickF rfl rfl rfl u8_5) rfl ?_
                    refine wl_valE (v := .bool false) rfl (rf_pickT rfl rfl rfl rfl) rfl ?_
                    refine wl_nil ?_
                    refine thn ?_
                    refine condF rfl rfl ?_
                    refine skip_ ?_
                    refine bln ?_
                    refine thn ?_
                    refine region_ ?_
                    refine wl_valE (v := .int .i64 ((i : Nat) : Int)) rfl (rf_move rfl) rfl ?_
                    refine wl_valE (v := .int .i64 ((i + 1 : Nat) : Int)) rfl (rf_add rfl rfl rfl rfl (IntWalk.i64_in _ (by omega))) rfl ?_
                    refine wl_valE (v := .int .i64 ((i + 1 : Nat) : Int)) rfl (rf_assign rfl) rfl ?_
                    refine wl_nil ?_
                    refine thn ?_
                    refine ⟨s.size - (i + 1), _, rfl, (by omega), _, i + 1, upds_self ⟨rfl, rfl, trivial⟩, rfl, by omega, fun j h h2 => by
                      rcases Nat.lt_or_eq_of_le (Nat.le_of_lt_succ h2) with h3 | h3
                      · exact hno j h h3
                      · subst h3; rw [hcc]; unfold okC; omega, HL0.pick' [] rfl rfl⟩
          · have u7_2p := of_decide_eq_false u7_2
            refine wl_guardF rfl rfl rfl u7_2 ?_
            refine wl_guardF rfl rfl rfl u7_2 ?_
            refine wl_valE (v := .bool false) rfl (rf_pickF rfl rfl rfl u7_2) rfl ?_
            refine wl_valE (v := .bool false) rfl (rf_move rfl) rfl ?_
            refine wl_guardT rfl rfl rfl rfl ?_
            refine wl_valE (v := .int .u8 cc) rfl (rf_move rfl) rfl ?_
            refine wl_guardT rfl rfl rfl rfl ?_
            refine wl_valE (v := .bool (decide ((65 : Int) ≤ cc))) rfl (rf_geq rfl rfl rfl rfl) rfl ?_
            refine wl_guardT rfl rfl rfl rfl ?_
            refine wl_valE (v := .bool (decide ((65 : Int) ≤ cc))) rfl (rf_move rfl) rfl ?_
            refine wl_split (decide ((65 : Int) ≤ cc)) (fun u7_9 => ?_) (fun u7_9 => ?_)
            · have u7_9p := of_decide_eq_true u7_9
              refine wl_guardT rfl rfl rfl u7_9 ?_
              refine wl_valE (v := .int .u8 cc) rfl (rf_move rfl) rfl ?_
              refine wl_guardT rfl rfl rfl u7_9 ?_
              refine wl_valE (v := .bool (decide (cc ≤ (90 : Int)))) rfl (rf_leq rfl rfl rfl rfl) rfl ?_
              refine wl_guardT rfl rfl rfl rfl ?_
              refine wl_valE (v := .bool (decide (cc ≤ (90 : Int)))) rfl (rf_pickT rfl rfl rfl u7_9) rfl ?_
              refine wl_valE (v := .bool (decide (cc ≤ (90 : Int)))) rfl (rf_pickF rfl rfl rfl rfl) rfl ?_
              refine wl_valE (v := .bool (decide (cc ≤ (90 : Int)))) rfl (rf_assign rfl) rfl ?_
              refine wl_nil ?_
              refine thn ?_
              refine seq_ ?_
              refine region_ ?_
              refine wl_valE (v := .bool (decide (cc ≤ (90 : Int)))) rfl (rf_move rfl) rfl ?_
              refine wl_valE (v := .bool (!(decide (cc ≤ (90 : Int))))) rfl (rf_not rfl rfl) rfl ?_
              refine wl_valE (v := .bool (!(decide (cc ≤ (90 : Int))))) rfl (rf_move rfl) rfl ?_
              refine wl_split (!(decide (cc ≤ (90 : Int)))) (fun u8_2 => ?_) (fun u8_2 => ?_)
              · have u8_2p := of_decide_eq_false (bnotT u8_2)
                refine wl_guardT rfl rfl rfl u8_2 ?_
                refine wl_valE (v := .int .i64 ((i : Nat) : Int)) rfl (rf_move rfl) rfl ?_
                refine wl_guardT rfl rfl rfl u8_2 ?_
                refine wl_valE (v := .bool (decide (((i : Nat) : Int) = (0 : Int)))) rfl (rf_eql rfl rfl rfl rfl) rfl ?_
                refine wl_guardT rfl rfl rfl u8_2 ?_
                refine wl_valE (v := .bool (decide (((i : Nat) : Int) = (0 : Int)))) rfl (rf_move rfl) rfl ?_
                refine wl_split (decide (((i : Nat) : Int) = (0 : Int))) (fun u8_5 => ?_) (fun u8_5 => ?_)
                · have u8_5p := of_decide_eq_true u8_5
                  refine wl_guardF rfl rfl rfl u8_5 ?_
                  refine wl_guardF rfl rfl rfl u8_5 ?_
                  refine wl_guardF rfl rfl rfl u8_5 ?_
                  refine wl_guardS rfl rfl rfl ?_
                  refine wl_guardS rfl rfl rfl ?_
                  refine wl_guardS rfl rfl rfl ?_
                  refine wl_guardS rfl rfl rfl ?_
                  refine wl_guardS rfl rfl rfl ?_
                  refine wl_guardS rfl rfl rfl ?_
                  refine wl_guardF rfl rfl rfl u8_5 ?_
                  refine wl_guardT rfl rfl rfl u8_2 ?_
                  refine wl_valE (v := .bool true) rfl (rf_pickT rfl rfl rfl u8_5) rfl ?_
                  refine wl_valE (v := .bool true) rfl (rf_pickT rfl rfl rfl u8_2) rfl ?_
                  refine wl_nil ?_
                  refine thn ?_
                  refine condT rfl rfl ?_
                  refine seq_ ?_
                  refine region_ ?_
                  refine wl_valE (v := .bool false) rfl (rf_assign rfl) rfl ?_
                  refine wl_nil ?_
                  refine thn ?_
                  refine ret_ ?_
                  refine blr (thr (thr (blr (thr ?_))))
                  refine fin1 (v := .bool false) Try.results26 rfl rfl ?_
                  exact ⟨_, ⟨congrArg Value.bool (by first | exact (decide_eq_false (name_bad (by omega) hcc (by unfold okC; omega))).symm | exact (decide_eq_false (fun hn => by have := hn.1; omega)).symm | exact (decide_eq_true ⟨by omega, fun j h => hno j h (by omega)⟩).symm), rfl⟩, HL0.pick' [] rfl rfl⟩
                · have u8_5p := of_decide_eq_false u8_5
                  refine wl_guardT rfl rfl rfl u8_5 ?_
                  refine wl_valE (v := .int .u8 cc) rfl (rf_move rfl) rfl ?_
                  refine wl_guardT rfl rfl rfl u8_5 ?_
                  refine wl_valE (v := .bool (decide (cc ≠ (95 : Int)))) rfl (rf_neq rfl rfl rfl rfl) rfl ?_
                  refine wl_guardT rfl rfl rfl u8_5 ?_
                  refine wl_valE (v := .bool (decide (cc ≠ (95 : Int)))) rfl (rf_move rfl) rfl ?_
                  refine wl_split (decide (cc ≠ (95 : Int))) (fun u8_8 => ?_) (fun u8_8 => ?_)
                  · have u8_8p := of_decide_eq_true u8_8
                    refine wl_guardT rfl rfl rfl u8_8 ?_
                    refine wl_valE (v := .int .u8 cc) rfl (rf_move rfl) rfl ?_
                    refine wl_guardT rfl rfl rfl u8_8 ?_
                    refine wl_valE (v := .bool (decide (cc < (48 : Int)))) rfl (rf_lss rfl rfl rfl rfl) rfl ?_
                    refine wl_guardT rfl rfl rfl u8_8 ?_
                    refine wl_valE (v := .bool (decide (cc < (48 : Int)))) rfl (rf_move rfl) rfl ?_
                    refine wl_split (decide (cc < (48 : Int))) (fun u8_11 => ?_) (fun u8_11 => ?_)
                    · have u8_11p := of_decide_eq_true u8_11
                      refine wl_guardF rfl rfl rfl u8_11 ?_
                      refine wl_guardF rfl rfl rfl u8_11 ?_
                      refine wl_guardT rfl rfl rfl u8_8 ?_
                      refine wl_valE (v := .bool true) rfl (rf_pickT rfl rfl rfl u8_11) rfl ?_
                      refine wl_guardT rfl rfl rfl u8_5 ?_
                      refine wl_valE (v := .bool true) rfl (rf_pickT rfl rfl rfl u8_8) rfl ?_
                      refine wl_guardT rfl rfl rfl u8_2 ?_
                      refine wl_valE (v := .bool true) rfl (rf_pickF rfl rfl rfl u8_5) rfl ?_
                      refine wl_valE (v := .bool true) rfl (rf_pickT rfl rfl rfl u8_2) rfl ?_
                      refine wl_nil ?_
                      refine thn ?_
                      refine condT rfl rfl ?_
                      refine seq_ ?_
                      refine region_ ?_
                      refine wl_valE (v := .bool false) rfl (rf_assign rfl) rfl ?_
                      refine wl_nil ?_
                      refine thn ?_
                      refine ret_ ?_
                      refine blr (thr (thr (blr (thr ?_))))
                      refine fin1 (v := .bool false) Try.results26 rfl rfl ?_
                      exact ⟨_, ⟨congrArg Value.bool (by first | exact (decide_eq_false (name_bad (by omega) hcc (by unfold okC; omega))).symm | exact (decide_eq_false (fun hn => by have := hn.1; omega)).symm | exact (decide_eq_true ⟨by omega, fun j h => hno j h (by omega)⟩).symm), rfl⟩, HL0.pick' [] rfl rfl⟩
                    · have u8_11p := of_decide_eq_false u8_11
                      refine wl_guardT rfl rfl rfl u8_11 ?_
                      refine wl_valE (v := .int .u8 cc) rfl (rf_move rfl) rfl ?_
                      refine wl_guardT rfl rfl rfl u8_11 ?_
                      refine wl_valE (v := .bool (decide ((57 : Int) < cc))) rfl (rf_gtr rfl rfl rfl rfl) rfl ?_
                      refine wl_guardT rfl rfl rfl u8_8 ?_
                      refine wl_valE (v := .bool (decide ((57 : Int) < cc))) rfl (rf_pickF rfl rfl rfl u8_11) rfl ?_
                      refine wl_guardT rfl rfl rfl u8_5 ?_
                      refine wl_valE (v := .bool (decide ((57 : Int) < cc))) rfl (rf_pickT rfl rfl rfl u8_8) rfl ?_
                      refine wl_guardT rfl rfl rfl u8_2 ?_
                      refine wl_valE (v := .bool (decide ((57 : Int) < cc))) rfl (rf_pickF rfl rfl rfl u8_5) rfl ?_
                      refine wl_valE (v := .bool (decide ((57 : Int) < cc))) rfl (rf_pickT rfl rfl rfl u8_2) rfl ?_
                      refine wl_nil ?_
                      refine thn ?_
                      refine cond_ (t := decide ((57 : Int) < cc)) rfl rfl (fun c54 => ?_) (fun c54 => ?_)
                      · have c54p := of_decide_eq_true c54
                        refine seq_ ?_
                        refine region_ ?_
                        refine wl_valE (v := .bool false) rfl (rf_assign rfl) rfl ?_
                        refine wl_nil ?_
                        refine thn ?_
                        refine ret_ ?_
                        refine blr (thr (thr (blr (thr ?_))))
                        refine fin1 (v := .bool false) Try.results26 rfl rfl ?_
                        exact ⟨_, ⟨congrArg Value.bool (by first | exact (decide_eq_false (name_bad (by omega) hcc (by unfold okC; omega))).symm | exact (decide_eq_false (fun hn => by have := hn.1; omega)).symm | exact (decide_eq_true ⟨by omega, fun j h => hno j h (by omega)⟩).symm), rfl⟩, HL0.pick' [] rfl rfl⟩
                      · have c54p := of_decide_eq_false c54
                        refine skip_ ?_
                        refine bln ?_
                        refine thn ?_
                        refine region_ ?_
                        refine wl_valE (v := .int .i64 ((i : Nat) : Int)) rfl (rf_move rfl) rfl ?_
                        refine wl_valE (v := .int .i64 ((i + 1 : Nat) : Int)) rfl (rf_add rfl rfl rfl rfl (IntWalk.i64_in _ (by omega))) rfl ?_
                        refine wl_valE (v := .int .i64 ((i + 1 : Nat) : Int)) rfl (rf_assign rfl) rfl ?_
                        refine wl_nil ?_
                        refine thn ?_
                        refine ⟨s.size - (i + 1), _, rfl, (by omega), _, i + 1, upds_self ⟨rfl, rfl, trivial⟩, rfl, by omega, fun j h h2 => by
                          rcases Nat.lt_or_eq_of_le (Nat.le_of_lt_succ h2) with h3 | h3
                          · exact hno j h h3
                          · subst h3; rw [hcc]; unfold okC; omega, HL0.pick' [] rfl rfl⟩
                  · have u8_8p := of_decide_eq_false u8_8
                    refine wl_guardF rfl rfl rfl u8_8 ?_
                    refine wl_guardF rfl rfl rfl u8_8 ?_
                    refine wl_guardF rfl rfl rfl u8_8 ?_
                    refine wl_guardS rfl rfl rfl ?_
                    refine wl_guardS rfl rfl rfl ?_
                    refine wl_guardF rfl rfl rfl u8_8 ?_
                    refine wl_guardT rfl rfl rfl u8_5 ?_
                    refine wl_valE (v := .bool false) rfl (rf_pickF rfl rfl rfl u8_8) rfl ?_
                    refine wl_guardT rfl rfl rfl u8_2 ?_
                    refine wl_valE (v := .bool false) rfl (rf_pickF rfl rfl rfl u8_5) rfl ?_
                    refine wl_valE (v := .bool false) rfl (rf_pickT rfl rfl rfl u8_2) rfl ?_
                    refine wl_nil ?_
                    refine thn ?_
                    refine condF rfl rfl ?_
                    refine skip_ ?_
                    refine bln ?_
                    refine thn ?_
                    refine region_ ?_
                    refine wl_valE (v := .int .i64 ((i : Nat) : Int)) rfl (rf_move rfl) rfl ?_
                    refine wl_valE (v := .int .i64 ((i + 1 : Nat) : Int)) rfl (rf_add rfl rfl rfl rfl (IntWalk.i64_in _ (by omega))) rfl ?_
                    refine wl_valE (v := .int .i64 ((i + 1 : Nat) : Int)) rfl (rf_assign rfl) rfl ?_
                    refine wl_nil ?_
                    refine thn ?_
                    refine ⟨s.size - (i + 1), _, rfl, (by omega), _, i + 1, upds_self ⟨rfl, rfl, trivial⟩, rfl, by omega, fun j h h2 => by
                      rcases Nat.lt_or_eq_of_le (Nat.le_of_lt_succ h2) with h3 | h3
                      · exact hno j h h3
                      · subst h3; rw [hcc]; unfold okC; omega, HL0.pick' [] rfl rfl⟩
              · have u8_2p := of_decide_eq_true (bnotF u8_2)
                refine wl_guardF rfl rfl rfl u8_2 ?_
                refine wl_guardF rfl rfl rfl u8_2 ?_
                refine wl_guardF rfl rfl rfl u8_2 ?_
                refine wl_guardS rfl rfl rfl ?_
                refine wl_guardS rfl rfl rfl ?_
                refine wl_guardS rfl rfl rfl ?_
                refine wl_guardS rfl rfl rfl ?_
                refine wl_guardS rfl rfl rfl ?_
                refine wl_guardS rfl rfl rfl ?_
                refine wl_guardS rfl rfl rfl ?_
                refine wl_guardS rfl rfl rfl ?_
                refine wl_guardS rfl rfl rfl ?_
                refine wl_guardS rfl rfl rfl ?_
                refine wl_guardF rfl rfl rfl u8_2 ?_
                refine wl_valE (v := .bool false) rfl (rf_pickF rfl rfl rfl u8_2) rfl ?_
                refine wl_nil ?_
                refine thn ?_
                refine condF rfl rfl ?_
                refine skip_ ?_
                refine bln ?_
                refine thn ?_
                refine region_ ?_
                refine wl_valE (v := .int .i64 ((i : Nat) : Int)) rfl (rf_move rfl) rfl ?_
                refine wl_valE (v := .int .i64 ((i + 1 : Nat) : Int)) rfl (rf_add rfl rfl rfl rfl (IntWalk.i64_in _ (by omega))) rfl ?_
                refine wl_valE (v := .int .i64 ((i + 1 : Nat) : Int)) rfl (rf_assign rfl) rfl ?_
                refine wl_nil ?_
                refine thn ?_
                refine ⟨s.size - (i + 1), _, rfl, (by omega), _, i + 1, upds_self ⟨rfl, rfl, trivial⟩, rfl, by omega, fun j h h2 => by
                  rcases Nat.lt_or_eq_of_le (Nat.le_of_lt_succ h2) with h3 | h3
                  · exact hno j h h3
                  · subst h3; rw [hcc]; unfold okC; omega, HL0.pick' [] rfl rfl⟩
            · have u7_9p := of_decide_eq_false u7_9
              refine wl_guardF rfl rfl rfl u7_9 ?_
              refine wl_guardF rfl rfl rfl u7_9 ?_
              refine wl_guardT rfl rfl rfl rfl ?_
              refine wl_valE (v := .bool false) rfl (rf_pickF rfl rfl rfl u7_9) rfl ?_
              refine wl_valE (v := .bool false) rfl (rf_pickF rfl rfl rfl rfl) rfl ?_
              refine wl_valE (v := .bool false) rfl (rf_assign rfl) rfl ?_
              refine wl_nil ?_
              refine thn ?_
              refine seq_ ?_
              refine region_ ?_
              refine wl_valE (v := .bool false) rfl (rf_move rfl) rfl ?_
              refine wl_valE (v := .bool true) rfl (rf_not rfl rfl) rfl ?_
              refine wl_valE (v := .bool true) rfl (rf_move rfl) rfl ?_
              refine wl_guardT rfl rfl rfl rfl ?_
              refine wl_valE (v := .int .i64 ((i : Nat) : Int)) rfl (rf_move rfl) rfl ?_
              refine wl_guardT rfl rfl rfl rfl ?_
              refine wl_valE (v := .bool (decide (((i : Nat) : Int) = (0 : Int)))) rfl (rf_eql rfl rfl rfl rfl) rfl ?_
              refine wl_guardT rfl rfl rfl rfl ?_
              refine wl_valE (v := .bool (decide (((i : Nat) : Int) = (0 : Int)))) rfl (rf_move rfl) rfl ?_
              refine wl_split (decide (((i : Nat) : Int) = (0 : Int))) (fun u8_5 => ?_) (fun u8_5 => ?_)
              · have u8_5p := of_decide_eq_true u8_5
                refine wl_guardF rfl rfl rfl u8_5 ?_
                refine wl_guardF rfl rfl rfl u8_5 ?_
                refine wl_guardF rfl rfl rfl u8_5 ?_
                refine wl_guardS rfl rfl rfl ?_
                refine wl_guardS rfl rfl rfl ?_
                refine wl_guardS rfl rfl rfl ?_
                refine wl_guardS rfl rfl rfl ?_
                refine wl_guardS rfl rfl rfl ?_
                refine wl_guardS rfl rfl rfl ?_
                refine wl_guardF rfl rfl rfl u8_5 ?_
                refine wl_guardT rfl rfl rfl rfl ?_
                refine wl_valE (v := .bool true) rfl (rf_pickT rfl rfl rfl u8_5) rfl ?_
                refine wl_valE (v := .bool true) rfl (rf_pickT rfl rfl rfl rfl) rfl ?_
                refine wl_nil ?_
                refine thn ?_
                refine condT rfl rfl ?_
                refine seq_ ?_
                refine region_ ?_
                refine wl_valE (v := .bool false) rfl (rf_assign rfl) rfl ?_
                refine wl_nil ?_
                refine thn ?_
                refine ret_ ?_
                refine blr (thr (thr (blr (thr ?_))))
                refine fin1 (v := .bool false) Try.results26 rfl rfl ?_
                exact ⟨_, ⟨congrArg Value.bool (by first | exact (decide_eq_false (name_bad (by omega) hcc (by unfold okC; omega))).symm | exact (decide_eq_false (fun hn => by have := hn.1; omega)).symm | exact (decide_eq_true ⟨by omega, fun j h => hno j h (by omega)⟩).symm), rfl⟩, HL0.pick' [] rfl rfl⟩
              · have u8_5p := of_decide_eq_false u8_5
                refine wl_guardT rfl rfl rfl u8_5 ?_
                refine wl_valE (v := .int .u8 cc) rfl (rf_move rfl) rfl ?_
                refine wl_guardT rfl rfl rfl u8_5 ?_
                refine wl_valE (v := .bool (decide (cc ≠ (95 : Int)))) rfl (rf_neq rfl rfl rfl rfl) rfl ?_
                refine wl_guardT rfl rfl rfl u8_5 ?_
                refine wl_valE (v := .bool (decide (cc ≠ (95 : Int)))) rfl (rf_move rfl) rfl ?_
                refine wl_split (decide (cc ≠ (95 : Int))) (fun u8_8 => ?_) (fun u8_8 => ?_)
                · have u8_8p := of_decide_eq_true u8_8
                  refine wl_guardT rfl rfl rfl u8_8 ?_
                  refine wl_valE (v := .int .u8 cc) rfl (rf_move rfl) rfl ?_
                  refine wl_guardT rfl rfl rfl u8_8 ?_
                  refine wl_valE (v := .bool (decide (cc < (48 : Int)))) rfl (rf_lss rfl rfl rfl rfl) rfl ?_
                  refine wl_guardT rfl rfl rfl u8_8 ?_
                  refine wl_valE (v := .bool (decide (cc < (48 : Int)))) rfl (rf_move rfl) rfl ?_
                  refine wl_split (decide (cc < (48 : Int))) (fun u8_11 => ?_) (fun u8_11 => ?_)
                  · have u8_11p := of_decide_eq_true u8_11
                    refine wl_guardF rfl rfl rfl u8_11 ?_
                    refine wl_guardF rfl rfl rfl u8_11 ?_
                    refine wl_guardT rfl rfl rfl u8_8 ?_
                    refine wl_valE (v := .bool true) rfl (rf_pickT rfl rfl rfl u8_11) rfl ?_
                    refine wl_guardT rfl rfl rfl u8_5 ?_
                    refine wl_valE (v := .bool true) rfl (rf_pickT rfl rfl rfl u8_8) rfl ?_
                    refine wl_guardT rfl rfl rfl rfl ?_
                    refine wl_valE (v := .bool true) rfl (rf_pickF rfl rfl rfl u8_5) rfl ?_
                    refine wl_valE (v := .bool true) rfl (rf_pickT rfl rfl rfl rfl) rfl ?_
                    refine wl_nil ?_
                    refine thn ?_
                    refine condT rfl rfl ?_
                    refine seq_ ?_
                    refine region_ ?_
                    refine wl_valE (v := .bool false) rfl (rf_assign rfl) rfl ?_
                    refine wl_nil ?_
                    refine thn ?_
                    refine ret_ ?_
                    refine blr (thr (thr (blr (thr ?_))))
                    refine fin1 (v := .bool false) Try.results26 rfl rfl ?_
                    exact ⟨_, ⟨congrArg Value.bool (by first | exact (decide_eq_false (name_bad (by omega) hcc (by unfold okC; omega))).symm | exact (decide_eq_false (fun hn => by have := hn.1; omega)).symm | exact (decide_eq_true ⟨by omega, fun j h => hno j h (by omega)⟩).symm), rfl⟩, HL0.pick' [] rfl rfl⟩
                  · have u8_11p := of_decide_eq_false u8_11
                    refine wl_guardT rfl rfl rfl u8_11 ?_
                    refine wl_valE (v := .int .u8 cc) rfl (rf_move rfl) rfl ?_
                    refine wl_guardT rfl rfl rfl u8_11 ?_
                    refine wl_valE (v := .bool (decide ((57 : Int) < cc))) rfl (rf_gtr rfl rfl rfl rfl) rfl ?_
                    refine wl_guardT rfl rfl rfl u8_8 ?_
                    refine wl_valE (v := .bool (decide ((57 : Int) < cc))) rfl (rf_pickF rfl rfl rfl u8_11) rfl ?_
                    refine wl_guardT rfl rfl rfl u8_5 ?_
                    refine wl_valE (v := .bool (decide ((57 : Int) < cc))) rfl (rf_pickT rfl rfl rfl u8_8) rfl ?_
                    refine wl_guardT rfl rfl rfl rfl ?_
                    refine wl_valE (v := .bool (decide ((57 : Int) < cc))) rfl (rf_pickF rfl rfl rfl u8_5) rfl ?_
                    refine wl_valE (v := .bool (decide ((57 : Int) < cc))) rfl (rf_pickT rfl rfl rfl rfl) rfl ?_
                    refine wl_nil ?_
                    refine thn ?_
                    refine cond_ (t := decide ((57 : Int) < cc)) rfl rfl (fun c54 => ?_) (fun c54 => ?_)
                    · have c54p := of_decide_eq_true c54
                      refine seq_ ?_
                      refine region_ ?_
                      refine wl_valE (v := .bool false) rfl (rf_assign rfl) rfl ?_
                      refine wl_nil ?_
                      refine thn ?_
                      refine ret_ ?_
                      refine blr (thr (thr (blr (thr ?_))))
                      refine fin1 (v := .bool false) Try.results26 rfl rfl ?_
                      exact ⟨_, ⟨congrArg Value.bool (by first | exact (decide_eq_false (name_bad (by omega) hcc (by unfold okC; omega))).symm | exact (decide_eq_false (fun hn => by have := hn.1; omega)).symm | exact (decide_eq_true ⟨by omega, fun j h => hno j h (by omega)⟩).symm), rfl⟩, HL0.pick' [] rfl rfl⟩
                    · have c54p := of_decide_eq_false c54
                      refine skip_ ?_
                      refine bln ?_
                      refine thn ?_
                      refine region_ ?_
                      refine wl_valE (v := .int .i64 ((i : Nat) : Int)) rfl (rf_move rfl) rfl ?_
                      refine wl_valE (v := .int .i64 ((i + 1 : Nat) : Int)) rfl (rf_add rfl rfl rfl rfl (IntWalk.i64_in _ (by omega))) rfl ?_
                      refine wl_valE (v := .int .i64 ((i + 1 : Nat) : Int)) rfl (rf_assign rfl) rfl ?_
                      refine wl_nil ?_
                      refine thn ?_
                      refine ⟨s.size - (i + 1), _, rfl, (by omega), _, i + 1, upds_self ⟨rfl, rfl, trivial⟩, rfl, by omega, fun j h h2 => by
                        rcases Nat.lt_or_eq_of_le (Nat.le_of_lt_succ h2) with h3 | h3
                        · exact hno j h h3
                        · subst h3; rw [hcc]; unfold okC; omega, HL0.pick' [] rfl rfl⟩
                · have u8_8p := of_decide_eq_false u8_8
                  refine wl_guardF rfl rfl rfl u8_8 ?_
                  refine wl_guardF rfl rfl rfl u8_8 ?_
                  refine wl_guardF rfl rfl rfl u8_8 ?_
                  refine wl_guardS rfl rfl rfl ?_
                  refine wl_guardS rfl rfl rfl ?_
                  refine wl_guardF rfl rfl rfl u8_8 ?_
                  refine wl_guardT rfl rfl rfl u8_5 ?_
                  refine wl_valE (v := .bool false) rfl (rf_pickF rfl rfl rfl u8_8) rfl ?_
                  refine wl_guardT rfl rfl rfl rfl ?_
                  refine wl_valE (v := .bool false) rfl (rf_pickF rfl rfl rfl u8_5) rfl ?_
                  refine wl_valE (v := .bool false) rfl (rf_pickT rfl rfl rfl rfl) rfl ?_
                  refine wl_nil ?_
                  refine thn ?_
                  refine condF rfl rfl ?_
                  refine skip_ ?_
                  refine bln ?_
                  refine thn ?_
                  refine region_ ?_
                  refine wl_valE (v := .int .i64 ((i : Nat) : Int)) rfl (rf_move rfl) rfl ?_
                  refine wl_valE (v := .int .i64 ((i + 1 : Nat) : Int)) rfl (rf_add rfl rfl rfl rfl (IntWalk.i64_in _ (by omega))) rfl ?_
                  refine wl_valE (v := .int .i64 ((i + 1 : Nat) : Int)) rfl (rf_assign rfl) rfl ?_
                  refine wl_nil ?_
                  refine thn ?_
                  refine ⟨s.size - (i + 1), _, rfl, (by omega), _, i + 1, upds_self ⟨rfl, rfl, trivial⟩, rfl, by omega, fun j h h2 => by
                    rcases Nat.lt_or_eq_of_le (Nat.le_of_lt_succ h2) with h3 | h3
                    · exact hno j h h3
                    · subst h3; rw [hcc]; unfold okC; omega, HL0.pick' [] rfl rfl⟩
        · have c17p := of_decide_eq_false c17
          refine exit_ ?_
          refine thx (thx (blx ?_))
          refine thn ?_
          refine seq_ ?_
          refine region_ ?_
          refine wl_valE (v := .bool true) rfl (rf_assign rfl) rfl ?_
          refine wl_nil ?_
          refine thn ?_
          refine ret_ ?_
          refine fin1 (v := .bool true) Try.results26 rfl rfl ?_
          exact ⟨_, ⟨congrArg Value.bool (by first | exact (decide_eq_false (name_bad (by omega) hcc (by unfold okC; omega))).symm | exact (decide_eq_false (fun hn => by have := hn.1; omega)).symm | exact (decide_eq_true ⟨by omega, fun j h => hno j h (by omega)⟩).symm), rfl⟩, HL0.pick' [] rfl rfl⟩
end Go.Proofs.Ytphllgfbjfajfaa.W
