import Derived.Test.YtojcddlpkfhodaaGreatK1
import Derived.KernelRfl
namespace Go.Proofs.YtojcddlpkfhodaaGreat.W
open Go Go.Wk
set_option linter.unusedVariables false
set_option linter.unusedSimpArgs false

/-- the order of keys -/
def ltK (a b : Key) : Prop := a.table < b.table ∨ (a.table = b.table ∧ a.row < b.row)
instance (a b : Key) : Decidable (ltK a b) := by unfold ltK; infer_instance
def cmpI (a b : Int) : Int := if a < b then -1 else if b < a then 1 else 0
def cmpK (a b : Key) : Int := if ltK a b then -1 else if ltK b a then 1 else 0
theorem ltK_irrefl (a : Key) : ¬ ltK a a := by unfold ltK; omega
theorem cmpK_zero {a b : Key} : cmpK a b = 0 ↔ a = b := by
  constructor
  · intro h
    by_cases h1 : ltK a b
    · simp [cmpK, h1] at h
    · by_cases h2 : ltK b a
      · simp [cmpK, h1, h2] at h
      · unfold ltK at h1 h2
        cases a; cases b; simp at *; omega
  · rintro rfl; simp [cmpK, ltK_irrefl]
theorem cmpK_or {a b : Key} (h : ¬ a = b) : cmpK a b = if cmpI a.table b.table ≠ 0 then cmpI a.table b.table else cmpI a.row b.row := by
  have h2 : ¬ (a.table = b.table ∧ a.row = b.row) := fun e => h (by cases a; cases b; simp at *; exact e)
  by_cases t1 : a.table < b.table
  · have l1 : ltK a b := .inl t1
    simp [cmpK, l1, cmpI, t1]
  · by_cases t2 : b.table < a.table
    · have n1 : ¬ ltK a b := by unfold ltK; omega
      have l1 : ltK b a := .inl t2
      simp [cmpK, n1, l1, cmpI, t1, t2]
    · by_cases r1 : a.row < b.row
      · have l1 : ltK a b := .inr ⟨by omega, r1⟩
        simp [cmpK, l1, cmpI, t1, t2, r1]
      · have n1 : ¬ ltK a b := by unfold ltK; omega
        have l1 : ltK b a := .inr ⟨by omega, by omega⟩
        have r2 : b.row < a.row := by omega
        simp [cmpK, n1, l1, cmpI, t1, t2, r1, r2]
def orL : List Int → Int
  | [] => 0
  | x :: r => if x ≠ 0 then x else orL r
theorem orL2 (x y : Int) : orL [x, y] = if x ≠ 0 then x else y := by
  show (if x ≠ 0 then x else if y ≠ 0 then y else 0) = _
  by_cases h : y = 0
  · simp [h]
  · simp [h]
theorem ltK_trans {a b c : Key} (h : ltK a b) (k : ltK b c) : ltK a c := by unfold ltK at *; omega
theorem cmpK_neg {a b : Key} : cmpK a b < 0 ↔ ltK a b := by
  unfold cmpK
  split
  · simp [*]
  · split <;> simp [*]
/-- a set of keys: sound, and rising -/
def RisK (l : List Key) : Prop := (∀ k ∈ l, okK k = true) ∧ l.Pairwise ltK
theorem sorted_eqK : ∀ {l1 l2 : List Key}, (∀ k, k ∈ l1 ↔ k ∈ l2) → l1.Pairwise ltK → l2.Pairwise ltK → l1 = l2
  | [], [], _, _, _ => rfl
  | [], b :: r, h, _, _ => absurd ((h b).2 (by simp)) (by simp)
  | a :: r, [], h, _, _ => absurd ((h a).1 (by simp)) (by simp)
  | a :: r, b :: s, h, h1, h2 => by
    obtain ⟨p1, q1⟩ := List.pairwise_cons.1 h1
    obtain ⟨p2, q2⟩ := List.pairwise_cons.1 h2
    have e : a = b := by
      have ha := (h a).1 (by simp)
      have hb := (h b).2 (by simp)
      rcases List.mem_cons.1 ha with e | ha
      · exact e
      · rcases List.mem_cons.1 hb with e | hb
        · exact e.symm
        · exact absurd (ltK_trans (p1 b hb) (p2 a ha)) (ltK_irrefl a)
    subst e
    rw [sorted_eqK (l1 := r) (l2 := s) (fun k => ⟨fun hk => ?_, fun hk => ?_⟩) q1 q2]
    · rcases List.mem_cons.1 ((h k).1 (by simp [hk])) with e | h3
      · exact absurd (e ▸ p1 k hk) (ltK_irrefl a)
      · exact h3
    · rcases List.mem_cons.1 ((h k).2 (by simp [hk])) with e | h3
      · exact absurd (e ▸ p2 k hk) (ltK_irrefl a)
      · exact h3

theorem check_tr (k : Key) : Tr Tryz.prog 43 [.agg #[.int .i64 k.table, .int .i64 k.row]] [] [] fun v m => v = .int .i64 (checkF k) ∧ m = [] := Tr.of_plain (post := fun v => v = .int .i64 (checkF k)) fun w => check_ret k w
theorem hash_tr (k : Key) : Tr Tryz.prog 11 [.agg #[.int .i64 k.table, .int .i64 k.row]] [] [] fun v m => v = .int .u64 ((hashF k : Nat) : Int) ∧ m = [] := Tr.of_plain (post := fun v => v = .int .u64 ((hashF k : Nat) : Int)) fun w => hash_ret k w
theorem hash_bad {k : Key} (h : checkF k ≠ 0) : hashF k = 0 := by
  have hb : okK k = false := by
    unfold checkF at h
    cases e : okK k with
    | false => rfl
    | true => rw [e] at h; simp at h
  simp [hashF, hb]
theorem isnan_int_tr (a : Int) : Tr Tryz.prog 98 [.int .i64 a] [] [] (fun v m => v = .bool false ∧ m = []) := by
  intro w0 S0 H0
  refine enterR Tryz.func98 rfl Tryz.ntmps98 rfl ?_
  intro g0
  refine seq_ ?_
  refine region_ ?_
  refine wl_valE (v := .bool false) rfl (rf_assign rfl) rfl ?_
  refine wl_nil ?_
  refine thn ?_
  refine seq_ ?_
  refine region_ ?_
  refine wl_valE (v := .int .i64 a) rfl (rf_move rfl) rfl ?_
  refine wl_valE (v := .int .i64 a) rfl (rf_move rfl) rfl ?_
  refine wl_valE (v := .bool (decide (a ≠ a))) rfl (rf_neq rfl rfl rfl rfl) rfl ?_
  refine wl_valE (v := .bool (decide (a ≠ a))) rfl (rf_assign rfl) rfl ?_
  refine wl_nil ?_
  refine thn ?_
  refine ret_ ?_
  refine fin1 (v := .bool (decide (a ≠ a))) Tryz.results98 rfl rfl ?_
  exact ⟨_, ⟨congrArg Value.bool (by simp), rfl⟩, H0.pick' [] rfl rfl⟩
theorem cmp_int_tr (a b : Int) : Tr Tryz.prog 83 [.int .i64 a, .int .i64 b] [] [] (fun v m => v = .int .i64 (cmpI a b) ∧ m = []) := by
  intro w0 S0 H0
  refine enterR Tryz.func83 rfl Tryz.ntmps83 rfl ?_
  intro g0
  refine seq_ ?_
  refine region_ ?_
  refine wl_valE (v := .int .i64 (0 : Int)) rfl (rf_assign rfl) rfl ?_
  refine wl_nil ?_
  refine thn ?_
  refine seq_ ?_
  refine region_ ?_
  refine wl_valE (v := .int .i64 a) rfl (rf_move rfl) rfl ?_
  refine wl_tr H0 rfl [] (isnan_int_tr a) rfl .nil (rf_call Tryz.call98 rfl rfl) rfl ?_
  rintro _ w1 _ ⟨rfl, rfl⟩ H1
  refine wl_valE (v := .bool false) rfl (rf_assign rfl) rfl ?_
  refine wl_nil ?_
  refine thn ?_
  refine seq_ ?_
  refine region_ ?_
  refine wl_valE (v := .int .i64 b) rfl (rf_move rfl) rfl ?_
  refine wl_tr H1 rfl [] (isnan_int_tr b) rfl .nil (rf_call Tryz.call98 rfl rfl) rfl ?_
  rintro _ w2 _ ⟨rfl, rfl⟩ H2
  refine wl_valE (v := .bool false) rfl (rf_assign rfl) rfl ?_
  refine wl_nil ?_
  refine thn ?_
  refine seq_ ?_
  refine seq_ ?_
  refine region_ ?_
  refine wl_valE (v := .bool false) rfl (rf_move rfl) rfl ?_
  refine wl_nil ?_
  refine thn ?_
  refine condF rfl rfl ?_
  refine skip_ ?_
  refine thn ?_
  refine seq_ ?_
  refine seq_ ?_
  refine region_ ?_
  refine wl_valE (v := .bool false) rfl (rf_move rfl) rfl ?_
  refine wl_nil ?_
  refine thn ?_
  refine condF rfl rfl ?_
  refine skip_ ?_
  refine thn ?_
  refine seq_ ?_
  refine seq_ ?_
  refine region_ ?_
  refine wl_valE (v := .int .i64 a) rfl (rf_move rfl) rfl ?_
  refine wl_valE (v := .int .i64 b) rfl (rf_move rfl) rfl ?_
  refine wl_valE (v := .bool (decide (a < b))) rfl (rf_lss rfl rfl rfl rfl) rfl ?_
  refine wl_nil ?_
  refine thn ?_
  refine cond_ (t := decide (a < b)) rfl rfl (fun c16 => ?_) (fun c16 => ?_)
  · have c16p := of_decide_eq_true c16
    refine seq_ ?_
    refine region_ ?_
    refine wl_valE (v := .int .i64 (-1 : Int)) rfl (rf_assign rfl) rfl ?_
    refine wl_nil ?_
    refine thn ?_
    refine ret_ ?_
    refine thr ?_
    refine fin1 (v := .int .i64 (-1 : Int)) Tryz.results83 rfl rfl ?_
    exact ⟨_, ⟨by unfold cmpI; rw [if_pos c16p], rfl⟩, H2.pick' [] rfl rfl⟩
  · have c16p := of_decide_eq_false c16
    refine skip_ ?_
    refine thn ?_
    refine seq_ ?_
    refine seq_ ?_
    refine region_ ?_
    refine wl_valE (v := .int .i64 a) rfl (rf_move rfl) rfl ?_
    refine wl_valE (v := .int .i64 b) rfl (rf_move rfl) rfl ?_
    refine wl_valE (v := .bool (decide (b < a))) rfl (rf_gtr rfl rfl rfl rfl) rfl ?_
    refine wl_nil ?_
    refine thn ?_
    refine cond_ (t := decide (b < a)) rfl rfl (fun c19 => ?_) (fun c19 => ?_)
    · have c19p := of_decide_eq_true c19
      refine seq_ ?_
      refine region_ ?_
      refine wl_valE (v := .int .i64 (1 : Int)) rfl (rf_assign rfl) rfl ?_
      refine wl_nil ?_
      refine thn ?_
      refine ret_ ?_
      refine thr ?_
      refine fin1 (v := .int .i64 (1 : Int)) Tryz.results83 rfl rfl ?_
      exact ⟨_, ⟨by unfold cmpI; rw [if_neg c16p, if_pos c19p], rfl⟩, H2.pick' [] rfl rfl⟩
    · have c19p := of_decide_eq_false c19
      refine skip_ ?_
      refine thn ?_
      refine seq_ ?_
      refine region_ ?_
      refine wl_valE (v := .int .i64 (0 : Int)) rfl (rf_assign rfl) rfl ?_
      refine wl_nil ?_
      refine thn ?_
      refine ret_ ?_
      refine fin1 (v := .int .i64 (0 : Int)) Tryz.results83 rfl rfl ?_
      exact ⟨_, ⟨by unfold cmpI; rw [if_neg c16p, if_neg c19p], rfl⟩, H2.pick' [] rfl rfl⟩
theorem isnan_int64_tr (a : Int) : Tr Tryz.prog 99 [.int .i64 a] [] [] (fun v m => v = .bool false ∧ m = []) := by
  intro w0 S0 H0
  refine enterR Tryz.func99 rfl Tryz.ntmps99 rfl ?_
  intro g0
  refine seq_ ?_
  refine region_ ?_
  refine wl_valE (v := .bool false) rfl (rf_assign rfl) rfl ?_
  refine wl_nil ?_
  refine thn ?_
  refine seq_ ?_
  refine region_ ?_
  refine wl_valE (v := .int .i64 a) rfl (rf_move rfl) rfl ?_
  refine wl_valE (v := .int .i64 a) rfl (rf_move rfl) rfl ?_
  refine wl_valE (v := .bool (decide (a ≠ a))) rfl (rf_neq rfl rfl rfl rfl) rfl ?_
  refine wl_valE (v := .bool (decide (a ≠ a))) rfl (rf_assign rfl) rfl ?_
  refine wl_nil ?_
  refine thn ?_
  refine ret_ ?_
  refine fin1 (v := .bool (decide (a ≠ a))) Tryz.results99 rfl rfl ?_
  exact ⟨_, ⟨congrArg Value.bool (by simp), rfl⟩, H0.pick' [] rfl rfl⟩
theorem cmp_int64_tr (a b : Int) : Tr Tryz.prog 84 [.int .i64 a, .int .i64 b] [] [] (fun v m => v = .int .i64 (cmpI a b) ∧ m = []) := by
  intro w0 S0 H0
  refine enterR Tryz.func84 rfl Tryz.ntmps84 rfl ?_
  intro g0
  refine seq_ ?_
  refine region_ ?_
  refine wl_valE (v := .int .i64 (0 : Int)) rfl (rf_assign rfl) rfl ?_
  refine wl_nil ?_
  refine thn ?_
  refine seq_ ?_
  refine region_ ?_
  refine wl_valE (v := .int .i64 a) rfl (rf_move rfl) rfl ?_
  refine wl_tr H0 rfl [] (isnan_int64_tr a) rfl .nil (rf_call Tryz.call99 rfl rfl) rfl ?_
  rintro _ w1 _ ⟨rfl, rfl⟩ H1
  refine wl_valE (v := .bool false) rfl (rf_assign rfl) rfl ?_
  refine wl_nil ?_
  refine thn ?_
  refine seq_ ?_
  refine region_ ?_
  refine wl_valE (v := .int .i64 b) rfl (rf_move rfl) rfl ?_
  refine wl_tr H1 rfl [] (isnan_int64_tr b) rfl .nil (rf_call Tryz.call99 rfl rfl) rfl ?_
  rintro _ w2 _ ⟨rfl, rfl⟩ H2
  refine wl_valE (v := .bool false) rfl (rf_assign rfl) rfl ?_
  refine wl_nil ?_
  refine thn ?_
  refine seq_ ?_
  refine seq_ ?_
  refine region_ ?_
  refine wl_valE (v := .bool false) rfl (rf_move rfl) rfl ?_
  refine wl_nil ?_
  refine thn ?_
  refine condF rfl rfl ?_
  refine skip_ ?_
  refine thn ?_
  refine seq_ ?_
  refine seq_ ?_
  refine region_ ?_
  refine wl_valE (v := .bool false) rfl (rf_move rfl) rfl ?_
  refine wl_nil ?_
  refine thn ?_
  refine condF rfl rfl ?_
  refine skip_ ?_
  refine thn ?_
  refine seq_ ?_
  refine seq_ ?_
  refine region_ ?_
  refine wl_valE (v := .int .i64 a) rfl (rf_move rfl) rfl ?_
  refine wl_valE (v := .int .i64 b) rfl (rf_move rfl) rfl ?_
  refine wl_valE (v := .bool (decide (a < b))) rfl (rf_lss rfl rfl rfl rfl) rfl ?_
  refine wl_nil ?_
  refine thn ?_
  refine cond_ (t := decide (a < b)) rfl rfl (fun c16 => ?_) (fun c16 => ?_)
  · have c16p := of_decide_eq_true c16
    refine seq_ ?_
    refine region_ ?_
    refine wl_valE (v := .int .i64 (-1 : Int)) rfl (rf_assign rfl) rfl ?_
    refine wl_nil ?_
    refine thn ?_
    refine ret_ ?_
    refine thr ?_
    refine fin1 (v := .int .i64 (-1 : Int)) Tryz.results84 rfl rfl ?_
    exact ⟨_, ⟨by unfold cmpI; rw [if_pos c16p], rfl⟩, H2.pick' [] rfl rfl⟩
  · have c16p := of_decide_eq_false c16
    refine skip_ ?_
    refine thn ?_
    refine seq_ ?_
    refine seq_ ?_
    refine region_ ?_
    refine wl_valE (v := .int .i64 a) rfl (rf_move rfl) rfl ?_
    refine wl_valE (v := .int .i64 b) rfl (rf_move rfl) rfl ?_
    refine wl_valE (v := .bool (decide (b < a))) rfl (rf_gtr rfl rfl rfl rfl) rfl ?_
    refine wl_nil ?_
    refine thn ?_
    refine cond_ (t := decide (b < a)) rfl rfl (fun c19 => ?_) (fun c19 => ?_)
    · have c19p := of_decide_eq_true c19
      refine seq_ ?_
      refine region_ ?_
      refine wl_valE (v := .int .i64 (1 : Int)) rfl (rf_assign rfl) rfl ?_
      refine wl_nil ?_
      refine thn ?_
      refine ret_ ?_
      refine thr ?_
      refine fin1 (v := .int .i64 (1 : Int)) Tryz.results84 rfl rfl ?_
      exact ⟨_, ⟨by unfold cmpI; rw [if_neg c16p, if_pos c19p], rfl⟩, H2.pick' [] rfl rfl⟩
    · have c19p := of_decide_eq_false c19
      refine skip_ ?_
      refine thn ?_
      refine seq_ ?_
      refine region_ ?_
      refine wl_valE (v := .int .i64 (0 : Int)) rfl (rf_assign rfl) rfl ?_
      refine wl_nil ?_
      refine thn ?_
      refine ret_ ?_
      refine fin1 (v := .int .i64 (0 : Int)) Tryz.results84 rfl rfl ?_
      exact ⟨_, ⟨by unfold cmpI; rw [if_neg c16p, if_neg c19p], rfl⟩, H2.pick' [] rfl rfl⟩
theorem or_tr (av : Option Addr) (n c : Nat) (l : List Int) (hn : n ≤ 9223372036854775806) : Tr Tryz.prog 82 [.slice av n c] [rdH encI 1 av n c l] [] (fun v m => v = .int .i64 (orL l) ∧ m = []) := by
  intro w0 S0 H0
  have hl := (rd_len (H0.rdR 0 Le.rfl)).1
  refine enterR Tryz.func82 rfl Tryz.ntmps82 rfl ?_
  intro g0
  refine seq_ ?_
  refine region_ ?_
  refine wl_valE (v := .int .i64 (0 : Int)) rfl (rf_assign rfl) rfl ?_
  refine wl_nil ?_
  refine thn ?_
  refine seq_ ?_
  refine region_ ?_
  refine wl_valE (v := .int .i64 (0 : Int)) rfl (rf_assign rfl) rfl ?_
  refine wl_nil ?_
  refine thn ?_
  refine seq_ ?_
  refine seq_ ?_
  refine region_ ?_
  refine wl_valE (v := .slice av n c) rfl (rf_move rfl) rfl ?_
  refine wl_valE (v := .int .i64 ((n : Nat) : Int)) rfl (rf_len_slice Tryz.underlying57 rfl rfl) rfl ?_
  refine wl_valE (v := .int .i64 (0 : Int)) rfl (rf_move rfl) rfl ?_
  refine wl_nil ?_
  refine thn ?_
  refine block_ ?_
  refine loop_ (fun qk_ qf_ qw_ => ∃ (g : Nat → Value) (k : Nat), qf_ = upds g [(3, .int .i64 (0 : Int)), (6, .slice av n c), (7, .int .i64 ((n : Nat) : Int)), (8, .int .i64 ((k : Nat) : Int))] ∧ qk_ = n - k ∧ (k ≤ n) ∧ (orL (l.drop k) = orL l) ∧ St w0 S0 [rdH encI 1 av n c l] qw_ []) (n - 0) ?_ ?_
  · refine ⟨_, 0, upds_self ⟨rfl, rfl, rfl, rfl, trivial⟩, rfl, Nat.zero_le _, rfl, H0.pick' [] rfl rfl⟩
  · rintro lk0 _ wl0 ⟨gl0, k, rfl, hlk0, hk, ho, HL0⟩
    refine seq_ ?_
    refine region_ ?_
    refine wl_valE (v := .bool (decide (((k : Nat) : Int) < ((n : Nat) : Int)))) rfl (rf_lss rfl rfl rfl rfl) rfl ?_
    refine wl_nil ?_
    refine thn ?_
    refine seq_ ?_
    refine cond_ (t := decide (((k : Nat) : Int) < ((n : Nat) : Int))) rfl rfl (fun c9 => ?_) (fun c9 => ?_)
    · have c9p := of_decide_eq_true c9
      refine skip_ ?_
      refine thn ?_
      refine seq_ ?_
      refine block_ ?_
      refine seq_ ?_
      have hn1 := rd_len (HL0.rdR 0 Le.rfl)
      obtain ⟨xo, hxo⟩ : ∃ q_, l[k]? = some q_ := ⟨_, List.getElem?_eq_getElem (by omega)⟩
      refine region_ ?_
      refine wl_valE (v := .pointer (some ⟨ab av, ao av + k * 1, none⟩)) rfl (rf_indexAddrH Tryz.underlying57 ti3 rfl rfl rfl rfl (by omega) (by omega) (HL0.rdR 0 Le.rfl)) rfl ?_
      refine wl_valE (v := .int .i64 xo) rfl (rf_load Tryz.underlying3 rfl rfl rfl (rd_el (HL0.rdR 0 Le.rfl) hxo 0 _ rfl)) rfl ?_
      refine wl_valE (v := .int .i64 xo) rfl (rf_assign rfl) rfl ?_
      refine wl_nil ?_
      refine thn ?_
      refine seq_ ?_
      refine region_ ?_
      refine wl_valE (v := .int .i64 xo) rfl (rf_move rfl) rfl ?_
      refine wl_valE (v := .int .i64 (0 : Int)) rfl (rf_move rfl) rfl ?_
      refine wl_valE (v := .bool (decide (xo ≠ (0 : Int)))) rfl (rf_neq rfl rfl rfl rfl) rfl ?_
      refine wl_nil ?_
      refine thn ?_
      refine cond_ (t := decide (xo ≠ (0 : Int))) rfl rfl (fun c14 => ?_) (fun c14 => ?_)
      · have c14p := of_decide_eq_true c14
        refine seq_ ?_
        refine region_ ?_
        refine wl_valE (v := .int .i64 xo) rfl (rf_move rfl) rfl ?_
        refine wl_valE (v := .int .i64 xo) rfl (rf_assign rfl) rfl ?_
        refine wl_nil ?_
        refine thn ?_
        refine ret_ ?_
        refine blr (thr (thr (blr (thr ?_))))
        refine fin1 (v := .int .i64 xo) Tryz.results82 rfl rfl ?_
        exact ⟨_, ⟨by rw [← ho, drop_at hxo]; unfold orL; rw [if_pos c14p], rfl⟩, HL0.pick' [] rfl rfl⟩
      · have c14p := of_decide_eq_false c14
        refine skip_ ?_
        refine bln ?_
        refine thn ?_
        refine region_ ?_
        refine wl_valE (v := .int .i64 ((k + 1 : Nat) : Int)) rfl (rf_add rfl rfl rfl rfl (IntWalk.i64_in _ (by omega))) rfl ?_
        refine wl_valE (v := .int .i64 ((k + 1 : Nat) : Int)) rfl (rf_move rfl) rfl ?_
        refine wl_nil ?_
        refine thn ?_
        refine ⟨n - (k + 1), _, rfl, (by omega), _, k + 1, upds_self ⟨rfl, rfl, rfl, rfl, trivial⟩, rfl, by omega, by rw [← ho, drop_at hxo]; unfold orL; rw [if_neg c14p]; cases l.drop (k + 1) <;> rfl, HL0.pick' [] rfl rfl⟩
    · have c9p := of_decide_eq_false c9
      refine exit_ ?_
      refine thx (thx (blx ?_))
      refine thn ?_
      refine seq_ ?_
      refine region_ ?_
      refine wl_valE (v := .int .i64 (0 : Int)) rfl (rf_move rfl) rfl ?_
      refine wl_valE (v := .int .i64 (0 : Int)) rfl (rf_assign rfl) rfl ?_
      refine wl_nil ?_
      refine thn ?_
      refine ret_ ?_
      refine fin1 (v := .int .i64 (0 : Int)) Tryz.results82 rfl rfl ?_
      exact ⟨_, ⟨by rw [← ho, drop_all (by omega)]; rfl, rfl⟩, HL0.pick' [] rfl rfl⟩
theorem compare_tr (a b : Key) : Tr Tryz.prog 70 [.agg #[.int .i64 a.table, .int .i64 a.row], .agg #[.int .i64 b.table, .int .i64 b.row]] [] [] (fun v m => v = .int .i64 (cmpK a b) ∧ m = []) := by
  intro w0 S0 H0
  refine enterR Tryz.func70 rfl Tryz.ntmps70 rfl ?_
  intro g0
  refine seq_ ?_
  refine region_ ?_
  refine wl_boxH H0 (v := .agg #[.int .i64 a.table, .int .i64 a.row]) rfl rfl ?_
  intro b1 w2 H2
  refine wl_boxH H2 (v := .agg #[.int .i64 b.table, .int .i64 b.row]) rfl rfl ?_
  intro b3 w4 H4
  refine wl_valE (v := .int .i64 (0 : Int)) rfl (rf_assign rfl) rfl ?_
  refine wl_nil ?_
  refine thn ?_
  refine seq_ ?_
  refine seq_ ?_
  refine region_ ?_
  refine wl_valE (v := .agg #[.int .i64 a.table, .int .i64 a.row]) rfl (rf_loadBlk Tryz.underlying41 rfl ti41 rfl rfl (H4.blk 0 rfl) (leb rfl)) rfl ?_
  refine wl_valE (v := .agg #[.int .i64 b.table, .int .i64 b.row]) rfl (rf_loadBlk Tryz.underlying41 rfl ti41 rfl rfl (H4.blk 1 rfl) (leb rfl)) rfl ?_
  refine wl_valE (v := .bool (decide (a = b))) rfl (rf_eqlS (by kernel_rfl) (eqKey a b _) rfl rfl rfl rfl) rfl ?_
  refine wl_nil ?_
  refine thn ?_
  refine cond_ (t := decide (a = b)) rfl rfl (fun c7 => ?_) (fun c7 => ?_)
  · have c7p := of_decide_eq_true c7
    refine seq_ ?_
    refine region_ ?_
    refine wl_valE (v := .int .i64 (0 : Int)) rfl (rf_assign rfl) rfl ?_
    refine wl_nil ?_
    refine thn ?_
    refine ret_ ?_
    refine thr ?_
    refine fin1 (v := .int .i64 (0 : Int)) Tryz.results70 rfl rfl ?_
    exact ⟨_, ⟨by rw [cmpK_zero.2 c7p], rfl⟩, H4.pick' [] rfl rfl⟩
  · have c7p := of_decide_eq_false c7
    refine skip_ ?_
    refine thn ?_
    refine seq_ ?_
    refine region_h (S := (fun wq => St w0 S0 [] wq [blkH b1 #[.int .i64 a.table, .int .i64 a.row] 41, blkH b3 #[.int .i64 b.table, .int .i64 b.row] 41])) mixedP ?_
    intro w5 hk5
    have H5 := H4.keep hk5
    have hS5 : St w0 S0 [] w5 [blkH b1 #[.int .i64 a.table, .int .i64 a.row] 41, blkH b3 #[.int .i64 b.table, .int .i64 b.row] 41] := H5.pick' [0, 1] rfl rfl
    refine wh_take (i := 0) (v := .pointer (some ⟨b1, 0, none⟩)) rfl (by kernel_rfl) (by kernel_rfl) (by kernel_rfl) hS5 rfl (fun wq hq => rf_fieldAddr Tryz.underlying41 rfl ti3 rfl rfl) rfl ?_
    refine wh_take (i := 1) (v := .int .i64 a.table) rfl (by kernel_rfl) (by kernel_rfl) (by kernel_rfl) hS5 rfl (fun wq hq => rf_load Tryz.underlying3 rfl rfl rfl ((hq.blk 0 rfl).cell rfl)) rfl ?_
    refine wh_take (i := 2) (v := .pointer (some ⟨b3, 0, none⟩)) rfl (by kernel_rfl) (by kernel_rfl) (by kernel_rfl) hS5 rfl (fun wq hq => rf_fieldAddr Tryz.underlying41 rfl ti3 rfl rfl) rfl ?_
    refine wh_take (i := 3) (v := .int .i64 b.table) rfl (by kernel_rfl) (by kernel_rfl) (by kernel_rfl) hS5 rfl (fun wq hq => rf_load Tryz.underlying3 rfl rfl rfl ((hq.blk 1 rfl).cell rfl)) rfl ?_
    refine wh_take (i := 5) (v := .pointer (some ⟨b1, 1, none⟩)) rfl (by kernel_rfl) (by kernel_rfl) (by kernel_rfl) hS5 rfl (fun wq hq => rf_fieldAddr Tryz.underlying41 rfl ti2 rfl rfl) rfl ?_
    refine wh_take (i := 6) (v := .int .i64 a.row) rfl (by kernel_rfl) (by kernel_rfl) (by kernel_rfl) hS5 rfl (fun wq hq => rf_load Tryz.underlying2 rfl rfl rfl ((hq.blk 0 rfl).cell rfl)) rfl ?_
    refine wh_take (i := 7) (v := .pointer (some ⟨b3, 1, none⟩)) rfl (by kernel_rfl) (by kernel_rfl) (by kernel_rfl) hS5 rfl (fun wq hq => rf_fieldAddr Tryz.underlying41 rfl ti2 rfl rfl) rfl ?_
    refine wh_take (i := 8) (v := .int .i64 b.row) rfl (by kernel_rfl) (by kernel_rfl) (by kernel_rfl) hS5 rfl (fun wq hq => rf_load Tryz.underlying2 rfl rfl rfl ((hq.blk 1 rfl).cell rfl)) rfl ?_
    refine wh_one (i := 4) (by kernel_rfl) rfl ?_
    refine wl_tr H5 rfl [] (cmp_int_tr a.table b.table) rfl .nil (rf_call Tryz.call83 rfl rfl) rfl ?_
    rintro _ w6 _ ⟨rfl, rfl⟩ H6
    refine wl_nil ?_
    have hS7 : St w0 S0 [] w6 [blkH b1 #[.int .i64 a.table, .int .i64 a.row] 41, blkH b3 #[.int .i64 b.table, .int .i64 b.row] 41] := H6.pick' [0, 1] rfl rfl
    refine wh_back hS7 ?_
    refine wh_one (i := 9) (by kernel_rfl) rfl ?_
    refine wl_tr H6 rfl [] (cmp_int64_tr a.row b.row) rfl .nil (rf_call Tryz.call84 rfl rfl) rfl ?_
    rintro _ w8 _ ⟨rfl, rfl⟩ H8
    refine wl_nil ?_
    have hS9 : St w0 S0 [] w8 [blkH b1 #[.int .i64 a.table, .int .i64 a.row] 41, blkH b3 #[.int .i64 b.table, .int .i64 b.row] 41] := H8.pick' [0, 1] rfl rfl
    refine wh_back hS9 ?_
    refine wh_one (i := 10) (by kernel_rfl) rfl ?_
    refine wl_buildSliceH (enc := encI) H8 [cmpI a.table b.table, cmpI a.row b.row] encI_len Tryz.underlying57 ti3 rfl rfl rfl (.cons rfl rfl rfl rfl rfl rfl (.cons rfl rfl rfl rfl rfl rfl .nil)) ?_
    intro a10 w11 H11
    refine wl_nil ?_
    have hS12 : St w0 S0 [] w11 [blkH b1 #[.int .i64 a.table, .int .i64 a.row] 41, blkH b3 #[.int .i64 b.table, .int .i64 b.row] 41] := H11.pick' [0, 1] rfl rfl
    refine wh_back hS12 ?_
    refine wh_one (i := 11) (by kernel_rfl) rfl ?_
    refine wl_tr H11 rfl [] (or_tr a10 2 2 ([cmpI a.table b.table, cmpI a.row b.row]) (by omega)) rfl (.own 2 rfl slH_rd .nil) (rf_call Tryz.call82 rfl rfl) rfl ?_
    rintro _ w13 _ ⟨rfl, rfl⟩ H13
    refine wl_nil ?_
    have hS14 : St w0 S0 [] w13 [blkH b1 #[.int .i64 a.table, .int .i64 a.row] 41, blkH b3 #[.int .i64 b.table, .int .i64 b.row] 41] := H13.pick' [0, 1] rfl rfl
    refine wh_back hS14 ?_
    refine wh_take (i := 12) (v := .int .i64 (orL ([cmpI a.table b.table, cmpI a.row b.row]))) rfl (by kernel_rfl) (by kernel_rfl) (by kernel_rfl) hS14 rfl (fun wq hq => rf_assign rfl) rfl ?_
    refine wh_done (by kernel_rfl) ?_
    refine thn ?_
    refine ret_ ?_
    refine fin1 (v := .int .i64 (orL ([cmpI a.table b.table, cmpI a.row b.row]))) Tryz.results70 rfl rfl ?_
    exact ⟨_, ⟨by rw [orL2, ← cmpK_or c7p], rfl⟩, H13.pick' [] rfl rfl⟩
theorem few_tr (n : Int) : Tr Tryz.prog 75 [.int .i64 n] [] [] (fun v m => v = .bool (decide (1 ≤ n ∧ n ≤ 256)) ∧ m = []) := by
  intro w0 S0 H0
  refine enterR Tryz.func75 rfl Tryz.ntmps75 rfl ?_
  intro g0
  refine seq_ ?_
  refine region_ ?_
  refine wl_valE (v := .bool false) rfl (rf_assign rfl) rfl ?_
  refine wl_nil ?_
  refine thn ?_
  refine seq_ ?_
  refine region_ ?_
  refine wl_valE (v := .int .i64 n) rfl (rf_move rfl) rfl ?_
  refine wl_valE (v := .bool (decide ((1 : Int) ≤ n))) rfl (rf_geq rfl rfl rfl rfl) rfl ?_
  refine wl_valE (v := .bool (decide ((1 : Int) ≤ n))) rfl (rf_move rfl) rfl ?_
  refine wl_split (decide ((1 : Int) ≤ n)) (fun u1_2 => ?_) (fun u1_2 => ?_)
  · have u1_2p := of_decide_eq_true u1_2
    refine wl_guardT rfl rfl rfl u1_2 ?_
    refine wl_valE (v := .int .i64 n) rfl (rf_move rfl) rfl ?_
    refine wl_guardT rfl rfl rfl u1_2 ?_
    refine wl_valE (v := .bool (decide (n ≤ (256 : Int)))) rfl (rf_leq rfl rfl rfl rfl) rfl ?_
    refine wl_valE (v := .bool (decide (n ≤ (256 : Int)))) rfl (rf_pickT rfl rfl rfl u1_2) rfl ?_
    refine wl_valE (v := .bool (decide (n ≤ (256 : Int)))) rfl (rf_assign rfl) rfl ?_
    refine wl_nil ?_
    refine thn ?_
    refine ret_ ?_
    refine fin1 (v := .bool (decide (n ≤ (256 : Int)))) Tryz.results75 rfl rfl ?_
    exact ⟨_, ⟨congrArg Value.bool (by simp [u1_2p]), rfl⟩, H0.pick' [] rfl rfl⟩
  · have u1_2p := of_decide_eq_false u1_2
    refine wl_guardF rfl rfl rfl u1_2 ?_
    refine wl_guardF rfl rfl rfl u1_2 ?_
    refine wl_valE (v := .bool false) rfl (rf_pickF rfl rfl rfl u1_2) rfl ?_
    refine wl_valE (v := .bool false) rfl (rf_assign rfl) rfl ?_
    refine wl_nil ?_
    refine thn ?_
    refine ret_ ?_
    refine fin1 (v := .bool false) Tryz.results75 rfl rfl ?_
    exact ⟨_, ⟨congrArg Value.bool (by simp; intro h; omega), rfl⟩, H0.pick' [] rfl rfl⟩
theorem partition_tr (k : Key) (n : Nat) (hn : 1 ≤ n ∧ n ≤ 256) : Tr Tryz.prog 61 [.agg #[.int .i64 k.table, .int .i64 k.row], .int .i64 ((n : Nat) : Int)] [] [] (fun v m => v = .tuple #[.int .i64 ((hashF k % n : Nat) : Int), .int .i64 (checkF k)] ∧ m = []) := by
  intro w0 S0 H0
  refine enterR Tryz.func61 rfl Tryz.ntmps61 rfl ?_
  intro g0
  refine seq_ ?_
  refine region_ ?_
  refine wl_boxH H0 (v := .agg #[.int .i64 k.table, .int .i64 k.row]) rfl rfl ?_
  intro b1 w2 H2
  refine wl_valE (v := .int .i64 (0 : Int)) rfl (rf_assign rfl) rfl ?_
  refine wl_valE (v := .int .i64 (0 : Int)) rfl (rf_assign rfl) rfl ?_
  refine wl_nil ?_
  refine thn ?_
  refine seq_ ?_
  refine seq_ ?_
  refine region_ ?_
  refine wl_valE (v := .agg #[.int .i64 k.table, .int .i64 k.row]) rfl (rf_loadBlk Tryz.underlying41 rfl ti41 rfl rfl (H2.blk 0 rfl) (leb rfl)) rfl ?_
  refine wl_tr H2 rfl [] (check_tr k) rfl .nil (rf_call Tryz.call43 rfl rfl) rfl ?_
  rintro _ w3 _ ⟨rfl, rfl⟩ H3
  refine wl_valE (v := .int .i64 (checkF k)) rfl (rf_assign rfl) rfl ?_
  refine wl_nil ?_
  refine thn ?_
  refine seq_ ?_
  refine region_ ?_
  refine wl_valE (v := .int .i64 (checkF k)) rfl (rf_move rfl) rfl ?_
  refine wl_valE (v := .bool (decide (checkF k ≠ (0 : Int)))) rfl (rf_neq rfl rfl rfl rfl) rfl ?_
  refine wl_nil ?_
  refine thn ?_
  refine cond_ (t := decide (checkF k ≠ (0 : Int))) rfl rfl (fun c10 => ?_) (fun c10 => ?_)
  · have c10p := of_decide_eq_true c10
    refine seq_ ?_
    refine region_ ?_
    refine wl_valE (v := .int .i64 (checkF k)) rfl (rf_move rfl) rfl ?_
    refine wl_valE (v := .int .i64 (0 : Int)) rfl (rf_assign rfl) rfl ?_
    refine wl_valE (v := .int .i64 (checkF k)) rfl (rf_assign rfl) rfl ?_
    refine wl_nil ?_
    refine thn ?_
    refine ret_ ?_
    refine thr ?_
    refine fin2 (v1 := .int .i64 (0 : Int)) (v2 := .int .i64 (checkF k)) Tryz.results61 rfl rfl rfl rfl ?_
    exact ⟨_, ⟨by rw [hash_bad c10p]; simp, rfl⟩, H3.pick' [] rfl rfl⟩
  · have c10p := of_decide_eq_false c10
    refine skip_ ?_
    refine thn ?_
    refine seq_ ?_
    refine seq_ ?_
    refine region_ ?_
    refine wl_valE (v := .int .i64 ((n : Nat) : Int)) rfl (rf_move rfl) rfl ?_
    refine wl_tr H3 rfl [] (few_tr ((n : Nat) : Int)) rfl .nil (rf_call Tryz.call75 rfl rfl) rfl ?_
    rintro _ w4 _ ⟨rfl, rfl⟩ H4
    refine wl_valE (v := .bool (!(decide (1 ≤ ((n : Nat) : Int) ∧ ((n : Nat) : Int) ≤ 256)))) rfl (rf_not rfl rfl) rfl ?_
    refine wl_nil ?_
    refine thn ?_
    refine condF' rfl rfl (t := !(decide (1 ≤ ((n : Nat) : Int) ∧ ((n : Nat) : Int) ≤ 256))) ((by simp; omega)) ?_
    refine skip_ ?_
    refine thn ?_
    refine seq_ ?_
    refine region_ ?_
    refine wl_valE (v := .agg #[.int .i64 k.table, .int .i64 k.row]) rfl (rf_loadBlk Tryz.underlying41 rfl ti41 rfl rfl (H4.blk 0 rfl) (leb rfl)) rfl ?_
    refine wl_tr H4 rfl [] (hash_tr k) rfl .nil (rf_call Tryz.call11 rfl rfl) rfl ?_
    rintro _ w5 _ ⟨rfl, rfl⟩ H5
    refine wl_valE (v := .int .i64 ((n : Nat) : Int)) rfl (rf_move rfl) rfl ?_
    refine wl_valE (v := .int .u64 ((n : Nat) : Int)) rfl (rf_conv Tryz.underlying3 Tryz.underlying91 rfl rfl (IntWalk.u64_in _ (by omega))) rfl ?_
    refine wl_valE (v := .int .u64 ((hashF k % n : Nat) : Int)) rfl (rf_rem rfl rfl rfl rfl (by omega) (tmodN _ _)) rfl ?_
    have hmn := Nat.mod_lt (hashF k) (show 0 < n by omega)
    refine wl_valE (v := .int .i64 ((hashF k % n : Nat) : Int)) rfl (rf_conv Tryz.underlying91 Tryz.underlying3 rfl rfl (IntWalk.i64_in _ (by omega))) rfl ?_
    refine wl_valE (v := .int .i64 ((hashF k % n : Nat) : Int)) rfl (rf_assign rfl) rfl ?_
    refine wl_valE (v := .int .i64 (0 : Int)) rfl (rf_assign rfl) rfl ?_
    refine wl_nil ?_
    refine thn ?_
    refine ret_ ?_
    refine fin2 (v1 := .int .i64 ((hashF k % n : Nat) : Int)) (v2 := .int .i64 (0 : Int)) Tryz.results61 rfl rfl rfl rfl ?_
    exact ⟨_, ⟨by rw [show checkF k = 0 from by omega], rfl⟩, H5.pick' [] rfl rfl⟩
end Go.Proofs.YtojcddlpkfhodaaGreat.W
