import Derived.Test.YtojcddlpkfhodaaGreatQ1
import Derived.Test.YtojcddlpkfhodaaGreatK3
import Derived.KernelRfl
namespace Go.Proofs.YtojcddlpkfhodaaGreat.W
open Go Go.Wk
set_option linter.unusedVariables false
set_option linter.unusedSimpArgs false

theorem check2_tr (k : Key) : Tr Tryz.prog 40 [.agg #[.int .i64 k.table, .int .i64 k.row]] [] [] fun v m => v = .int .i64 (checkF k) ∧ m = [] := Tr.of_plain (post := fun v => v = .int .i64 (checkF k)) fun w => check2_ret k w
theorem hash2_tr (k : Key) : Tr Tryz.prog 41 [.agg #[.int .i64 k.table, .int .i64 k.row]] [] [] fun v m => v = .int .u64 ((hashF k : Nat) : Int) ∧ m = [] := Tr.of_plain (post := fun v => v = .int .u64 ((hashF k : Nat) : Int)) fun w => hash2_ret k w
theorem cmpK_m {a b : Key} (h : ltK a b) : cmpK a b = -1 := by unfold cmpK; rw [if_pos h]
theorem cmpK_p {a b : Key} (h : ltK b a) : cmpK a b = 1 := by unfold cmpK; rw [if_neg (fun h2 => ltK_irrefl a (ltK_trans h2 h)), if_pos h]
theorem cmpK_e {a b : Key} (h : ¬ ltK a b) (h2 : ¬ ltK b a) : cmpK a b = 0 := by unfold cmpK; rw [if_neg h, if_neg h2]
theorem cmpK_le {a b : Key} : cmpK a b ≤ 0 ↔ ¬ ltK b a := by
  unfold cmpK
  split
  · rename_i h; simp; exact fun h2 => ltK_irrefl a (ltK_trans h h2)
  · split <;> simp_all
theorem ltK_of {a b : Key} (h1 : ¬ ltK b a) (h2 : a ≠ b) : ltK a b := by
  rcases Int.lt_trichotomy a.table b.table with q | q | q
  · exact .inl q
  · rcases Int.lt_trichotomy a.row b.row with p | p | p
    · exact .inr ⟨q, p⟩
    · exact absurd (by cases a; cases b; simp at *; exact ⟨q, p⟩) h2
    · exact absurd (.inr ⟨q.symm, p⟩) h1
  · exact absurd (.inl q) h1
theorem put_ok {l : List Key} {k : Key} {q : Nat} (hp : l.Pairwise ltK) (h1 : ∀ j x, q ≤ j → l[j]? = some x → ltK k x) (h2 : ∀ j x, j < q → l[j]? = some x → ltK x k) : (l.take q ++ [k] ++ l.drop q).Pairwise ltK ∧ ∀ x, x ∈ l.take q ++ [k] ++ l.drop q ↔ x = k ∨ x ∈ l := by
  have m1 : ∀ x ∈ l.take q, ltK x k := fun x hx => by
    obtain ⟨j, hj⟩ := List.getElem?_of_mem hx
    rw [List.getElem?_take] at hj
    split at hj
    · exact h2 j x (by omega) hj
    · cases hj
  have m2 : ∀ x ∈ l.drop q, ltK k x := fun x hx => by
    obtain ⟨j, hj⟩ := List.getElem?_of_mem hx
    rw [List.getElem?_drop] at hj
    exact h1 (q + j) x (by omega) hj
  refine ⟨?_, fun x => ?_⟩
  · rw [List.append_assoc, List.pairwise_append]
    refine ⟨hp.sublist (List.take_sublist q l), List.pairwise_cons.2 ⟨m2, hp.sublist (List.drop_sublist q l)⟩, fun a ha b hb => ?_⟩
    rcases List.mem_cons.1 hb with rfl | hb
    · exact m1 a ha
    · exact ltK_trans (m1 a ha) (m2 b hb)
  · have := List.take_append_drop q l
    conv => rhs; rw [← this]
    simp only [List.mem_append, List.mem_singleton]
    constructor
    · rintro ((h | h) | h)
      · exact .inr (.inl h)
      · exact .inl h
      · exact .inr (.inr h)
    · rintro (h | h | h)
      · exact .inl (.inr h)
      · exact .inl (.inl h)
      · exact .inr h
theorem put_lo {l : List Key} {k : Key} {q : Nat} (hp : l.Pairwise ltK) (h : q = 0 ∨ ∃ y, l[q - 1]? = some y ∧ ltK y k) : ∀ j x, j < q → l[j]? = some x → ltK x k := fun j x hj hx => by
  rcases h with rfl | ⟨y, hy, hyk⟩
  · omega
  · by_cases e : j = q - 1
    · subst e; rw [hy] at hx; cases hx; exact hyk
    · obtain ⟨q1, q2⟩ := List.getElem?_eq_some_iff.1 hx
      obtain ⟨q3, q4⟩ := List.getElem?_eq_some_iff.1 hy
      have := List.pairwise_iff_getElem.1 hp j (q - 1) q1 q3 (by omega)
      rw [q2, q4] at this
      exact ltK_trans this hyk
theorem put_hi {l : List Key} {k z : Key} {q : Nat} (hp : l.Pairwise ltK) (hz : l[q]? = some z) (h : ltK k z) : ∀ j x, q ≤ j → l[j]? = some x → ltK k x := fun j x hj hx => by
  by_cases e : j = q
  · subst e; rw [hz] at hx; cases hx; exact h
  · obtain ⟨q1, q2⟩ := List.getElem?_eq_some_iff.1 hx
    obtain ⟨q3, q4⟩ := List.getElem?_eq_some_iff.1 hz
    have := List.pairwise_iff_getElem.1 hp q j q3 q1 (by omega)
    rw [q2, q4] at this
    exact ltK_trans h this
theorem compare2_tr (a b : Key) : Tr Tryz.prog 85 [.agg #[.int .i64 a.table, .int .i64 a.row], .agg #[.int .i64 b.table, .int .i64 b.row]] [] [] (fun v m => v = .int .i64 (cmpK a b) ∧ m = []) := by
  intro w0 S0 H0
  refine enterR Tryz.func85 rfl Tryz.ntmps85 rfl ?_
  intro g0
  refine seq_ ?_
  refine region_ ?_
  refine wl_boxH H0 (v := .agg #[.int .i64 a.table, .int .i64 a.row]) rfl rfl ?_
  intro b1 w2 H2
  refine wl_boxH H2 (v := .agg #[.int .i64 b.table, .int .i64 b.row]) rfl rfl ?_
  intro b3 w4 H4
  refine wl_valE (v := .int .i64 (0 : Int)) rfl (rf_assign rfl) rfl ?_
  refine wl_nil ?_
  refine thn ?_
  refine seq_ ?_
  refine block_ ?_
  refine seq_ ?_
  refine region_ ?_
  refine wl_valE (v := .pointer (some ⟨b1, 0, none⟩)) rfl (rf_fieldAddr Tryz.underlying41 rfl ti3 rfl rfl) rfl ?_
  refine wl_valE (v := .int .i64 a.table) rfl (rf_load Tryz.underlying3 rfl rfl rfl ((H4.blk 0 rfl).cell rfl)) rfl ?_
  refine wl_valE (v := .pointer (some ⟨b3, 0, none⟩)) rfl (rf_fieldAddr Tryz.underlying41 rfl ti3 rfl rfl) rfl ?_
  refine wl_valE (v := .int .i64 b.table) rfl (rf_load Tryz.underlying3 rfl rfl rfl ((H4.blk 1 rfl).cell rfl)) rfl ?_
  refine wl_valE (v := .bool (decide (a.table < b.table))) rfl (rf_lss rfl rfl rfl rfl) rfl ?_
  refine wl_valE (v := .bool (decide (a.table < b.table))) rfl (rf_assign rfl) rfl ?_
  refine wl_nil ?_
  refine thn ?_
  refine cond_ (t := decide (a.table < b.table)) rfl rfl (fun c5 => ?_) (fun c5 => ?_)
  · have c5p := of_decide_eq_true c5
    refine seq_ ?_
    refine region_ ?_
    refine wl_valE (v := .int .i64 (-1 : Int)) rfl (rf_assign rfl) rfl ?_
    refine wl_nil ?_
    refine thn ?_
    refine ret_ ?_
    refine blr (thr ?_)
    refine fin1 (v := .int .i64 (-1 : Int)) Tryz.results85 rfl rfl ?_
    exact ⟨_, ⟨by rw [cmpK_m (by unfold ltK; omega)], rfl⟩, H4.pick' [] rfl rfl⟩
  · have c5p := of_decide_eq_false c5
    refine seq_ ?_
    refine region_ ?_
    refine wl_valE (v := .pointer (some ⟨b1, 0, none⟩)) rfl (rf_fieldAddr Tryz.underlying41 rfl ti3 rfl rfl) rfl ?_
    refine wl_valE (v := .int .i64 a.table) rfl (rf_load Tryz.underlying3 rfl rfl rfl ((H4.blk 0 rfl).cell rfl)) rfl ?_
    refine wl_valE (v := .pointer (some ⟨b3, 0, none⟩)) rfl (rf_fieldAddr Tryz.underlying41 rfl ti3 rfl rfl) rfl ?_
    refine wl_valE (v := .int .i64 b.table) rfl (rf_load Tryz.underlying3 rfl rfl rfl ((H4.blk 1 rfl).cell rfl)) rfl ?_
    refine wl_valE (v := .bool (decide (b.table < a.table))) rfl (rf_gtr rfl rfl rfl rfl) rfl ?_
    refine wl_valE (v := .bool (decide (b.table < a.table))) rfl (rf_assign rfl) rfl ?_
    refine wl_nil ?_
    refine thn ?_
    refine cond_ (t := decide (b.table < a.table)) rfl rfl (fun c11 => ?_) (fun c11 => ?_)
    · have c11p := of_decide_eq_true c11
      refine seq_ ?_
      refine region_ ?_
      refine wl_valE (v := .int .i64 (1 : Int)) rfl (rf_assign rfl) rfl ?_
      refine wl_nil ?_
      refine thn ?_
      refine ret_ ?_
      refine blr (thr ?_)
      refine fin1 (v := .int .i64 (1 : Int)) Tryz.results85 rfl rfl ?_
      exact ⟨_, ⟨by rw [cmpK_p (by unfold ltK; omega)], rfl⟩, H4.pick' [] rfl rfl⟩
    · have c11p := of_decide_eq_false c11
      refine seq_ ?_
      refine region_ ?_
      refine wl_valE (v := .pointer (some ⟨b1, 1, none⟩)) rfl (rf_fieldAddr Tryz.underlying41 rfl ti2 rfl rfl) rfl ?_
      refine wl_valE (v := .int .i64 a.row) rfl (rf_load Tryz.underlying2 rfl rfl rfl ((H4.blk 0 rfl).cell rfl)) rfl ?_
      refine wl_valE (v := .pointer (some ⟨b3, 1, none⟩)) rfl (rf_fieldAddr Tryz.underlying41 rfl ti2 rfl rfl) rfl ?_
      refine wl_valE (v := .int .i64 b.row) rfl (rf_load Tryz.underlying2 rfl rfl rfl ((H4.blk 1 rfl).cell rfl)) rfl ?_
      refine wl_valE (v := .bool (decide (a.row < b.row))) rfl (rf_lss rfl rfl rfl rfl) rfl ?_
      refine wl_valE (v := .bool (decide (a.row < b.row))) rfl (rf_assign rfl) rfl ?_
      refine wl_nil ?_
      refine thn ?_
      refine cond_ (t := decide (a.row < b.row)) rfl rfl (fun c17 => ?_) (fun c17 => ?_)
      · have c17p := of_decide_eq_true c17
        refine seq_ ?_
        refine region_ ?_
        refine wl_valE (v := .int .i64 (-1 : Int)) rfl (rf_assign rfl) rfl ?_
        refine wl_nil ?_
        refine thn ?_
        refine ret_ ?_
        refine blr (thr ?_)
        refine fin1 (v := .int .i64 (-1 : Int)) Tryz.results85 rfl rfl ?_
        exact ⟨_, ⟨by rw [cmpK_m (by unfold ltK; omega)], rfl⟩, H4.pick' [] rfl rfl⟩
      · have c17p := of_decide_eq_false c17
        refine seq_ ?_
        refine region_ ?_
        refine wl_valE (v := .pointer (some ⟨b1, 1, none⟩)) rfl (rf_fieldAddr Tryz.underlying41 rfl ti2 rfl rfl) rfl ?_
        refine wl_valE (v := .int .i64 a.row) rfl (rf_load Tryz.underlying2 rfl rfl rfl ((H4.blk 0 rfl).cell rfl)) rfl ?_
        refine wl_valE (v := .pointer (some ⟨b3, 1, none⟩)) rfl (rf_fieldAddr Tryz.underlying41 rfl ti2 rfl rfl) rfl ?_
        refine wl_valE (v := .int .i64 b.row) rfl (rf_load Tryz.underlying2 rfl rfl rfl ((H4.blk 1 rfl).cell rfl)) rfl ?_
        refine wl_valE (v := .bool (decide (b.row < a.row))) rfl (rf_gtr rfl rfl rfl rfl) rfl ?_
        refine wl_valE (v := .bool (decide (b.row < a.row))) rfl (rf_assign rfl) rfl ?_
        refine wl_nil ?_
        refine thn ?_
        refine cond_ (t := decide (b.row < a.row)) rfl rfl (fun c23 => ?_) (fun c23 => ?_)
        · have c23p := of_decide_eq_true c23
          refine seq_ ?_
          refine region_ ?_
          refine wl_valE (v := .int .i64 (1 : Int)) rfl (rf_assign rfl) rfl ?_
          refine wl_nil ?_
          refine thn ?_
          refine ret_ ?_
          refine blr (thr ?_)
          refine fin1 (v := .int .i64 (1 : Int)) Tryz.results85 rfl rfl ?_
          exact ⟨_, ⟨by rw [cmpK_p (by unfold ltK; omega)], rfl⟩, H4.pick' [] rfl rfl⟩
        · have c23p := of_decide_eq_false c23
          refine skip_ ?_
          refine bln ?_
          refine thn ?_
          refine seq_ ?_
          refine region_ ?_
          refine wl_valE (v := .int .i64 (0 : Int)) rfl (rf_assign rfl) rfl ?_
          refine wl_nil ?_
          refine thn ?_
          refine ret_ ?_
          refine fin1 (v := .int .i64 (0 : Int)) Tryz.results85 rfl rfl ?_
          exact ⟨_, ⟨by rw [cmpK_e (by unfold ltK; omega) (by unfold ltK; omega)], rfl⟩, H4.pick' [] rfl rfl⟩
theorem all_tr (a : Option Addr) (n c : Nat) (l : List Key) (hn : n ≤ 4398046511104) (hok : ∀ k ∈ l, okK k = true) : Tr Tryz.prog 73 [.slice a n c] [rdH encKey 2 a n c l] [] (fun v m => v = .bool true ∧ m = []) := by
  intro w0 S0 H0
  refine enterR Tryz.func73 rfl Tryz.ntmps73 rfl ?_
  intro g0
  refine seq_ ?_
  refine region_ ?_
  refine wl_valE (v := .bool false) rfl (rf_assign rfl) rfl ?_
  refine wl_nil ?_
  refine thn ?_
  refine seq_ ?_
  refine seq_ ?_
  refine region_ ?_
  refine wl_valE (v := .int .i64 (0 : Int)) rfl (rf_assign rfl) rfl ?_
  refine wl_nil ?_
  refine thn ?_
  refine block_ ?_
  refine loop_ (fun qk_ qf_ qw_ => ∃ (g : Nat → Value) (k : Nat), qf_ = upds g [(0, .slice a n c), (3, .int .i64 ((k : Nat) : Int))] ∧ qk_ = n - k ∧ (k ≤ n) ∧ St w0 S0 [rdH encKey 2 a n c l] qw_ []) (n - 0) ?_ ?_
  · refine ⟨_, 0, upds_self ⟨rfl, rfl, trivial⟩, rfl, Nat.zero_le _, H0.pick' [] rfl rfl⟩
  · rintro lk0 _ wl0 ⟨gl0, k, rfl, hlk0, hk, HL0⟩
    refine seq_ ?_
    refine seq_ ?_
    refine region_ ?_
    refine wl_valE (v := .int .i64 ((k : Nat) : Int)) rfl (rf_move rfl) rfl ?_
    refine wl_valE (v := .slice a n c) rfl (rf_move rfl) rfl ?_
    refine wl_valE (v := .int .i64 ((n : Nat) : Int)) rfl (rf_len_slice Tryz.underlying85 rfl rfl) rfl ?_
    refine wl_valE (v := .bool (decide (((k : Nat) : Int) < ((n : Nat) : Int)))) rfl (rf_lss rfl rfl rfl rfl) rfl ?_
    refine wl_nil ?_
    refine thn ?_
    refine cond_ (t := decide (((k : Nat) : Int) < ((n : Nat) : Int))) rfl rfl (fun c7 => ?_) (fun c7 => ?_)
    · have c7p := of_decide_eq_true c7
      refine skip_ ?_
      refine thn ?_
      refine seq_ ?_
      refine block_ ?_
      refine seq_ ?_
      have hn1 := rd_len (HL0.rdR 0 Le.rfl)
      obtain ⟨x, hx⟩ : ∃ q_, l[k]? = some q_ := ⟨_, List.getElem?_eq_getElem (by omega)⟩
      refine region_ ?_
      refine wl_valE (v := .slice a n c) rfl (rf_move rfl) rfl ?_
      refine wl_valE (v := .int .i64 ((k : Nat) : Int)) rfl (rf_move rfl) rfl ?_
      refine wl_valE (v := .pointer (some ⟨ab a, ao a + k * 2, none⟩)) rfl (rf_indexAddrH Tryz.underlying85 ti41 rfl rfl rfl rfl (by omega) (by omega) (HL0.rdR 0 Le.rfl)) rfl ?_
      refine wl_valE (v := .agg #[.int .i64 x.table, .int .i64 x.row]) rfl (rf_loadAgg (cs := [.int .i64 x.table, .int .i64 x.row]) Tryz.underlying41 rfl ti41 rfl rfl (el_sub' (rd_el (HL0.rdR 0 Le.rfl) hx) 0 2 rfl) rfl) rfl ?_
      refine wl_tr HL0 rfl [] (check2_tr x) rfl .nil (rf_call Tryz.call40 rfl rfl) rfl ?_
      rintro _ w2 _ ⟨rfl, rfl⟩ H2
      refine wl_valE (v := .bool (decide (checkF x ≠ (0 : Int)))) rfl (rf_neq rfl rfl rfl rfl) rfl ?_
      refine wl_nil ?_
      refine thn ?_
      refine condF' rfl rfl (t := decide (checkF x ≠ (0 : Int))) ((decide_eq_false (by have := check_ok.2 (hok x (List.mem_of_getElem? hx)); omega))) ?_
      refine skip_ ?_
      refine bln ?_
      refine thn ?_
      refine region_ ?_
      refine wl_valE (v := .int .i64 ((k : Nat) : Int)) rfl (rf_move rfl) rfl ?_
      refine wl_valE (v := .int .i64 ((k + 1 : Nat) : Int)) rfl (rf_add rfl rfl rfl rfl (IntWalk.i64_in _ (by omega))) rfl ?_
      refine wl_valE (v := .int .i64 ((k + 1 : Nat) : Int)) rfl (rf_assign rfl) rfl ?_
      refine wl_nil ?_
      refine thn ?_
      refine ⟨n - (k + 1), _, rfl, (by omega), _, k + 1, upds_self ⟨rfl, rfl, trivial⟩, rfl, by omega, H2.pick' [] rfl rfl⟩
    · have c7p := of_decide_eq_false c7
      refine exit_ ?_
      refine thx (thx (blx ?_))
      refine thn ?_
      refine seq_ ?_
      refine region_ ?_
      refine wl_valE (v := .bool true) rfl (rf_assign rfl) rfl ?_
      refine wl_nil ?_
      refine thn ?_
      refine ret_ ?_
      refine fin1 (v := .bool true) Tryz.results73 rfl rfl ?_
      exact ⟨_, ⟨rfl, rfl⟩, HL0.pick' [] rfl rfl⟩
theorem putK_tr (a : Option Addr) (n c : Nat) (l : List Key) (k : Key) (hn : n ≤ 4398046511104) (hp : l.Pairwise ltK) : Tr Tryz.prog 74 [.slice a n c, .agg #[.int .i64 k.table, .int .i64 k.row]] [] [slH encKey 2 41 a n c l] (fun v m => ∃ a' n' c' l', (l'.Pairwise ltK ∧ (∀ x, x ∈ l' ↔ x = k ∨ x ∈ l) ∧ n' ≤ n + 1) ∧ v = .slice a' n' c' ∧ m = [slH encKey 2 41 a' n' c' l']) := by
  intro w0 S0 H0
  have hl := (slH_len H0 0 rfl).1
  have hl2 := (slH_len H0 0 rfl).2.1
  refine enterR Tryz.func74 rfl Tryz.ntmps74 rfl ?_
  intro g0
  refine seq_ ?_
  refine region_ ?_
  refine wl_boxH H0 (v := .agg #[.int .i64 k.table, .int .i64 k.row]) rfl rfl ?_
  intro b1 w2 H2
  refine wl_valE (v := .slice none 0 0) rfl (rf_assign rfl) rfl ?_
  refine wl_nil ?_
  refine thn ?_
  refine seq_ ?_
  refine region_ ?_
  refine wl_valE (v := .slice a n c) rfl (rf_move rfl) rfl ?_
  refine wl_valE (v := .int .i64 ((n : Nat) : Int)) rfl (rf_len_slice Tryz.underlying85 rfl rfl) rfl ?_
  refine wl_valE (v := .int .i64 ((n : Nat) : Int)) rfl (rf_assign rfl) rfl ?_
  refine wl_nil ?_
  refine thn ?_
  refine seq_ ?_
  refine cut_ (fun qf_ qw_ => ∃ (g : Nat → Value) (q : Nat), qf_ = upds g [(0, .slice a n c), (3, .pointer (some ⟨b1, 0, none⟩)), (5, .int .i64 ((q : Nat) : Int))] ∧ (q ≤ n) ∧ (∀ j x, q ≤ j → l[j]? = some x → ¬ ltK x k) ∧ (q = 0 ∨ ∃ y, l[q - 1]? = some y ∧ ltK y k) ∧ St w0 S0 [] qw_ [slH encKey 2 41 a n c l, blkH b1 #[.int .i64 k.table, .int .i64 k.row] 41]) ?_ ?_
  · refine block_ ?_
    refine loop_ (fun qk_ qf_ qw_ => ∃ (g : Nat → Value) (q : Nat), qf_ = upds g [(0, .slice a n c), (3, .pointer (some ⟨b1, 0, none⟩)), (5, .int .i64 ((q : Nat) : Int))] ∧ qk_ = q ∧ (q ≤ n) ∧ (∀ j x, q ≤ j → l[j]? = some x → ¬ ltK x k) ∧ St w0 S0 [] qw_ [slH encKey 2 41 a n c l, blkH b1 #[.int .i64 k.table, .int .i64 k.row] 41]) (n) ?_ ?_
    · refine ⟨_, n, upds_self ⟨rfl, rfl, rfl, trivial⟩, rfl, Nat.le_refl _, fun j x h1 h2 => by have := (List.getElem?_eq_some_iff.1 h2).1; omega, H2.pick' [0, 1] rfl rfl⟩
    · rintro lk0 _ wl0 ⟨gl0, q, rfl, hlk0, hq, hhi, HL0⟩
      refine seq_ ?_
      refine seq_ ?_
      refine region_q mixedP (by kernel_rfl) ?_
      refine qt_valE (v := .int .i64 ((q : Nat) : Int)) rfl (fun wq hq => rf_move rfl) rfl ?_
      refine qt_valE (v := .bool (decide ((0 : Int) < ((q : Nat) : Int)))) rfl (fun wq hq => rf_gtr rfl rfl rfl rfl) rfl ?_
      refine qt_valE (v := .bool (decide ((0 : Int) < ((q : Nat) : Int)))) rfl (fun wq hq => rf_move rfl) rfl ?_
      refine qt_split (decide ((0 : Int) < ((q : Nat) : Int))) (fun u2_2 => ?_) (fun u2_2 => ?_)
      · have u2_2p := of_decide_eq_true u2_2
        have hn3 := slH_len HL0 0 rfl
        obtain ⟨y, hy⟩ : ∃ q_, l[q - 1]? = some q_ := ⟨_, List.getElem?_eq_getElem (by omega)⟩
        refine qt_guardT rfl rfl rfl u2_2 ?_
        refine qt_valE (v := .agg #[.int .i64 k.table, .int .i64 k.row]) rfl (fun wq hq => rf_loadBlk Tryz.underlying41 rfl ti41 rfl rfl ((HL0.keep hq).blk 1 rfl) (leb rfl)) rfl ?_
        refine qt_guardT rfl rfl rfl u2_2 ?_
        refine qt_valE (v := .slice a n c) rfl (fun wq hq => rf_move rfl) rfl ?_
        refine qt_guardT rfl rfl rfl u2_2 ?_
        refine qt_valE (v := .int .i64 ((q : Nat) : Int)) rfl (fun wq hq => rf_move rfl) rfl ?_
        refine qt_guardT rfl rfl rfl u2_2 ?_
        refine qt_valE (v := .int .i64 ((q - 1 : Nat) : Int)) rfl (fun wq hq => rf_sub rfl rfl rfl rfl (by rw [IntWalk.i64_in _ (by omega)]; omega)) rfl ?_
        refine qt_guardT rfl rfl rfl u2_2 ?_
        refine qt_valE (v := .pointer (some ⟨ab a, ao a + (q - 1) * 2, none⟩)) rfl (fun wq hq => rf_indexAddrH Tryz.underlying85 ti41 rfl rfl rfl rfl (by omega) (by omega) ((HL0.keep hq).rdO 0 slH_rd)) rfl ?_
        refine qt_guardT rfl rfl rfl u2_2 ?_
        refine qt_valE (v := .agg #[.int .i64 y.table, .int .i64 y.row]) rfl (fun wq hq => rf_loadAgg (cs := [.int .i64 y.table, .int .i64 y.row]) Tryz.underlying41 rfl ti41 rfl rfl (el_sub' (rd_el ((HL0.keep hq).rdO 0 slH_rd) hy) 0 2 rfl) rfl) rfl ?_
        refine qt_guardT rfl rfl rfl u2_2 ?_
        refine qt_ret (v := .int .i64 (cmpK k y)) rfl (fun wq hq => ((compare2_tr k y).quiet (HL0.keep hq) .nil (by rintro _ _ ⟨rfl, rfl⟩; exact rfl)).mono (fun _ _ h => ⟨h.1, hq.trans h.2⟩)) (fun wq hq => rf_call Tryz.call85 rfl rfl) ?_
        refine qt_guardT rfl rfl rfl u2_2 ?_
        refine qt_valE (v := .bool (decide (cmpK k y ≤ (0 : Int)))) rfl (fun wq hq => rf_leq rfl rfl rfl rfl) rfl ?_
        refine qt_valE (v := .bool (decide (cmpK k y ≤ (0 : Int)))) rfl (fun wq hq => rf_pickT rfl rfl rfl u2_2) rfl ?_
        refine qt_nil ?_
        intro w4 hk4
        have H4 := HL0.keep hk4
        refine thn ?_
        refine cond_ (t := decide (cmpK k y ≤ (0 : Int))) rfl rfl (fun c20 => ?_) (fun c20 => ?_)
        · have c20p := of_decide_eq_true c20
          refine skip_ ?_
          refine thn ?_
          refine block_ ?_
          refine region_ ?_
          refine wl_valE (v := .int .i64 ((q : Nat) : Int)) rfl (rf_move rfl) rfl ?_
          refine wl_valE (v := .int .i64 ((q - 1 : Nat) : Int)) rfl (rf_sub rfl rfl rfl rfl (by rw [IntWalk.i64_in _ (by omega)]; omega)) rfl ?_
          refine wl_valE (v := .int .i64 ((q - 1 : Nat) : Int)) rfl (rf_assign rfl) rfl ?_
          refine wl_nil ?_
          refine bln ?_
          refine thn ?_
          refine ⟨(q - 1), _, rfl, (by omega), _, q - 1, upds_self ⟨rfl, rfl, rfl, trivial⟩, rfl, by omega, fun j x h1 h2 => by
            by_cases e : j = q - 1
            · subst e; rw [hy] at h2; cases h2; exact cmpK_le.1 (by omega)
            · exact hhi j x (by omega) h2, H4.pick' [0, 1] rfl rfl⟩
        · have c20p := of_decide_eq_false c20
          refine exit_ ?_
          refine thx (thx (blx ?_))
          refine cxn ⟨_, q, upds_self ⟨rfl, rfl, rfl, trivial⟩, hq, hhi, .inr ⟨y, hy, Decidable.not_not.1 (fun h => by have := cmpK_le.2 h; omega)⟩, H4.pick' [0, 1] rfl rfl⟩
      · have u2_2p := of_decide_eq_false u2_2
        refine qt_guardF rfl rfl rfl u2_2 ?_
        refine qt_guardF rfl rfl rfl u2_2 ?_
        refine qt_guardF rfl rfl rfl u2_2 ?_
        refine qt_guardF rfl rfl rfl u2_2 ?_
        refine qt_guardF rfl rfl rfl u2_2 ?_
        refine qt_guardF rfl rfl rfl u2_2 ?_
        refine qt_guardF rfl rfl rfl u2_2 ?_
        refine qt_guardF rfl rfl rfl u2_2 ?_
        refine qt_valE (v := .bool false) rfl (fun wq hq => rf_pickF rfl rfl rfl u2_2) rfl ?_
        refine qt_nil ?_
        intro w5 hk5
        have H5 := HL0.keep hk5
        refine thn ?_
        refine condF rfl rfl ?_
        refine exit_ ?_
        refine thx (thx (blx ?_))
        refine cxn ⟨_, q, upds_self ⟨rfl, rfl, rfl, trivial⟩, hq, hhi, .inl (by omega), H5.pick' [0, 1] rfl rfl⟩
  · rintro _ wcutb0 ⟨glcutb0, q, rfl, hq, hhi, hlo, Hcutb0⟩
    refine thn ?_
    refine seq_ ?_
    refine seq_ ?_
    refine region_q mixedP (by kernel_rfl) ?_
    refine qt_valE (v := .int .i64 ((q : Nat) : Int)) rfl (fun wq hq => rf_move rfl) rfl ?_
    refine qt_valE (v := .slice a n c) rfl (fun wq hq => rf_move rfl) rfl ?_
    refine qt_valE (v := .int .i64 ((n : Nat) : Int)) rfl (fun wq hq => rf_len_slice Tryz.underlying85 rfl rfl) rfl ?_
    refine qt_valE (v := .bool (decide (((q : Nat) : Int) < ((n : Nat) : Int)))) rfl (fun wq hq => rf_lss rfl rfl rfl rfl) rfl ?_
    refine qt_valE (v := .bool (decide (((q : Nat) : Int) < ((n : Nat) : Int)))) rfl (fun wq hq => rf_move rfl) rfl ?_
    refine qt_split (decide (((q : Nat) : Int) < ((n : Nat) : Int))) (fun u4_4 => ?_) (fun u4_4 => ?_)
    · have u4_4p := of_decide_eq_true u4_4
      have hn6 := slH_len Hcutb0 0 rfl
      obtain ⟨z, hz⟩ : ∃ q_, l[q]? = some q_ := ⟨_, List.getElem?_eq_getElem (by omega)⟩
      refine qt_guardT rfl rfl rfl u4_4 ?_
      refine qt_valE (v := .agg #[.int .i64 k.table, .int .i64 k.row]) rfl (fun wq hq => rf_loadBlk Tryz.underlying41 rfl ti41 rfl rfl ((Hcutb0.keep hq).blk 1 rfl) (leb rfl)) rfl ?_
      refine qt_guardT rfl rfl rfl u4_4 ?_
      refine qt_valE (v := .slice a n c) rfl (fun wq hq => rf_move rfl) rfl ?_
      refine qt_guardT rfl rfl rfl u4_4 ?_
      refine qt_valE (v := .int .i64 ((q : Nat) : Int)) rfl (fun wq hq => rf_move rfl) rfl ?_
      refine qt_guardT rfl rfl rfl u4_4 ?_
      refine qt_valE (v := .pointer (some ⟨ab a, ao a + q * 2, none⟩)) rfl (fun wq hq => rf_indexAddrH Tryz.underlying85 ti41 rfl rfl rfl rfl (by omega) (by omega) ((Hcutb0.keep hq).rdO 0 slH_rd)) rfl ?_
      refine qt_guardT rfl rfl rfl u4_4 ?_
      refine qt_valE (v := .agg #[.int .i64 z.table, .int .i64 z.row]) rfl (fun wq hq => rf_loadAgg (cs := [.int .i64 z.table, .int .i64 z.row]) Tryz.underlying41 rfl ti41 rfl rfl (el_sub' (rd_el ((Hcutb0.keep hq).rdO 0 slH_rd) hz) 0 2 rfl) rfl) rfl ?_
      refine qt_guardT rfl rfl rfl u4_4 ?_
      refine qt_ret (v := .int .i64 (cmpK k z)) rfl (fun wq hq => ((compare2_tr k z).quiet (Hcutb0.keep hq) .nil (by rintro _ _ ⟨rfl, rfl⟩; exact rfl)).mono (fun _ _ h => ⟨h.1, hq.trans h.2⟩)) (fun wq hq => rf_call Tryz.call85 rfl rfl) ?_
      refine qt_guardT rfl rfl rfl u4_4 ?_
      refine qt_valE (v := .bool (decide (cmpK k z = (0 : Int)))) rfl (fun wq hq => rf_eql rfl rfl rfl rfl) rfl ?_
      refine qt_valE (v := .bool (decide (cmpK k z = (0 : Int)))) rfl (fun wq hq => rf_pickT rfl rfl rfl u4_4) rfl ?_
      refine qt_nil ?_
      intro w7 hk7
      have H7 := Hcutb0.keep hk7
      refine thn ?_
      refine cond_ (t := decide (cmpK k z = (0 : Int))) rfl rfl (fun c35 => ?_) (fun c35 => ?_)
      · have c35p := of_decide_eq_true c35
        refine seq_ ?_
        refine region_ ?_
        refine wl_valE (v := .slice a n c) rfl (rf_move rfl) rfl ?_
        refine wl_valE (v := .slice a n c) rfl (rf_assign rfl) rfl ?_
        refine wl_nil ?_
        refine thn ?_
        refine ret_ ?_
        refine thr ?_
        refine fin1 (v := .slice a n c) Tryz.results74 rfl rfl ?_
        exact ⟨_, ⟨_, _, _, _, ⟨hp, fun x => ⟨.inr, fun h => h.elim (fun e => by have := cmpK_zero.1 (show cmpK k z = 0 by omega); rw [e, this]; exact List.mem_of_getElem? hz) id⟩, by omega⟩, rfl, rfl⟩, H7.pick' [0] rfl rfl⟩
      · have c35p := of_decide_eq_false c35
        refine skip_ ?_
        refine thn ?_
        refine seq_ ?_
        refine region_ ?_
        refine wl_valE (v := .slice none 0 0) rfl (rf_assign rfl) rfl ?_
        refine wl_nil ?_
        refine thn ?_
        refine seq_ ?_
        refine region_ ?_
        refine wl_valE (v := .slice none 0 0) rfl (rf_move rfl) rfl ?_
        refine wl_valE (v := .slice a n c) rfl (rf_move rfl) rfl ?_
        refine wl_valE (v := .int .i64 ((q : Nat) : Int)) rfl (rf_move rfl) rfl ?_
        refine wl_valE (v := .slice a q c) rfl (rf_sliceTo (h := q) Tryz.underlying85 ti41 rfl rfl rfl rfl (by omega)) rfl ?_
        have Hn8 := H7.addNil encKey 2 41
        refine wl_appendH (enc := encKey) (N := q) Hn8 2 rfl rfl encKey_len encKey_one Tryz.underlying85 ti41 rfl rfl rfl rfl rfl (Hn8.rdO 0 (slH_rd.trans (rdH_take q (by omega)))) (Nat.zero_add _) (by omega) (by omega) ?_
        intro a9 c9 w9 hc9 hd9 H9
        refine wl_valE (v := .slice a9 q c9) rfl (rf_assign rfl) rfl ?_
        refine wl_nil ?_
        refine thn ?_
        refine seq_ ?_
        refine region_ ?_
        refine wl_valE (v := .slice a9 q c9) rfl (rf_move rfl) rfl ?_
        refine wl_valE (v := .agg #[.int .i64 k.table, .int .i64 k.row]) rfl (rf_loadBlk Tryz.underlying41 rfl ti41 rfl rfl (H9.blk 1 rfl) (leb rfl)) rfl ?_
        refine wl_buildSliceH (enc := encKey) H9 [k] encKey_len Tryz.underlying85 ti41 rfl rfl rfl (.cons rfl rfl rfl rfl rfl rfl .nil) ?_
        intro a10 w11 H11
        refine wl_appendH (enc := encKey) (N := q + 1) H11 2 rfl rfl encKey_len encKey_one Tryz.underlying85 ti41 rfl rfl rfl rfl rfl (H11.rdO 3 slH_rd) rfl (by omega) (by omega) ?_
        intro a12 c12 w12 hc12 hd12 H12
        refine wl_valE (v := .slice a12 (q + 1) c12) rfl (rf_assign rfl) rfl ?_
        refine wl_nil ?_
        refine thn ?_
        refine seq_ ?_
        refine region_ ?_
        refine wl_valE (v := .slice a12 (q + 1) c12) rfl (rf_move rfl) rfl ?_
        refine wl_valE (v := .slice a n c) rfl (rf_move rfl) rfl ?_
        refine wl_valE (v := .int .i64 ((q : Nat) : Int)) rfl (rf_move rfl) rfl ?_
        refine wl_valE (v := .slice (dropA a 2 q c) (n - q) (c - q)) rfl (rf_sliceFrom (l := q) Tryz.underlying85 ti41 rfl rfl rfl rfl (by omega)) rfl ?_
        refine wl_appendH (enc := encKey) (N := q + 1 + (n - q)) H12 2 rfl rfl encKey_len encKey_one Tryz.underlying85 ti41 rfl rfl rfl rfl rfl (H12.rdO 0 (slH_rd.trans (rdH_drop q (by omega)))) rfl (by omega) (by omega) ?_
        intro a13 c13 w13 hc13 hd13 H13
        try dsimp only [putsH, setH, List.cons_append, List.nil_append] at H13
        refine wl_valE (v := .slice a13 (q + 1 + (n - q)) c13) rfl (rf_assign rfl) rfl ?_
        refine wl_nil ?_
        refine thn ?_
        refine ret_ ?_
        refine fin1 (v := .slice a13 (q + 1 + (n - q)) c13) Tryz.results74 rfl rfl ?_
        exact ⟨_, ⟨_, _, _, _, ⟨(put_ok hp (put_hi hp hz (ltK_of (hhi q z (Nat.le_refl _) hz) (fun e => by have := cmpK_zero.2 e; omega))) (put_lo hp hlo)).1, (put_ok hp (put_hi hp hz (ltK_of (hhi q z (Nat.le_refl _) hz) (fun e => by have := cmpK_zero.2 e; omega))) (put_lo hp hlo)).2, by omega⟩, rfl, rfl⟩, H13.pick' [2] rfl rfl⟩
    · have u4_4p := of_decide_eq_false u4_4
      refine qt_guardF rfl rfl rfl u4_4 ?_
      refine qt_guardF rfl rfl rfl u4_4 ?_
      refine qt_guardF rfl rfl rfl u4_4 ?_
      refine qt_guardF rfl rfl rfl u4_4 ?_
      refine qt_guardF rfl rfl rfl u4_4 ?_
      refine qt_guardF rfl rfl rfl u4_4 ?_
      refine qt_guardF rfl rfl rfl u4_4 ?_
      refine qt_valE (v := .bool false) rfl (fun wq hq => rf_pickF rfl rfl rfl u4_4) rfl ?_
      refine qt_nil ?_
      intro w14 hk14
      have H14 := Hcutb0.keep hk14
      refine thn ?_
      refine condF rfl rfl ?_
      refine skip_ ?_
      refine thn ?_
      refine seq_ ?_
      refine region_ ?_
      refine wl_valE (v := .slice none 0 0) rfl (rf_assign rfl) rfl ?_
      refine wl_nil ?_
      refine thn ?_
      refine seq_ ?_
      refine region_ ?_
      refine wl_valE (v := .slice none 0 0) rfl (rf_move rfl) rfl ?_
      refine wl_valE (v := .slice a n c) rfl (rf_move rfl) rfl ?_
      refine wl_valE (v := .int .i64 ((q : Nat) : Int)) rfl (rf_move rfl) rfl ?_
      refine wl_valE (v := .slice a q c) rfl (rf_sliceTo (h := q) Tryz.underlying85 ti41 rfl rfl rfl rfl (by omega)) rfl ?_
      have Hn15 := H14.addNil encKey 2 41
      refine wl_appendH (enc := encKey) (N := q) Hn15 2 rfl rfl encKey_len encKey_one Tryz.underlying85 ti41 rfl rfl rfl rfl rfl (Hn15.rdO 0 (slH_rd.trans (rdH_take q (by omega)))) (Nat.zero_add _) (by omega) (by omega) ?_
      intro a16 c16 w16 hc16 hd16 H16
      refine wl_valE (v := .slice a16 q c16) rfl (rf_assign rfl) rfl ?_
      refine wl_nil ?_
      refine thn ?_
      refine seq_ ?_
      refine region_ ?_
      refine wl_valE (v := .slice a16 q c16) rfl (rf_move rfl) rfl ?_
      refine wl_valE (v := .agg #[.int .i64 k.table, .int .i64 k.row]) rfl (rf_loadBlk Tryz.underlying41 rfl ti41 rfl rfl (H16.blk 1 rfl) (leb rfl)) rfl ?_
      refine wl_buildSliceH (enc := encKey) H16 [k] encKey_len Tryz.underlying85 ti41 rfl rfl rfl (.cons rfl rfl rfl rfl rfl rfl .nil) ?_
      intro a17 w18 H18
      refine wl_appendH (enc := encKey) (N := q + 1) H18 2 rfl rfl encKey_len encKey_one Tryz.underlying85 ti41 rfl rfl rfl rfl rfl (H18.rdO 3 slH_rd) rfl (by omega) (by omega) ?_
      intro a19 c19 w19 hc19 hd19 H19
      refine wl_valE (v := .slice a19 (q + 1) c19) rfl (rf_assign rfl) rfl ?_
      refine wl_nil ?_
      refine thn ?_
      refine seq_ ?_
      refine region_ ?_
      refine wl_valE (v := .slice a19 (q + 1) c19) rfl (rf_move rfl) rfl ?_
      refine wl_valE (v := .slice a n c) rfl (rf_move rfl) rfl ?_
      refine wl_valE (v := .int .i64 ((q : Nat) : Int)) rfl (rf_move rfl) rfl ?_
      refine wl_valE (v := .slice (dropA a 2 q c) (n - q) (c - q)) rfl (rf_sliceFrom (l := q) Tryz.underlying85 ti41 rfl rfl rfl rfl (by omega)) rfl ?_
      refine wl_appendH (enc := encKey) (N := q + 1 + (n - q)) H19 2 rfl rfl encKey_len encKey_one Tryz.underlying85 ti41 rfl rfl rfl rfl rfl (H19.rdO 0 (slH_rd.trans (rdH_drop q (by omega)))) rfl (by omega) (by omega) ?_
      intro a20 c20 w20 hc20 hd20 H20
      try dsimp only [putsH, setH, List.cons_append, List.nil_append] at H20
      refine wl_valE (v := .slice a20 (q + 1 + (n - q)) c20) rfl (rf_assign rfl) rfl ?_
      refine wl_nil ?_
      refine thn ?_
      refine ret_ ?_
      refine fin1 (v := .slice a20 (q + 1 + (n - q)) c20) Tryz.results74 rfl rfl ?_
      exact ⟨_, ⟨_, _, _, _, ⟨(put_ok hp (fun j x h1 h2 => by have := (List.getElem?_eq_some_iff.1 h2).1; omega) (put_lo hp hlo)).1, (put_ok hp (fun j x h1 h2 => by have := (List.getElem?_eq_some_iff.1 h2).1; omega) (put_lo hp hlo)).2, by omega⟩, rfl, rfl⟩, H20.pick' [2] rfl rfl⟩
theorem sort2_tr (a : Option Addr) (n c : Nat) (l : List Key) (hn : n ≤ 4294967296) (hok : ∀ k ∈ l, okK k = true) : Tr Tryz.prog 60 [.slice a n c] [rdH encKey 2 a n c l] [] (fun v m => ∃ a' c' l', (l'.Pairwise ltK ∧ ∀ x, x ∈ l' ↔ x ∈ l) ∧ v = .tuple #[.slice a' l'.length c', .int .i64 0] ∧ m = [slH encKey 2 41 a' l'.length c' l']) := by
  intro w0 S0 H0
  have hl := (rd_len (H0.rdR 0 Le.rfl)).1
  refine enterR Tryz.func60 rfl Tryz.ntmps60 rfl ?_
  intro g0
  refine seq_ ?_
  refine region_ ?_
  refine wl_valE (v := .slice none 0 0) rfl (rf_assign rfl) rfl ?_
  refine wl_valE (v := .int .i64 (0 : Int)) rfl (rf_assign rfl) rfl ?_
  refine wl_nil ?_
  refine thn ?_
  refine seq_ ?_
  refine region_ ?_
  refine wl_valE (v := .slice a n c) rfl (rf_move rfl) rfl ?_
  refine wl_tr H0 rfl [] (all_tr a n c l (by omega) hok) rfl (.ro 0 Le.rfl .nil) (rf_call Tryz.call73 rfl rfl) rfl ?_
  rintro _ w1 _ ⟨rfl, rfl⟩ H1
  refine wl_valE (v := .bool true) rfl (rf_assign rfl) rfl ?_
  refine wl_nil ?_
  refine thn ?_
  refine seq_ ?_
  refine seq_ ?_
  refine region_ ?_
  refine wl_valE (v := .bool true) rfl (rf_move rfl) rfl ?_
  refine wl_valE (v := .bool false) rfl (rf_not rfl rfl) rfl ?_
  refine wl_nil ?_
  refine thn ?_
  refine condF rfl rfl ?_
  refine skip_ ?_
  refine thn ?_
  refine seq_ ?_
  refine region_ ?_
  refine wl_valE (v := .slice none 0 0) rfl (rf_assign rfl) rfl ?_
  refine wl_nil ?_
  refine thn ?_
  refine seq_ ?_
  refine seq_ ?_
  refine region_ ?_
  refine wl_valE (v := .int .i64 (0 : Int)) rfl (rf_assign rfl) rfl ?_
  refine wl_nil ?_
  refine thn ?_
  refine block_ ?_
  have H2 := H1.addNil encKey 2 41 (α := Key)
  refine loop_ (fun qk_ qf_ qw_ => ∃ (g : Nat → Value) (i m : Nat) (wl : List Key) (wa : Option Addr) (wc : Nat), qf_ = upds g [(0, .slice a n c), (5, .slice wa m wc), (6, .int .i64 ((i : Nat) : Int))] ∧ qk_ = n - i ∧ (i ≤ n ∧ m ≤ i) ∧ (wl.Pairwise ltK) ∧ (∀ x, x ∈ wl ↔ x ∈ l.take i) ∧ St w0 S0 [rdH encKey 2 a n c l] qw_ [slH encKey 2 41 wa m wc wl]) (n - 0) ?_ ?_
  · refine ⟨_, 0, 0, [], none, 0, upds_self ⟨rfl, rfl, rfl, trivial⟩, rfl, ⟨Nat.zero_le _, Nat.le_refl _⟩, .nil, fun x => by simp, H2.pick' [0] rfl rfl⟩
  · rintro lk0 _ wl0 ⟨gl0, i, m, wl, wa, wc, rfl, hlk0, hi, hp, hm, HL0⟩
    refine seq_ ?_
    refine seq_ ?_
    refine region_ ?_
    refine wl_valE (v := .int .i64 ((i : Nat) : Int)) rfl (rf_move rfl) rfl ?_
    refine wl_valE (v := .slice a n c) rfl (rf_move rfl) rfl ?_
    refine wl_valE (v := .int .i64 ((n : Nat) : Int)) rfl (rf_len_slice Tryz.underlying85 rfl rfl) rfl ?_
    refine wl_valE (v := .bool (decide (((i : Nat) : Int) < ((n : Nat) : Int)))) rfl (rf_lss rfl rfl rfl rfl) rfl ?_
    refine wl_nil ?_
    refine thn ?_
    refine cond_ (t := decide (((i : Nat) : Int) < ((n : Nat) : Int))) rfl rfl (fun c14 => ?_) (fun c14 => ?_)
    · have c14p := of_decide_eq_true c14
      refine skip_ ?_
      refine thn ?_
      refine seq_ ?_
      refine block_ ?_
      have hn3 := rd_len (HL0.rdR 0 Le.rfl)
      obtain ⟨k, hk⟩ : ∃ q_, l[i]? = some q_ := ⟨_, List.getElem?_eq_getElem (by omega)⟩
      refine region_ ?_
      refine wl_valE (v := .slice wa m wc) rfl (rf_move rfl) rfl ?_
      refine wl_valE (v := .slice a n c) rfl (rf_move rfl) rfl ?_
      refine wl_valE (v := .int .i64 ((i : Nat) : Int)) rfl (rf_move rfl) rfl ?_
      refine wl_valE (v := .pointer (some ⟨ab a, ao a + i * 2, none⟩)) rfl (rf_indexAddrH Tryz.underlying85 ti41 rfl rfl rfl rfl (by omega) (by omega) (HL0.rdR 0 Le.rfl)) rfl ?_
      refine wl_valE (v := .agg #[.int .i64 k.table, .int .i64 k.row]) rfl (rf_loadAgg (cs := [.int .i64 k.table, .int .i64 k.row]) Tryz.underlying41 rfl ti41 rfl rfl (el_sub' (rd_el (HL0.rdR 0 Le.rfl) hk) 0 2 rfl) rfl) rfl ?_
      refine wl_tr HL0 rfl [0] (putK_tr wa m wc wl k (by omega) hp) rfl .nil (rf_call Tryz.call74 rfl rfl) rfl ?_
      rintro _ w4 _ ⟨pa4, pn4, pc4, pl4, hpl, rfl, rfl⟩ H4
      refine wl_valE (v := .slice pa4 pn4 pc4) rfl (rf_assign rfl) rfl ?_
      refine wl_nil ?_
      refine bln ?_
      refine thn ?_
      refine region_ ?_
      refine wl_valE (v := .int .i64 ((i : Nat) : Int)) rfl (rf_move rfl) rfl ?_
      refine wl_valE (v := .int .i64 ((i + 1 : Nat) : Int)) rfl (rf_add rfl rfl rfl rfl (IntWalk.i64_in _ (by omega))) rfl ?_
      refine wl_valE (v := .int .i64 ((i + 1 : Nat) : Int)) rfl (rf_assign rfl) rfl ?_
      refine wl_nil ?_
      refine thn ?_
      refine ⟨n - (i + 1), _, rfl, (by omega), _, i + 1, pn4, pl4, pa4, pc4, upds_self ⟨rfl, rfl, rfl, trivial⟩, rfl, ⟨by omega, by omega⟩, hpl.1, fun x => by rw [hpl.2.1, hm, List.take_add_one, hk]; simp; exact Or.comm, H4.pick' [0] rfl rfl⟩
    · have c14p := of_decide_eq_false c14
      refine exit_ ?_
      refine thx (thx (blx ?_))
      refine thn ?_
      refine seq_ ?_
      have hml := slH_len HL0 0 rfl
      refine region_ ?_
      refine wl_valE (v := .slice wa m wc) rfl (rf_move rfl) rfl ?_
      refine wl_valE (v := .slice wa m wc) rfl (rf_assign rfl) rfl ?_
      refine wl_valE (v := .int .i64 (0 : Int)) rfl (rf_assign rfl) rfl ?_
      refine wl_nil ?_
      refine thn ?_
      refine ret_ ?_
      refine fin2 (v1 := .slice wa m wc) (v2 := .int .i64 (0 : Int)) Tryz.results60 rfl rfl rfl rfl ?_
      exact ⟨_, ⟨wa, wc, wl, ⟨hp, fun x => by rw [hm, List.take_of_length_le (by omega)]⟩, by rw [← hml.1], by rw [← hml.1]; rfl⟩, HL0.pick' [0] rfl rfl⟩
end Go.Proofs.YtojcddlpkfhodaaGreat.W
