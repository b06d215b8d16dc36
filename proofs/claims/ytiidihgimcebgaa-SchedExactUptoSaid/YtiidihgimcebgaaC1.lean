import Derived.Test.YtiidihgimcebgaaC0
import Derived.KernelRfl
namespace Go.Proofs.Ytiidihgimcebgaa.W
open Go Go.Wk
set_option linter.unusedVariables false
set_option linter.unusedSimpArgs false
theorem within_tr (n k : Int) (hm : k ≤ 9223372036854775807) : Tr Try.prog 15 [.int .i64 n, .int .i64 k] [] [] (fun v m => v = .int .i64 (withinF n k) ∧ m = []) := by
  intro w0 S0 H0
  refine enterR Try.func15 rfl Try.ntmps15 rfl ?_
  intro g0
  refine seq_ ?_
  refine region_ ?_
  refine wl_valE (v := .int .i64 (0 : Int)) rfl (rf_assign rfl) rfl ?_
  refine wl_nil ?_
  refine thn ?_
  refine seq_ ?_
  refine seq_ ?_
  refine region_ ?_
  refine wl_valE (v := .int .i64 k) rfl (rf_move rfl) rfl ?_
  refine wl_valE (v := .bool (decide (k < (1 : Int)))) rfl (rf_lss rfl rfl rfl rfl) rfl ?_
  refine wl_nil ?_
  refine thn ?_
  refine cond_ (t := decide (k < (1 : Int))) rfl rfl (fun c7 => ?_) (fun c7 => ?_)
  · have c7p := of_decide_eq_true c7
    refine seq_ ?_
    refine region_ ?_
    refine wl_valE (v := .int .i64 (0 : Int)) rfl (rf_assign rfl) rfl ?_
    refine wl_nil ?_
    refine thn ?_
    refine ret_ ?_
    refine thr ?_
    refine fin1 (v := .int .i64 (0 : Int)) Try.results15 rfl rfl ?_
    exact ⟨_, ⟨by unfold withinF; rw [if_pos c7p], rfl⟩, H0.pick' [] rfl rfl⟩
  · have c7p := of_decide_eq_false c7
    refine skip_ ?_
    refine thn ?_
    refine seq_ ?_
    refine region_ ?_
    refine wl_valE (v := .int .i64 n) rfl (rf_move rfl) rfl ?_
    refine wl_valE (v := .int .i64 k) rfl (rf_move rfl) rfl ?_
    refine wl_valE (v := .int .i64 (n.tmod k)) rfl (rf_rem rfl rfl rfl rfl (by omega) rfl) rfl ?_
    refine wl_valE (v := .int .i64 (n.tmod k)) rfl (rf_assign rfl) rfl ?_
    refine wl_nil ?_
    refine thn ?_
    refine seq_ ?_
    refine seq_ ?_
    refine region_ ?_
    refine wl_valE (v := .int .i64 (n.tmod k)) rfl (rf_move rfl) rfl ?_
    refine wl_valE (v := .bool (decide (n.tmod k < (0 : Int)))) rfl (rf_lss rfl rfl rfl rfl) rfl ?_
    refine wl_nil ?_
    refine thn ?_
    refine cond_ (t := decide (n.tmod k < (0 : Int))) rfl rfl (fun c12 => ?_) (fun c12 => ?_)
    · have c12p := of_decide_eq_true c12
      have he := within_eq (n := n) c7p
      rw [if_pos c12p] at he
      refine region_ ?_
      refine wl_valE (v := .int .i64 (n.tmod k)) rfl (rf_move rfl) rfl ?_
      refine wl_valE (v := .int .i64 k) rfl (rf_move rfl) rfl ?_
      refine wl_valE (v := .int .i64 ((n.tmod k) + k)) rfl (rf_add rfl rfl rfl rfl (IntWalk.i64_in _ (by have := tmod_in (n := n) c7p; omega))) rfl ?_
      refine wl_valE (v := .int .i64 ((n.tmod k) + k)) rfl (rf_assign rfl) rfl ?_
      refine wl_nil ?_
      refine thn ?_
      refine seq_ ?_
      refine region_ ?_
      refine wl_valE (v := .int .i64 ((n.tmod k) + k)) rfl (rf_move rfl) rfl ?_
      refine wl_valE (v := .int .i64 ((n.tmod k) + k)) rfl (rf_assign rfl) rfl ?_
      refine wl_nil ?_
      refine thn ?_
      refine ret_ ?_
      refine fin1 (v := .int .i64 ((n.tmod k) + k)) Try.results15 rfl rfl ?_
      exact ⟨_, ⟨by rw [← he], rfl⟩, H0.pick' [] rfl rfl⟩
    · have c12p := of_decide_eq_false c12
      have he := within_eq (n := n) c7p
      rw [if_neg c12p] at he
      refine skip_ ?_
      refine thn ?_
      refine seq_ ?_
      refine region_ ?_
      refine wl_valE (v := .int .i64 (n.tmod k)) rfl (rf_move rfl) rfl ?_
      refine wl_valE (v := .int .i64 (n.tmod k)) rfl (rf_assign rfl) rfl ?_
      refine wl_nil ?_
      refine thn ?_
      refine ret_ ?_
      refine fin1 (v := .int .i64 (n.tmod k)) Try.results15 rfl rfl ?_
      exact ⟨_, ⟨by rw [← he], rfl⟩, H0.pick' [] rfl rfl⟩
theorem cloneC_tr (a : Option Addr) (n c : Nat) (l : List (Option Nat)) (hn : n ≤ 4398046511104) : Tr Try.prog 39 [.slice a n c] [rdH encOP 1 a n c l] [] (fun v m => ∃ a' c', v = .slice a' n c' ∧ m = [slH encOP 1 30 a' n c' l]) := by
  intro w0 S0 H0
  refine enterR Try.func39 rfl Try.ntmps39 rfl ?_
  intro g0
  refine seq_ ?_
  refine region_ ?_
  refine wl_valE (v := .slice none 0 0) rfl (rf_assign rfl) rfl ?_
  refine wl_nil ?_
  refine thn ?_
  refine seq_ ?_
  refine seq_ ?_
  refine region_ ?_
  refine wl_valE (v := .slice a n c) rfl (rf_move rfl) rfl ?_
  refine wl_valE (v := .bool a.isNone) rfl (rf_eqlSN Try.underlying26 rfl rfl rfl rfl) rfl ?_
  refine wl_nil ?_
  refine thn ?_
  refine cond_ (t := a.isNone) rfl rfl (fun c4 => ?_) (fun c4 => ?_)
  · have hl := rd_len (H0.rdR 0 Le.rfl)
    have h0 : n = 0 := by
      rcases Nat.eq_zero_or_pos n with h | h
      · exact h
      · have := rd_at (H0.rdR 0 Le.rfl) h; rw [this] at c4; cases c4
    subst h0
    have hl0 := List.eq_nil_of_length_eq_zero hl.1.symm
    subst hl0
    refine seq_ ?_
    refine region_ ?_
    refine wl_valE (v := .slice none 0 0) rfl (rf_assign rfl) rfl ?_
    refine wl_nil ?_
    refine thn ?_
    refine ret_ ?_
    refine thr ?_
    refine fin1 (v := .slice none 0 0) Try.results39 rfl rfl ?_
    exact ⟨_, ⟨none, 0, rfl, rfl⟩, H0.addNil _ _ _⟩
  · refine skip_ ?_
    refine thn ?_
    refine seq_ ?_
    refine region_ ?_
    refine wl_buildSlice0H (enc := encOP) H0 encOP_len Try.underlying26 ti30 ?_
    intro a1 w2 H2
    refine wl_valE (v := .slice a n c) rfl (rf_move rfl) rfl ?_
    refine wl_appendH (enc := encOP) (N := n) H2 0 rfl rfl encOP_len encOP_one Try.underlying26 ti30 rfl rfl rfl rfl rfl (H2.rdR 0 Le.rfl) (Nat.zero_add _) (by omega) (by omega) ?_
    intro a3 c3 w3 hc3 hd3 H3
    refine wl_valE (v := .slice a3 n c3) rfl (rf_assign rfl) rfl ?_
    refine wl_nil ?_
    refine thn ?_
    refine ret_ ?_
    refine fin1 (v := .slice a3 n c3) Try.results39 rfl rfl ?_
    exact ⟨_, ⟨_, _, rfl, rfl⟩, H3.pick' [0] rfl rfl⟩
theorem cloneT_tr (a : Option Addr) (n c : Nat) (l : List (Option Nat)) (hn : n ≤ 4398046511104) : Tr Try.prog 40 [.slice a n c] [rdH encT 1 a n c l] [] (fun v m => ∃ a' c', v = .slice a' n c' ∧ m = [slH encT 1 57 a' n c' l]) := by
  intro w0 S0 H0
  refine enterR Try.func40 rfl Try.ntmps40 rfl ?_
  intro g0
  refine seq_ ?_
  refine region_ ?_
  refine wl_valE (v := .slice none 0 0) rfl (rf_assign rfl) rfl ?_
  refine wl_nil ?_
  refine thn ?_
  refine seq_ ?_
  refine seq_ ?_
  refine region_ ?_
  refine wl_valE (v := .slice a n c) rfl (rf_move rfl) rfl ?_
  refine wl_valE (v := .bool a.isNone) rfl (rf_eqlSN Try.underlying53 rfl rfl rfl rfl) rfl ?_
  refine wl_nil ?_
  refine thn ?_
  refine cond_ (t := a.isNone) rfl rfl (fun c4 => ?_) (fun c4 => ?_)
  · have hl := rd_len (H0.rdR 0 Le.rfl)
    have h0 : n = 0 := by
      rcases Nat.eq_zero_or_pos n with h | h
      · exact h
      · have := rd_at (H0.rdR 0 Le.rfl) h; rw [this] at c4; cases c4
    subst h0
    have hl0 := List.eq_nil_of_length_eq_zero hl.1.symm
    subst hl0
    refine seq_ ?_
    refine region_ ?_
    refine wl_valE (v := .slice none 0 0) rfl (rf_assign rfl) rfl ?_
    refine wl_nil ?_
    refine thn ?_
    refine ret_ ?_
    refine thr ?_
    refine fin1 (v := .slice none 0 0) Try.results40 rfl rfl ?_
    exact ⟨_, ⟨none, 0, rfl, rfl⟩, H0.addNil _ _ _⟩
  · refine skip_ ?_
    refine thn ?_
    refine seq_ ?_
    refine region_ ?_
    refine wl_buildSlice0H (enc := encT) H0 encT_len Try.underlying53 ti57 ?_
    intro a1 w2 H2
    refine wl_valE (v := .slice a n c) rfl (rf_move rfl) rfl ?_
    refine wl_appendH (enc := encT) (N := n) H2 0 rfl rfl encT_len encT_one Try.underlying53 ti57 rfl rfl rfl rfl rfl (H2.rdR 0 Le.rfl) (Nat.zero_add _) (by omega) (by omega) ?_
    intro a3 c3 w3 hc3 hd3 H3
    refine wl_valE (v := .slice a3 n c3) rfl (rf_assign rfl) rfl ?_
    refine wl_nil ?_
    refine thn ?_
    refine ret_ ?_
    refine fin1 (v := .slice a3 n c3) Try.results40 rfl rfl ?_
    exact ⟨_, ⟨_, _, rfl, rfl⟩, H3.pick' [0] rfl rfl⟩
theorem newChore_tr (s : Int) (a : Option Addr) (n c : Nat) (l : List (Option Nat)) (hn : n ≤ 4398046511104) : Tr Try.prog 28 [.int .i64 s, .slice a n c] [rdH encOP 1 a n c l] [] (fun v m => ∃ p a' c', v = .pointer (some ⟨p, 0, none⟩) ∧ m = [slH encOP 1 30 a' n c' l, blkH p #[.int .i64 (clip s), .slice a' n c'] 55]) := by
  intro w0 S0 H0
  refine enterR Try.func28 rfl Try.ntmps28 rfl ?_
  intro g0
  refine seq_ ?_
  refine region_ ?_
  refine wl_valE (v := .pointer none) rfl (rf_assign rfl) rfl ?_
  refine wl_nil ?_
  refine thn ?_
  refine seq_ ?_
  refine region_ ?_
  refine wl_valE (v := .int .i64 s) rfl (rf_move rfl) rfl ?_
  refine wl_valE (v := .int .i64 (max s 0)) rfl (rf_max rfl rfl rfl rfl) rfl ?_
  refine wl_valE (v := .int .i64 (clip s)) rfl (rf_min rfl rfl rfl rfl) rfl ?_
  refine wl_valE (v := .slice a n c) rfl (rf_move rfl) rfl ?_
  refine wl_tr H0 rfl [] (cloneC_tr a n c l (by omega)) rfl (.ro 0 Le.rfl .nil) (rf_call Try.call39 rfl rfl) rfl ?_
  rintro _ w1 _ ⟨ac1, cc1, rfl, rfl⟩ H1
  refine wl_valE (v := .agg #[.int .i64 (clip s), .slice ac1 n cc1]) rfl (rf_build (offs := [(0, [.int .i64 (clip s)]), (1, [.slice ac1 n cc1])]) (places := #[(0, 1), (1, 1)]) Try.underlying55 ti55 (fun w => by kernel_rfl) (.cons rfl rfl rfl rfl rfl rfl (.cons rfl rfl rfl rfl rfl rfl .nil))) rfl ?_
  refine wl_boxH H1 (v := .agg #[.int .i64 (clip s), .slice ac1 n cc1]) rfl rfl ?_
  intro b2 w3 H3
  refine wl_valE (v := .pointer (some ⟨b2, 0, none⟩)) rfl (rf_assign rfl) rfl ?_
  refine wl_nil ?_
  refine thn ?_
  refine ret_ ?_
  refine fin1 (v := .pointer (some ⟨b2, 0, none⟩)) Try.results28 rfl rfl ?_
  exact ⟨_, ⟨_, _, _, rfl, rfl⟩, H3.pick' [0, 1] rfl rfl⟩
theorem newLine_tr (a : Option Addr) (n c : Nat) (l : List (Option Nat)) (hn : n ≤ 4398046511104) : Tr Try.prog 30 [.slice a n c] [rdH encT 1 a n c l] [] (fun v m => ∃ p a' c', v = .pointer (some ⟨p, 0, none⟩) ∧ m = [slH encT 1 57 a' n c' l, blkH p #[.slice a' n c', .int .i64 0] 59]) := by
  intro w0 S0 H0
  refine enterR Try.func30 rfl Try.ntmps30 rfl ?_
  intro g0
  refine seq_ ?_
  refine region_ ?_
  refine wl_valE (v := .pointer none) rfl (rf_assign rfl) rfl ?_
  refine wl_nil ?_
  refine thn ?_
  refine seq_ ?_
  refine region_ ?_
  refine wl_valE (v := .slice a n c) rfl (rf_move rfl) rfl ?_
  refine wl_tr H0 rfl [] (cloneT_tr a n c l (by omega)) rfl (.ro 0 Le.rfl .nil) (rf_call Try.call40 rfl rfl) rfl ?_
  rintro _ w1 _ ⟨ac1, cc1, rfl, rfl⟩ H1
  refine wl_valE (v := .agg #[.slice ac1 n cc1, .int .i64 (0 : Int)]) rfl (rf_build (offs := [(0, [.slice ac1 n cc1])]) (places := #[(0, 1), (1, 1)]) Try.underlying59 ti59 (fun w => by kernel_rfl) (.cons rfl rfl rfl rfl rfl rfl .nil)) rfl ?_
  refine wl_boxH H1 (v := .agg #[.slice ac1 n cc1, .int .i64 (0 : Int)]) rfl rfl ?_
  intro b2 w3 H3
  refine wl_valE (v := .pointer (some ⟨b2, 0, none⟩)) rfl (rf_assign rfl) rfl ?_
  refine wl_nil ?_
  refine thn ?_
  refine ret_ ?_
  refine fin1 (v := .pointer (some ⟨b2, 0, none⟩)) Try.results30 rfl rfl ?_
  exact ⟨_, ⟨_, _, _, rfl, rfl⟩, H3.pick' [0, 1] rfl rfl⟩
theorem parts_tr (a : Option Addr) (n c : Nat) (l : List MakeR) (a2 : Option Addr) (n2 c2 : Nat) (l2 : List OpR) (hb : ∀ x ∈ l, x.behind.n ≤ 9223372036854775807) (hb2 : ∀ x ∈ l2, x.picks.n ≤ 9223372036854775807) (hn : n ≤ 9223372036854775806) (hn2 : n2 ≤ 9223372036854775806) : Tr Try.prog 10 [.slice a n c, .slice a2 n2 c2] [rdH encMake 2 a n c l, rdH encOp 3 a2 n2 c2 l2] [] (fun v m => v = .int .i64 (pL (pL 100000 (l.map (·.behind.n))) (l2.map (·.picks.n))) ∧ m = []) := by
  intro w0 S0 H0
  have hl1 := (rd_len (H0.rdR 0 Le.rfl)).1
  have hl2 := (rd_len (H0.rdR 1 Le.rfl)).1
  refine enterR Try.func10 rfl Try.ntmps10 rfl ?_
  intro g0
  refine seq_ ?_
  refine region_ ?_
  refine wl_valE (v := .int .i64 (0 : Int)) rfl (rf_assign rfl) rfl ?_
  refine wl_nil ?_
  refine thn ?_
  refine seq_ ?_
  refine region_ ?_
  refine wl_valE (v := .int .i64 (100000 : Int)) rfl (rf_assign rfl) rfl ?_
  refine wl_nil ?_
  refine thn ?_
  refine seq_ ?_
  refine seq_ ?_
  refine region_ ?_
  refine wl_valE (v := .int .i64 (0 : Int)) rfl (rf_assign rfl) rfl ?_
  refine wl_nil ?_
  refine thn ?_
  refine cut_ (fun qf_ qw_ => ∃ (g : Nat → Value) (x : Int), qf_ = upds g [(1, .slice a2 n2 c2), (5, .int .i64 x)] ∧ (x = pL 100000 (l.map (·.behind.n)) ∧ x ≤ 100000 ∧ -9223372036854775808 ≤ x) ∧ St w0 S0 [rdH encMake 2 a n c l, rdH encOp 3 a2 n2 c2 l2] qw_ []) ?_ ?_
  · refine block_ ?_
    refine loop_ (fun qk_ qf_ qw_ => ∃ (g : Nat → Value) (i : Nat) (x : Int), qf_ = upds g [(0, .slice a n c), (1, .slice a2 n2 c2), (5, .int .i64 x), (6, .int .i64 ((i : Nat) : Int))] ∧ qk_ = n - i ∧ (i ≤ n ∧ x ≤ 100000 ∧ -9223372036854775808 ≤ x) ∧ (pL x ((l.drop i).map (·.behind.n)) = pL 100000 (l.map (·.behind.n))) ∧ St w0 S0 [rdH encMake 2 a n c l, rdH encOp 3 a2 n2 c2 l2] qw_ []) (n - 0) ?_ ?_
    · refine ⟨_, 0, 100000, upds_self ⟨rfl, rfl, rfl, rfl, trivial⟩, rfl, ⟨by omega, by omega, by omega⟩, rfl, H0.pick' [] rfl rfl⟩
    · rintro lk0 _ wl0 ⟨gl0, i, x, rfl, hlk0, hr0, hr1, HL0⟩
      refine seq_ ?_
      refine seq_ ?_
      refine region_ ?_
      refine wl_valE (v := .int .i64 ((i : Nat) : Int)) rfl (rf_move rfl) rfl ?_
      refine wl_valE (v := .slice a n c) rfl (rf_move rfl) rfl ?_
      refine wl_valE (v := .int .i64 ((n : Nat) : Int)) rfl (rf_len_slice Try.underlying22 rfl rfl) rfl ?_
      refine wl_valE (v := .bool (decide (((i : Nat) : Int) < ((n : Nat) : Int)))) rfl (rf_lss rfl rfl rfl rfl) rfl ?_
      refine wl_valE (v := .bool (decide (((i : Nat) : Int) < ((n : Nat) : Int)))) rfl (rf_move rfl) rfl ?_
      refine wl_split (decide (((i : Nat) : Int) < ((n : Nat) : Int))) (fun u3_4 => ?_) (fun u3_4 => ?_)
      · have u3_4p := of_decide_eq_true u3_4
        refine wl_guardT rfl rfl rfl u3_4 ?_
        refine wl_valE (v := .int .i64 x) rfl (rf_move rfl) rfl ?_
        refine wl_guardT rfl rfl rfl u3_4 ?_
        refine wl_valE (v := .bool (decide ((0 : Int) ≤ x))) rfl (rf_geq rfl rfl rfl rfl) rfl ?_
        refine wl_valE (v := .bool (decide ((0 : Int) ≤ x))) rfl (rf_pickT rfl rfl rfl u3_4) rfl ?_
        refine wl_nil ?_
        refine thn ?_
        refine cond_ (t := decide ((0 : Int) ≤ x)) rfl rfl (fun c15 => ?_) (fun c15 => ?_)
        · have c15p := of_decide_eq_true c15
          refine skip_ ?_
          refine thn ?_
          refine seq_ ?_
          refine block_ ?_
          refine region_ ?_
          refine wl_valE (v := .int .i64 x) rfl (rf_move rfl) rfl ?_
          refine wl_valE (v := .int .i64 (x - (1 : Int))) rfl (rf_sub rfl rfl rfl rfl (IntWalk.i64_in _ (by omega))) rfl ?_
          refine wl_valE (v := .slice a n c) rfl (rf_move rfl) rfl ?_
          refine wl_valE (v := .int .i64 ((i : Nat) : Int)) rfl (rf_move rfl) rfl ?_
          refine wl_valE (v := .pointer (some ⟨ab a, ao a + i * 2, none⟩)) rfl (rf_indexAddrH Try.underlying22 ti35 rfl rfl rfl rfl (by omega) (by omega) (HL0.rdR 0 Le.rfl)) rfl ?_
          refine wl_valE (v := .pointer (some ⟨ab a, ao a + i * 2 + 1, none⟩)) rfl (rf_fieldAddr Try.underlying35 rfl ti23 rfl rfl) rfl ?_
          have hn2 := rd_len (HL0.rdR 0 Le.rfl)
          obtain ⟨x1, hx1⟩ : ∃ q_, l[i]? = some q_ := ⟨_, List.getElem?_eq_getElem (by omega)⟩
          refine wl_valE (v := .slice x1.behind.a x1.behind.n x1.behind.c) rfl (rf_load Try.underlying23 rfl rfl rfl (rd_el (HL0.rdR 0 Le.rfl) hx1 1 _ rfl)) rfl ?_
          have hbx := hb _ (List.mem_of_getElem? hx1)
          refine wl_valE (v := .int .i64 ((x1.behind.n : Nat) : Int)) rfl (rf_len_slice Try.underlying23 rfl rfl) rfl ?_
          refine wl_valE (v := .int .i64 ((x - (1 : Int)) - ((x1.behind.n : Nat) : Int))) rfl (rf_sub rfl rfl rfl rfl (IntWalk.i64_in _ (by omega))) rfl ?_
          refine wl_valE (v := .int .i64 ((x - (1 : Int)) - ((x1.behind.n : Nat) : Int))) rfl (rf_assign rfl) rfl ?_
          refine wl_nil ?_
          refine bln ?_
          refine thn ?_
          refine region_ ?_
          refine wl_valE (v := .int .i64 ((i : Nat) : Int)) rfl (rf_move rfl) rfl ?_
          refine wl_valE (v := .int .i64 ((i + 1 : Nat) : Int)) rfl (rf_add rfl rfl rfl rfl (IntWalk.i64_in _ (by omega))) rfl ?_
          refine wl_valE (v := .int .i64 ((i + 1 : Nat) : Int)) rfl (rf_assign rfl) rfl ?_
          refine wl_nil ?_
          refine thn ?_
          refine ⟨n - (i + 1), _, rfl, (by omega), _, i + 1, (x - (1 : Int)) - ((x1.behind.n : Nat) : Int), upds_self ⟨rfl, rfl, rfl, rfl, trivial⟩, rfl, ⟨by omega, by omega, by omega⟩, by rw [← hr1, drop_at hx1, List.map_cons]; simp only [pL]; rw [if_neg (by omega)], HL0.pick' [] rfl rfl⟩
        · have c15p := of_decide_eq_false c15
          refine exit_ ?_
          refine thx (thx (blx ?_))
          refine cxn ⟨_, x, upds_self ⟨rfl, rfl, trivial⟩, ⟨by rw [← hr1, pL_neg (by omega)], by omega, by omega⟩, HL0.pick' [] rfl rfl⟩
      · have u3_4p := of_decide_eq_false u3_4
        refine wl_guardF rfl rfl rfl u3_4 ?_
        refine wl_guardF rfl rfl rfl u3_4 ?_
        refine wl_valE (v := .bool false) rfl (rf_pickF rfl rfl rfl u3_4) rfl ?_
        refine wl_nil ?_
        refine thn ?_
        refine condF rfl rfl ?_
        refine exit_ ?_
        refine thx (thx (blx ?_))
        refine cxn ⟨_, x, upds_self ⟨rfl, rfl, trivial⟩, ⟨by rw [← hr1, drop_all (by omega)]; rfl, by omega, by omega⟩, HL0.pick' [] rfl rfl⟩
  · rintro _ wcutb0 ⟨glcutb0, x, rfl, hx0, Hcutb0⟩
    refine thn ?_
    refine seq_ ?_
    refine seq_ ?_
    refine region_ ?_
    refine wl_valE (v := .int .i64 (0 : Int)) rfl (rf_assign rfl) rfl ?_
    refine wl_nil ?_
    refine thn ?_
    refine cut_ (fun qf_ qw_ => ∃ (g : Nat → Value) (x : Int), qf_ = upds g [(5, .int .i64 x)] ∧ (x = pL (pL 100000 (l.map (·.behind.n))) (l2.map (·.picks.n))) ∧ St w0 S0 [rdH encMake 2 a n c l, rdH encOp 3 a2 n2 c2 l2] qw_ []) ?_ ?_
    · refine block_ ?_
      refine loop_ (fun qk_ qf_ qw_ => ∃ (g : Nat → Value) (i : Nat) (x : Int), qf_ = upds g [(1, .slice a2 n2 c2), (5, .int .i64 x), (7, .int .i64 ((i : Nat) : Int))] ∧ qk_ = n2 - i ∧ (i ≤ n2 ∧ x ≤ 100000 ∧ -9223372036854775808 ≤ x) ∧ (pL x ((l2.drop i).map (·.picks.n)) = pL (pL 100000 (l.map (·.behind.n))) (l2.map (·.picks.n))) ∧ St w0 S0 [rdH encMake 2 a n c l, rdH encOp 3 a2 n2 c2 l2] qw_ []) (n2 - 0) ?_ ?_
      · refine ⟨_, 0, x, upds_self ⟨rfl, rfl, rfl, trivial⟩, rfl, ⟨by omega, by omega, by omega⟩, by rw [hx0.1]; rfl, Hcutb0.pick' [] rfl rfl⟩
      · rintro lk1 _ wl1 ⟨gl1, i, x, rfl, hlk1, hr0, hr1, HL1⟩
        refine seq_ ?_
        refine seq_ ?_
        refine region_ ?_
        refine wl_valE (v := .int .i64 ((i : Nat) : Int)) rfl (rf_move rfl) rfl ?_
        refine wl_valE (v := .slice a2 n2 c2) rfl (rf_move rfl) rfl ?_
        refine wl_valE (v := .int .i64 ((n2 : Nat) : Int)) rfl (rf_len_slice Try.underlying40 rfl rfl) rfl ?_
        refine wl_valE (v := .bool (decide (((i : Nat) : Int) < ((n2 : Nat) : Int)))) rfl (rf_lss rfl rfl rfl rfl) rfl ?_
        refine wl_valE (v := .bool (decide (((i : Nat) : Int) < ((n2 : Nat) : Int)))) rfl (rf_move rfl) rfl ?_
        refine wl_split (decide (((i : Nat) : Int) < ((n2 : Nat) : Int))) (fun u7_4 => ?_) (fun u7_4 => ?_)
        · have u7_4p := of_decide_eq_true u7_4
          refine wl_guardT rfl rfl rfl u7_4 ?_
          refine wl_valE (v := .int .i64 x) rfl (rf_move rfl) rfl ?_
          refine wl_guardT rfl rfl rfl u7_4 ?_
          refine wl_valE (v := .bool (decide ((0 : Int) ≤ x))) rfl (rf_geq rfl rfl rfl rfl) rfl ?_
          refine wl_valE (v := .bool (decide ((0 : Int) ≤ x))) rfl (rf_pickT rfl rfl rfl u7_4) rfl ?_
          refine wl_nil ?_
          refine thn ?_
          refine cond_ (t := decide ((0 : Int) ≤ x)) rfl rfl (fun c34 => ?_) (fun c34 => ?_)
          · have c34p := of_decide_eq_true c34
            refine skip_ ?_
            refine thn ?_
            refine seq_ ?_
            refine block_ ?_
            refine region_ ?_
            refine wl_valE (v := .int .i64 x) rfl (rf_move rfl) rfl ?_
            refine wl_valE (v := .int .i64 (x - (1 : Int))) rfl (rf_sub rfl rfl rfl rfl (IntWalk.i64_in _ (by omega))) rfl ?_
            refine wl_valE (v := .slice a2 n2 c2) rfl (rf_move rfl) rfl ?_
            refine wl_valE (v := .int .i64 ((i : Nat) : Int)) rfl (rf_move rfl) rfl ?_
            refine wl_valE (v := .pointer (some ⟨ab a2, ao a2 + i * 3, none⟩)) rfl (rf_indexAddrH Try.underlying40 ti47 rfl rfl rfl rfl (by omega) (by omega) (HL1.rdR 1 Le.rfl)) rfl ?_
            refine wl_valE (v := .pointer (some ⟨ab a2, ao a2 + i * 3 + 2, none⟩)) rfl (rf_fieldAddr Try.underlying47 rfl ti23 rfl rfl) rfl ?_
            have hn4 := rd_len (HL1.rdR 1 Le.rfl)
            obtain ⟨x3, hx3⟩ : ∃ q_, l2[i]? = some q_ := ⟨_, List.getElem?_eq_getElem (by omega)⟩
            refine wl_valE (v := .slice x3.picks.a x3.picks.n x3.picks.c) rfl (rf_load Try.underlying23 rfl rfl rfl (rd_el (HL1.rdR 1 Le.rfl) hx3 2 _ rfl)) rfl ?_
            have hbx := hb2 _ (List.mem_of_getElem? hx3)
            refine wl_valE (v := .int .i64 ((x3.picks.n : Nat) : Int)) rfl (rf_len_slice Try.underlying23 rfl rfl) rfl ?_
            refine wl_valE (v := .int .i64 ((x - (1 : Int)) - ((x3.picks.n : Nat) : Int))) rfl (rf_sub rfl rfl rfl rfl (IntWalk.i64_in _ (by omega))) rfl ?_
            refine wl_valE (v := .int .i64 ((x - (1 : Int)) - ((x3.picks.n : Nat) : Int))) rfl (rf_assign rfl) rfl ?_
            refine wl_nil ?_
            refine bln ?_
            refine thn ?_
            refine region_ ?_
            refine wl_valE (v := .int .i64 ((i : Nat) : Int)) rfl (rf_move rfl) rfl ?_
            refine wl_valE (v := .int .i64 ((i + 1 : Nat) : Int)) rfl (rf_add rfl rfl rfl rfl (IntWalk.i64_in _ (by omega))) rfl ?_
            refine wl_valE (v := .int .i64 ((i + 1 : Nat) : Int)) rfl (rf_assign rfl) rfl ?_
            refine wl_nil ?_
            refine thn ?_
            refine ⟨n2 - (i + 1), _, rfl, (by omega), _, i + 1, (x - (1 : Int)) - ((x3.picks.n : Nat) : Int), upds_self ⟨rfl, rfl, rfl, trivial⟩, rfl, ⟨by omega, by omega, by omega⟩, by rw [← hr1, drop_at hx3, List.map_cons]; simp only [pL]; rw [if_neg (by omega)], HL1.pick' [] rfl rfl⟩
          · have c34p := of_decide_eq_false c34
            refine exit_ ?_
            refine thx (thx (blx ?_))
            refine cxn ⟨_, x, upds_self ⟨rfl, trivial⟩, by rw [← hr1, pL_neg (by omega)], HL1.pick' [] rfl rfl⟩
        · have u7_4p := of_decide_eq_false u7_4
          refine wl_guardF rfl rfl rfl u7_4 ?_
          refine wl_guardF rfl rfl rfl u7_4 ?_
          refine wl_valE (v := .bool false) rfl (rf_pickF rfl rfl rfl u7_4) rfl ?_
          refine wl_nil ?_
          refine thn ?_
          refine condF rfl rfl ?_
          refine exit_ ?_
          refine thx (thx (blx ?_))
          refine cxn ⟨_, x, upds_self ⟨rfl, trivial⟩, by rw [← hr1, drop_all (by omega)]; rfl, HL1.pick' [] rfl rfl⟩
    · rintro _ wcutb2 ⟨glcutb2, x, rfl, hx1, Hcutb2⟩
      refine thn ?_
      refine seq_ ?_
      refine region_ ?_
      refine wl_valE (v := .int .i64 x) rfl (rf_move rfl) rfl ?_
      refine wl_valE (v := .int .i64 x) rfl (rf_assign rfl) rfl ?_
      refine wl_nil ?_
      refine thn ?_
      refine ret_ ?_
      refine fin1 (v := .int .i64 x) Try.results10 rfl rfl ?_
      exact ⟨_, ⟨by rw [← hx1], rfl⟩, Hcutb2.pick' [] rfl rfl⟩
end Go.Proofs.Ytiidihgimcebgaa.W
