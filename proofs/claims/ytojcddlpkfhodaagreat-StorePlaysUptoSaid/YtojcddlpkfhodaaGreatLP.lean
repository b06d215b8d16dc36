import Derived.Test.YtojcddlpkfhodaaGreatQ8
import Derived.KernelRfl
namespace Go.Proofs.YtojcddlpkfhodaaGreat.W
open Go Go.Wk
set_option linter.unusedVariables false
set_option linter.unusedSimpArgs false

def GoodS (m c : Int) : Prop := (1 ≤ m ∧ m ≤ 256) ∧ (1 ≤ c ∧ c ≤ 65536)
def nerr (m : Int) : Int := if 1 ≤ m ∧ m ≤ 256 then 91 else 21
theorem newSbad_tr (m c : Int) (h : ¬ GoodS m c) : Tr Tryz.prog 4 [.int .i64 m, .int .i64 c] [] [] fun v q => v = .tuple #[.pointer none, .int .i64 (nerr m)] ∧ q = [] := Tr.of_plain (post := fun v => v = .tuple #[.pointer none, .int .i64 (nerr m)]) fun w => by
  unfold nerr
  by_cases hm : 1 ≤ m ∧ m ≤ 256
  · rw [if_pos hm]; exact newSbad2_ret m c w hm (fun hc => h ⟨hm, hc⟩)
  · rw [if_neg hm]; exact newSbad1_ret m c w hm
theorem case4 {i : Nat} (h : i < 2) (P Q : Prop) : (i = 0 ∧ P) ∨ (i = 0 ∧ ¬ P) ∨ (i = 1 ∧ Q) ∨ (i = 1 ∧ ¬ Q) := by
  rcases (by omega : i = 0 ∨ i = 1) with h | h
  · by_cases hp : P
    · exact .inl ⟨h, hp⟩
    · exact .inr (.inl ⟨h, hp⟩)
  · by_cases hp : Q
    · exact .inr (.inr (.inl ⟨h, hp⟩))
    · exact .inr (.inr (.inr ⟨h, hp⟩))
structure ShapeR where
  parts : Int
  cap : Int
def encShape (o : ShapeR) : List Value := [.int .i64 o.parts, .int .i64 o.cap]
structure PrR where
  s : Nat
  rb : Nat
  st : StS
  x : RS
def svP (o : Option PrR) : Value := .pointer (o.map fun p => ⟨p.s, 0, none⟩)
def rvP (o : Option PrR) : Value := .pointer (o.map fun p => ⟨p.rb, 0, none⟩)
def prH : Option PrR → HP
  | none => emp
  | some p => allH [stoH p.s p.st, rfH p.rb p.x]
def RelP (o : Option PrR) (n : Int) : Prop := ∀ p, o = some p → Rel p.st p.x ∧ p.st.last ≤ n
theorem RelP.mono {o : Option PrR} {n m : Int} (h : RelP o n) (hm : n ≤ m) : RelP o m := fun p hp => ⟨(h p hp).1, Int.le_trans (h p hp).2 hm⟩
theorem RelP.none (n : Int) : RelP none n := fun p hp => (by cases hp)
theorem RelP.mk {s rb : Nat} {st : StS} {x : RS} {n : Int} (h : Rel st x) (hn : st.last ≤ n) : RelP (some ⟨s, rb, st, x⟩) n := fun p hp => (by cases hp; exact ⟨h, hn⟩)
theorem addPr {w0 w : World} {S0 : Nat → Prop} {R L : List HP} (H : St w0 S0 R w L) : St w0 S0 R w (L ++ [prH none]) := H.new (B := prH none) (S := fun _ => False) (Kp.refl w) (fun _ h => h) (fun _ h => h.elim)
theorem rfBlk {w0 w : World} {S0 : Nat → Prop} {R L : List HP} {rb : Nat} {x : RS} (H : St w0 S0 R w L) (k : Nat) (hA : getH L k = rfH rb x) (hlt : hasH L k = true) : ∃ a c, Blk w rb (.cells #[.int .i64 x.parts, .int .i64 x.cap, .slice a x.all.length c, .int .i64 x.last] 50 (0, 0)) := by
  obtain ⟨y, _, H2⟩ := rfH.open_ H k hA hlt
  exact ⟨y.1, y.2, H2.blk k (by
    have : putsH L [k] [blkH rb #[.int .i64 x.parts, .int .i64 x.cap, .slice y.1 x.all.length y.2, .int .i64 x.last] 50, slH encEnt 8 110 y.1 x.all.length y.2 x.all] = setH L k (blkH rb #[.int .i64 x.parts, .int .i64 x.cap, .slice y.1 x.all.length y.2, .int .i64 x.last] 50) ++ [slH encEnt 8 110 y.1 x.all.length y.2 x.all] := rfl
    rw [this, getH_app, setH_len, if_pos (hasH_lt hlt), getH_set_same (hasH_lt hlt)])⟩
theorem bk0 : BkOk ⟨⟨none, 0, 0⟩, [], [], ⟨none, 0, 0⟩, [], [], ⟨none, 0, 0⟩, [], [], ⟨none, 0, 0⟩, []⟩ 0 := ⟨rfl, rfl, rfl, rfl, fun i l h => (by simp at h), fun i l h => (by simp at h), Nat.le_refl _, Nat.le_refl _, Nat.le_refl _⟩
theorem new9bad1_tr (m c : Int) (hm : ¬ (1 ≤ m ∧ m ≤ 256)) : Tr Tryz.prog 5 [.int .i64 m, .int .i64 c] [] [] (fun v q => v = .tuple #[.pointer none, .int .i64 21] ∧ q = []) := by
  intro w0 S0 H0
  refine enterR Tryz.func5 rfl Tryz.ntmps5 rfl ?_
  intro g0
  refine seq_ ?_
  refine region_ ?_
  refine wl_valE (v := .pointer none) rfl (rf_assign rfl) rfl ?_
  refine wl_valE (v := .int .i64 (0 : Int)) rfl (rf_assign rfl) rfl ?_
  refine wl_nil ?_
  refine thn ?_
  refine seq_ ?_
  refine seq_ ?_
  refine region_ ?_
  refine wl_valE (v := .int .i64 m) rfl (rf_move rfl) rfl ?_
  refine wl_valE (v := .bool (decide (m < (1 : Int)))) rfl (rf_lss rfl rfl rfl rfl) rfl ?_
  refine wl_valE (v := .bool (decide (m < (1 : Int)))) rfl (rf_move rfl) rfl ?_
  refine wl_split (decide (m < (1 : Int))) (fun u1_2 => ?_) (fun u1_2 => ?_)
  · have u1_2p := of_decide_eq_true u1_2
    refine wl_guardF rfl rfl rfl u1_2 ?_
    refine wl_guardF rfl rfl rfl u1_2 ?_
    refine wl_valE (v := .bool true) rfl (rf_pickT rfl rfl rfl u1_2) rfl ?_
    refine wl_nil ?_
    refine thn ?_
    refine condT rfl rfl ?_
    refine seq_ ?_
    refine region_ ?_
    refine wl_valE (v := .pointer none) rfl (rf_assign rfl) rfl ?_
    refine wl_valE (v := .int .i64 (21 : Int)) rfl (rf_assign rfl) rfl ?_
    refine wl_nil ?_
    refine thn ?_
    refine ret_ ?_
    refine thr ?_
    refine fin2 (v1 := .pointer none) (v2 := .int .i64 (21 : Int)) Tryz.results5 rfl rfl rfl rfl ?_
    exact ⟨_, ⟨rfl, rfl⟩, H0.pick' [] rfl rfl⟩
  · have u1_2p := of_decide_eq_false u1_2
    refine wl_guardT rfl rfl rfl u1_2 ?_
    refine wl_valE (v := .int .i64 m) rfl (rf_move rfl) rfl ?_
    refine wl_guardT rfl rfl rfl u1_2 ?_
    refine wl_valE (v := .bool (decide ((256 : Int) < m))) rfl (rf_gtr rfl rfl rfl rfl) rfl ?_
    refine wl_valE (v := .bool (decide ((256 : Int) < m))) rfl (rf_pickF rfl rfl rfl u1_2) rfl ?_
    refine wl_nil ?_
    refine thn ?_
    refine cond_ (t := decide ((256 : Int) < m)) rfl rfl (fun c11 => ?_) (fun c11 => ?_)
    · have c11p := of_decide_eq_true c11
      refine seq_ ?_
      refine region_ ?_
      refine wl_valE (v := .pointer none) rfl (rf_assign rfl) rfl ?_
      refine wl_valE (v := .int .i64 (21 : Int)) rfl (rf_assign rfl) rfl ?_
      refine wl_nil ?_
      refine thn ?_
      refine ret_ ?_
      refine thr ?_
      refine fin2 (v1 := .pointer none) (v2 := .int .i64 (21 : Int)) Tryz.results5 rfl rfl rfl rfl ?_
      exact ⟨_, ⟨rfl, rfl⟩, H0.pick' [] rfl rfl⟩
    · have c11p := of_decide_eq_false c11
      omega
theorem new9bad2_tr (m c : Int) (hm : 1 ≤ m ∧ m ≤ 256) (hc : ¬ (1 ≤ c ∧ c ≤ 65536)) : Tr Tryz.prog 5 [.int .i64 m, .int .i64 c] [] [] (fun v q => v = .tuple #[.pointer none, .int .i64 91] ∧ q = []) := by
  intro w0 S0 H0
  refine enterR Tryz.func5 rfl Tryz.ntmps5 rfl ?_
  intro g0
  refine seq_ ?_
  refine region_ ?_
  refine wl_valE (v := .pointer none) rfl (rf_assign rfl) rfl ?_
  refine wl_valE (v := .int .i64 (0 : Int)) rfl (rf_assign rfl) rfl ?_
  refine wl_nil ?_
  refine thn ?_
  refine seq_ ?_
  refine seq_ ?_
  refine region_ ?_
  refine wl_valE (v := .int .i64 m) rfl (rf_move rfl) rfl ?_
  refine wl_valE (v := .bool (decide (m < (1 : Int)))) rfl (rf_lss rfl rfl rfl rfl) rfl ?_
  refine wl_valE (v := .bool (decide (m < (1 : Int)))) rfl (rf_move rfl) rfl ?_
  refine wl_guardT rfl rfl rfl (decide_eq_false (by omega)) ?_
  refine wl_valE (v := .int .i64 m) rfl (rf_move rfl) rfl ?_
  refine wl_guardT rfl rfl rfl (decide_eq_false (by omega)) ?_
  refine wl_valE (v := .bool (decide ((256 : Int) < m))) rfl (rf_gtr rfl rfl rfl rfl) rfl ?_
  refine wl_valE (v := .bool (decide ((256 : Int) < m))) rfl (rf_pickF rfl rfl rfl (decide_eq_false (by omega))) rfl ?_
  refine wl_nil ?_
  refine thn ?_
  refine condF' rfl rfl (t := decide ((256 : Int) < m)) ((decide_eq_false (by omega))) ?_
  refine skip_ ?_
  refine thn ?_
  refine seq_ ?_
  refine seq_ ?_
  refine region_ ?_
  refine wl_valE (v := .int .i64 c) rfl (rf_move rfl) rfl ?_
  refine wl_valE (v := .bool (decide (c < (1 : Int)))) rfl (rf_lss rfl rfl rfl rfl) rfl ?_
  refine wl_valE (v := .bool (decide (c < (1 : Int)))) rfl (rf_move rfl) rfl ?_
  refine wl_split (decide (c < (1 : Int))) (fun u3_2 => ?_) (fun u3_2 => ?_)
  · have u3_2p := of_decide_eq_true u3_2
    refine wl_guardF rfl rfl rfl u3_2 ?_
    refine wl_guardF rfl rfl rfl u3_2 ?_
    refine wl_valE (v := .bool true) rfl (rf_pickT rfl rfl rfl u3_2) rfl ?_
    refine wl_nil ?_
    refine thn ?_
    refine condT rfl rfl ?_
    refine seq_ ?_
    refine region_ ?_
    refine wl_valE (v := .pointer none) rfl (rf_assign rfl) rfl ?_
    refine wl_valE (v := .int .i64 (91 : Int)) rfl (rf_assign rfl) rfl ?_
    refine wl_nil ?_
    refine thn ?_
    refine ret_ ?_
    refine thr ?_
    refine fin2 (v1 := .pointer none) (v2 := .int .i64 (91 : Int)) Tryz.results5 rfl rfl rfl rfl ?_
    exact ⟨_, ⟨rfl, rfl⟩, H0.pick' [] rfl rfl⟩
  · have u3_2p := of_decide_eq_false u3_2
    refine wl_guardT rfl rfl rfl u3_2 ?_
    refine wl_valE (v := .int .i64 c) rfl (rf_move rfl) rfl ?_
    refine wl_guardT rfl rfl rfl u3_2 ?_
    refine wl_valE (v := .bool (decide ((65536 : Int) < c))) rfl (rf_gtr rfl rfl rfl rfl) rfl ?_
    refine wl_valE (v := .bool (decide ((65536 : Int) < c))) rfl (rf_pickF rfl rfl rfl u3_2) rfl ?_
    refine wl_nil ?_
    refine thn ?_
    refine cond_ (t := decide ((65536 : Int) < c)) rfl rfl (fun c17 => ?_) (fun c17 => ?_)
    · have c17p := of_decide_eq_true c17
      refine seq_ ?_
      refine region_ ?_
      refine wl_valE (v := .pointer none) rfl (rf_assign rfl) rfl ?_
      refine wl_valE (v := .int .i64 (91 : Int)) rfl (rf_assign rfl) rfl ?_
      refine wl_nil ?_
      refine thn ?_
      refine ret_ ?_
      refine thr ?_
      refine fin2 (v1 := .pointer none) (v2 := .int .i64 (91 : Int)) Tryz.results5 rfl rfl rfl rfl ?_
      exact ⟨_, ⟨rfl, rfl⟩, H0.pick' [] rfl rfl⟩
    · have c17p := of_decide_eq_false c17
      omega
theorem new9bad_tr (m c : Int) (h : ¬ GoodS m c) : Tr Tryz.prog 5 [.int .i64 m, .int .i64 c] [] [] fun v q => v = .tuple #[.pointer none, .int .i64 (nerr m)] ∧ q = [] := by
  unfold nerr
  by_cases hm : 1 ≤ m ∧ m ≤ 256
  · rw [if_pos hm]; exact new9bad2_tr m c hm (fun hc => h ⟨hm, hc⟩)
  · rw [if_neg hm]; exact new9bad1_tr m c hm
set_option maxRecDepth 100000 in
set_option maxHeartbeats 4000000 in
theorem plays_tr (ma ca mb cb : Int) (a : Option Addr) (n c : Nat) (qs : List OpR) (hn : n ≤ 1048576) : Tr Tryz.prog 3 [.agg #[.int .i64 ma, .int .i64 ca], .agg #[.int .i64 mb, .int .i64 cb], .slice a n c] [rdH encOpR 10 a n c qs] [] (fun v m => v = .bool true) := by
  intro w0 S0 H0
  refine enterR Tryz.func3 rfl Tryz.ntmps3 rfl ?_
  intro g0
  refine seq_ ?_
  refine region_ ?_
  refine wl_boxH H0 (v := .agg #[.int .i64 ma, .int .i64 ca]) rfl rfl ?_
  intro b1 w2 H2
  refine wl_boxH H2 (v := .agg #[.int .i64 mb, .int .i64 cb]) rfl rfl ?_
  intro b3 w4 H4
  refine wl_valE (v := .bool false) rfl (rf_assign rfl) rfl ?_
  refine wl_nil ?_
  refine thn ?_
  refine seq_ ?_
  refine region_ ?_
  refine wl_valE (v := .agg #[.int .i64 ma, .int .i64 ca]) rfl (rf_loadBlk Tryz.underlying23 rfl ti23 rfl rfl (H4.blk 0 rfl) (leb rfl)) rfl ?_
  refine wl_valE (v := .agg #[.int .i64 mb, .int .i64 cb]) rfl (rf_loadBlk Tryz.underlying23 rfl ti23 rfl rfl (H4.blk 1 rfl) (leb rfl)) rfl ?_
  refine wl_valE (v := .agg #[.int .i64 ma, .int .i64 ca, .int .i64 mb, .int .i64 cb]) rfl (rf_buildA (offs := [(0, [.int .i64 ma, .int .i64 ca]), (2, [.int .i64 mb, .int .i64 cb])]) Tryz.underlying25 ti25 ti23 (.cons rfl rfl rfl rfl rfl rfl (.cons rfl rfl rfl rfl rfl rfl .nil))) rfl ?_
  refine wl_allocH H4 ti25 ?_
  intro b7 w6 H6
  refine wl_storeAggH H6 2 (o := 0) (cs := [.int .i64 ma, .int .i64 ca, .int .i64 mb, .int .i64 cb]) (A' := #[.int .i64 ma, .int .i64 ca, .int .i64 mb, .int .i64 cb]) rfl rfl ti25 rfl rfl rfl rfl rfl oneAll (leb rfl) rfl ?_
  intro w7 H7
  try dsimp only [putsH, setH, List.cons_append, List.nil_append] at H7
  refine wl_nil ?_
  refine thn ?_
  refine seq_ ?_
  refine region_ ?_
  refine wl_allocH H7 ti27 ?_
  intro b8 w9 H9
  refine wl_nil ?_
  refine thn ?_
  refine seq_ ?_
  refine region_ ?_
  refine wl_allocH H9 ti29 ?_
  intro b9 w11 H11
  refine wl_nil ?_
  refine thn ?_
  refine seq_ ?_
  refine seq_ ?_
  have H12 := addPr H11
  try dsimp only [List.cons_append, List.nil_append] at H12
  try dsimp only [putsH, setH, List.cons_append, List.nil_append] at H12
  have H13 := addPr H12
  try dsimp only [List.cons_append, List.nil_append] at H13
  refine region_ ?_
  refine wl_valE (v := .int .i64 (0 : Int)) rfl (rf_assign rfl) rfl ?_
  refine wl_nil ?_
  refine thn ?_
  refine block_ ?_
  refine loop_ (fun qk_ qf_ qw_ => ∃ (g : Nat → Value) (i : Nat) (o0 o1 : Option PrR), qf_ = upds g [(2, .slice a n c), (7, .pointer (some ⟨b7, 0, none⟩)), (8, .pointer (some ⟨b8, 0, none⟩)), (9, .pointer (some ⟨b9, 0, none⟩)), (10, .int .i64 ((i : Nat) : Int))] ∧ qk_ = 2 - i ∧ (i ≤ 2) ∧ (RelP o0 0 ∧ RelP o1 0) ∧ ((i = 0 → o0 = none) ∧ (i ≤ 1 → o1 = none)) ∧ St w0 S0 [rdH encOpR 10 a n c qs] qw_ [blkH b1 #[.int .i64 ma, .int .i64 ca] 23, blkH b3 #[.int .i64 mb, .int .i64 cb] 23, blkH b7 #[.int .i64 ma, .int .i64 ca, .int .i64 mb, .int .i64 cb] 25, blkH b8 #[svP o0, svP o1] 27, blkH b9 #[rvP o0, rvP o1] 29, prH o0, prH o1]) (2 - 0) ?_ ?_
  · refine ⟨_, 0, none, none, upds_self ⟨rfl, rfl, rfl, rfl, rfl, trivial⟩, rfl, Nat.zero_le _, ⟨RelP.none _, RelP.none _⟩, ⟨fun _ => rfl, fun _ => rfl⟩, H13.pick' [0, 1, 2, 3, 4, 5, 6] rfl rfl⟩
  · rintro lk0 _ wl0 ⟨gl0, i, o0, o1, rfl, hlk0, hi, hrp, hz, HL0⟩
    refine seq_ ?_
    refine seq_ ?_
    refine region_ ?_
    refine wl_valE (v := .int .i64 ((i : Nat) : Int)) rfl (rf_move rfl) rfl ?_
    refine wl_valE (v := .bool (decide (((i : Nat) : Int) < (2 : Int)))) rfl (rf_lss rfl rfl rfl rfl) rfl ?_
    refine wl_nil ?_
    refine thn ?_
    refine cond_ (t := decide (((i : Nat) : Int) < (2 : Int))) rfl rfl (fun c28 => ?_) (fun c28 => ?_)
    · have c28p := of_decide_eq_true c28
      refine skip_ ?_
      refine thn ?_
      refine seq_ ?_
      refine block_ ?_
      refine seq_ ?_
      rcases case4 (i := i) (by omega) (GoodS ma ca) (GoodS mb cb) with ⟨rfl, hg⟩ | ⟨rfl, hg⟩ | ⟨rfl, hg⟩ | ⟨rfl, hg⟩
      · obtain rfl : o0 = none := hz.1 rfl
        refine region_h (S := (fun wq => St w0 S0 [rdH encOpR 10 a n c qs] wq [blkH b7 #[.int .i64 ma, .int .i64 ca, .int .i64 mb, .int .i64 cb] 25])) mixedP ?_
        intro w14 hk14
        have H14 := HL0.keep hk14
        have hS14 : St w0 S0 [rdH encOpR 10 a n c qs] w14 [blkH b7 #[.int .i64 ma, .int .i64 ca, .int .i64 mb, .int .i64 cb] 25] := H14.pick' [2] rfl rfl
        refine wh_take (i := 0) (v := .int .i64 (0 : Int)) rfl (by kernel_rfl) (by kernel_rfl) (by kernel_rfl) hS14 rfl (fun wq hq => rf_move rfl) rfl ?_
        refine wh_take (i := 1) (v := .pointer (some ⟨b7, 0, none⟩)) rfl (by kernel_rfl) (by kernel_rfl) (by kernel_rfl) hS14 rfl (fun wq hq => rf_indexAddrA Tryz.underlying25 ti23 rfl rfl rfl rfl (by omega) (by omega)) (by simp) ?_
        refine wh_take (i := 2) (v := .pointer (some ⟨b7, 0, none⟩)) rfl (by kernel_rfl) (by kernel_rfl) (by kernel_rfl) hS14 rfl (fun wq hq => rf_fieldAddr Tryz.underlying23 rfl ti3 rfl rfl) rfl ?_
        refine wh_take (i := 3) (v := .int .i64 ma) rfl (by kernel_rfl) (by kernel_rfl) (by kernel_rfl) hS14 rfl (fun wq hq => rf_load Tryz.underlying3 rfl rfl rfl ((hq.blk 0 rfl).cell rfl)) rfl ?_
        refine wh_take (i := 4) (v := .int .i64 (0 : Int)) rfl (by kernel_rfl) (by kernel_rfl) (by kernel_rfl) hS14 rfl (fun wq hq => rf_move rfl) rfl ?_
        refine wh_take (i := 5) (v := .pointer (some ⟨b7, 0, none⟩)) rfl (by kernel_rfl) (by kernel_rfl) (by kernel_rfl) hS14 rfl (fun wq hq => rf_indexAddrA Tryz.underlying25 ti23 rfl rfl rfl rfl (by omega) (by omega)) (by simp) ?_
        refine wh_take (i := 6) (v := .pointer (some ⟨b7, 1, none⟩)) rfl (by kernel_rfl) (by kernel_rfl) (by kernel_rfl) hS14 rfl (fun wq hq => rf_fieldAddr Tryz.underlying23 rfl ti3 rfl rfl) rfl ?_
        refine wh_take (i := 7) (v := .int .i64 ca) rfl (by kernel_rfl) (by kernel_rfl) (by kernel_rfl) hS14 rfl (fun wq hq => rf_load Tryz.underlying3 rfl rfl rfl ((hq.blk 0 rfl).cell rfl)) rfl ?_
        refine wh_one (i := 8) (by kernel_rfl) rfl ?_
        refine wl_tr H14 rfl [] (newS_tr ma ca hg.1 hg.2) rfl .nil (rf_call Tryz.call4 rfl rfl) rfl ?_
        rintro _ w15 _ ⟨s0, rfl, rfl⟩ H15
        refine wl_nil ?_
        have hS16 : St w0 S0 [rdH encOpR 10 a n c qs] w15 [blkH b7 #[.int .i64 ma, .int .i64 ca, .int .i64 mb, .int .i64 cb] 25] := H15.pick' [2] rfl rfl
        refine wh_back hS16 ?_
        refine wh_take (i := 9) (v := .tuple #[.pointer (some ⟨s0, 0, none⟩), .int .i64 0]) rfl (by kernel_rfl) (by kernel_rfl) (by kernel_rfl) hS16 rfl (fun wq hq => rf_move rfl) rfl ?_
        refine wh_take (i := 10) (v := .pointer (some ⟨s0, 0, none⟩)) rfl (by kernel_rfl) (by kernel_rfl) (by kernel_rfl) hS16 rfl (fun wq hq => rf_extract rfl rfl rfl) rfl ?_
        refine wh_take (i := 11) (v := .int .i64 0) rfl (by kernel_rfl) (by kernel_rfl) (by kernel_rfl) hS16 rfl (fun wq hq => rf_extract rfl rfl rfl) rfl ?_
        refine wh_take (i := 12) (v := .pointer (some ⟨s0, 0, none⟩)) rfl (by kernel_rfl) (by kernel_rfl) (by kernel_rfl) hS16 rfl (fun wq hq => rf_assign rfl) rfl ?_
        refine wh_take (i := 13) (v := .int .i64 0) rfl (by kernel_rfl) (by kernel_rfl) (by kernel_rfl) hS16 rfl (fun wq hq => rf_assign rfl) rfl ?_
        refine wh_done (by kernel_rfl) ?_
        refine thn ?_
        refine seq_ ?_
        refine region_h (S := (fun wq => St w0 S0 [rdH encOpR 10 a n c qs] wq [blkH b7 #[.int .i64 ma, .int .i64 ca, .int .i64 mb, .int .i64 cb] 25])) mixedP ?_
        intro w17 hk17
        have H17 := H15.keep hk17
        have hS17 : St w0 S0 [rdH encOpR 10 a n c qs] w17 [blkH b7 #[.int .i64 ma, .int .i64 ca, .int .i64 mb, .int .i64 cb] 25] := H17.pick' [2] rfl rfl
        refine wh_take (i := 0) (v := .int .i64 (0 : Int)) rfl (by kernel_rfl) (by kernel_rfl) (by kernel_rfl) hS17 rfl (fun wq hq => rf_move rfl) rfl ?_
        refine wh_take (i := 1) (v := .pointer (some ⟨b7, 0, none⟩)) rfl (by kernel_rfl) (by kernel_rfl) (by kernel_rfl) hS17 rfl (fun wq hq => rf_indexAddrA Tryz.underlying25 ti23 rfl rfl rfl rfl (by omega) (by omega)) (by simp) ?_
        refine wh_take (i := 2) (v := .pointer (some ⟨b7, 0, none⟩)) rfl (by kernel_rfl) (by kernel_rfl) (by kernel_rfl) hS17 rfl (fun wq hq => rf_fieldAddr Tryz.underlying23 rfl ti3 rfl rfl) rfl ?_
        refine wh_take (i := 3) (v := .int .i64 ma) rfl (by kernel_rfl) (by kernel_rfl) (by kernel_rfl) hS17 rfl (fun wq hq => rf_load Tryz.underlying3 rfl rfl rfl ((hq.blk 0 rfl).cell rfl)) rfl ?_
        refine wh_take (i := 4) (v := .int .i64 (0 : Int)) rfl (by kernel_rfl) (by kernel_rfl) (by kernel_rfl) hS17 rfl (fun wq hq => rf_move rfl) rfl ?_
        refine wh_take (i := 5) (v := .pointer (some ⟨b7, 0, none⟩)) rfl (by kernel_rfl) (by kernel_rfl) (by kernel_rfl) hS17 rfl (fun wq hq => rf_indexAddrA Tryz.underlying25 ti23 rfl rfl rfl rfl (by omega) (by omega)) (by simp) ?_
        refine wh_take (i := 6) (v := .pointer (some ⟨b7, 1, none⟩)) rfl (by kernel_rfl) (by kernel_rfl) (by kernel_rfl) hS17 rfl (fun wq hq => rf_fieldAddr Tryz.underlying23 rfl ti3 rfl rfl) rfl ?_
        refine wh_take (i := 7) (v := .int .i64 ca) rfl (by kernel_rfl) (by kernel_rfl) (by kernel_rfl) hS17 rfl (fun wq hq => rf_load Tryz.underlying3 rfl rfl rfl ((hq.blk 0 rfl).cell rfl)) rfl ?_
        refine wh_one (i := 8) (by kernel_rfl) rfl ?_
        refine wl_tr H17 rfl [] (new9_tr ma ca hg.1 hg.2) rfl .nil (rf_call Tryz.call5 rfl rfl) rfl ?_
        rintro _ w18 _ ⟨rb0, rfl, rfl⟩ H18
        refine wl_nil ?_
        have hS19 : St w0 S0 [rdH encOpR 10 a n c qs] w18 [blkH b7 #[.int .i64 ma, .int .i64 ca, .int .i64 mb, .int .i64 cb] 25] := H18.pick' [2] rfl rfl
        refine wh_back hS19 ?_
        refine wh_take (i := 9) (v := .tuple #[.pointer (some ⟨rb0, 0, none⟩), .int .i64 0]) rfl (by kernel_rfl) (by kernel_rfl) (by kernel_rfl) hS19 rfl (fun wq hq => rf_move rfl) rfl ?_
        refine wh_take (i := 10) (v := .pointer (some ⟨rb0, 0, none⟩)) rfl (by kernel_rfl) (by kernel_rfl) (by kernel_rfl) hS19 rfl (fun wq hq => rf_extract rfl rfl rfl) rfl ?_
        refine wh_take (i := 11) (v := .int .i64 0) rfl (by kernel_rfl) (by kernel_rfl) (by kernel_rfl) hS19 rfl (fun wq hq => rf_extract rfl rfl rfl) rfl ?_
        refine wh_take (i := 12) (v := .pointer (some ⟨rb0, 0, none⟩)) rfl (by kernel_rfl) (by kernel_rfl) (by kernel_rfl) hS19 rfl (fun wq hq => rf_assign rfl) rfl ?_
        refine wh_take (i := 13) (v := .int .i64 0) rfl (by kernel_rfl) (by kernel_rfl) (by kernel_rfl) hS19 rfl (fun wq hq => rf_assign rfl) rfl ?_
        refine wh_done (by kernel_rfl) ?_
        refine thn ?_
        refine seq_ ?_
        refine seq_ ?_
        refine region_ ?_
        refine wl_valE (v := .int .i64 0) rfl (rf_move rfl) rfl ?_
        refine wl_valE (v := .int .i64 0) rfl (rf_move rfl) rfl ?_
        refine wl_valE (v := .bool false) rfl (rf_neq rfl rfl rfl rfl) (congrArg Value.bool (by decide)) ?_
        refine wl_valE (v := .bool false) rfl (rf_move rfl) rfl ?_
        refine wl_guardT rfl rfl rfl rfl ?_
        refine wl_valE (v := .pointer (some ⟨s0, 0, none⟩)) rfl (rf_move rfl) rfl ?_
        refine wl_guardT rfl rfl rfl rfl ?_
        refine wl_valE (v := .bool false) rfl (rf_eqlPN Tryz.underlying26 rfl rfl rfl rfl) rfl ?_
        refine wl_guardT rfl rfl rfl rfl ?_
        refine wl_valE (v := .pointer (some ⟨rb0, 0, none⟩)) rfl (rf_move rfl) rfl ?_
        refine wl_guardT rfl rfl rfl rfl ?_
        refine wl_valE (v := .bool false) rfl (rf_eqlPN Tryz.underlying28 rfl rfl rfl rfl) rfl ?_
        refine wl_guardT rfl rfl rfl rfl ?_
        refine wl_valE (v := .bool false) rfl (rf_neqB Tryz.underlying4 rfl rfl rfl rfl) (congrArg Value.bool (by simp)) ?_
        refine wl_valE (v := .bool false) rfl (rf_pickF rfl rfl rfl rfl) rfl ?_
        refine wl_nil ?_
        refine thn ?_
        refine condF rfl rfl ?_
        refine skip_ ?_
        refine thn ?_
        refine seq_ ?_
        refine region_ ?_
        refine wl_valE (v := .int .i64 (0 : Int)) rfl (rf_move rfl) rfl ?_
        refine wl_valE (v := .pointer (some ⟨s0, 0, none⟩)) rfl (rf_move rfl) rfl ?_
        refine wl_valE (v := .pointer (some ⟨b8, 0, none⟩)) rfl (rf_indexAddrA Tryz.underlying27 ti26 rfl rfl rfl rfl (by omega) (by omega)) (by simp) ?_
        refine wl_storeH H18 3 (v := .pointer (some ⟨s0, 0, none⟩)) (A' := #[.pointer (some ⟨s0, 0, none⟩), svP o1]) rfl rfl ti26 rfl rfl rfl rfl rfl (ltb rfl) rfl ?_
        intro w20 H20
        refine wl_nil ?_
        refine thn ?_
        refine region_ ?_
        refine wl_valE (v := .int .i64 (0 : Int)) rfl (rf_move rfl) rfl ?_
        refine wl_valE (v := .pointer (some ⟨rb0, 0, none⟩)) rfl (rf_move rfl) rfl ?_
        refine wl_valE (v := .pointer (some ⟨b9, 0, none⟩)) rfl (rf_indexAddrA Tryz.underlying29 ti28 rfl rfl rfl rfl (by omega) (by omega)) (by simp) ?_
        refine wl_storeH H20 4 (v := .pointer (some ⟨rb0, 0, none⟩)) (A' := #[.pointer (some ⟨rb0, 0, none⟩), rvP o1]) rfl rfl ti28 rfl rfl rfl rfl rfl (ltb rfl) rfl ?_
        intro w21 H21
        try dsimp only [putsH, setH, List.cons_append, List.nil_append] at H21
        refine wl_nil ?_
        refine bln ?_
        refine thn ?_
        refine region_ ?_
        refine wl_valE (v := .int .i64 (0 : Int)) rfl (rf_move rfl) rfl ?_
        refine wl_valE (v := .int .i64 ((0 + 1 : Nat) : Int)) rfl (rf_add rfl rfl rfl rfl (IntWalk.i64_in _ (by omega))) rfl ?_
        refine wl_valE (v := .int .i64 ((0 + 1 : Nat) : Int)) rfl (rf_assign rfl) rfl ?_
        refine wl_nil ?_
        refine thn ?_
        have H22 := H21.fold [7, 8] (m := [stoH s0 (st0 ma ca), rfH rb0 (⟨ma, ca, [], 0⟩ : RS)]) rfl rfl
        try dsimp only [putsH, setH, List.cons_append, List.nil_append] at H22
        refine ⟨2 - 1, _, rfl, (by omega), _, 1, (some ⟨s0, rb0, st0 ma ca, ⟨ma, ca, [], 0⟩⟩), o1, upds_self ⟨rfl, rfl, rfl, rfl, rfl, trivial⟩, rfl, by omega, ⟨RelP.mk (rel0 hg.1 hg.2) (Int.le_refl _), hrp.2⟩, ⟨fun h => by omega, fun _ => hz.2 (by omega)⟩, H22.pick' [0, 1, 2, 3, 4, 7, 6] rfl rfl⟩
      · obtain rfl : o0 = none := hz.1 rfl
        refine region_h (S := (fun wq => St w0 S0 [rdH encOpR 10 a n c qs] wq [blkH b7 #[.int .i64 ma, .int .i64 ca, .int .i64 mb, .int .i64 cb] 25])) mixedP ?_
        intro w23 hk23
        have H23 := HL0.keep hk23
        have hS23 : St w0 S0 [rdH encOpR 10 a n c qs] w23 [blkH b7 #[.int .i64 ma, .int .i64 ca, .int .i64 mb, .int .i64 cb] 25] := H23.pick' [2] rfl rfl
        refine wh_take (i := 0) (v := .int .i64 (0 : Int)) rfl (by kernel_rfl) (by kernel_rfl) (by kernel_rfl) hS23 rfl (fun wq hq => rf_move rfl) rfl ?_
        refine wh_take (i := 1) (v := .pointer (some ⟨b7, 0, none⟩)) rfl (by kernel_rfl) (by kernel_rfl) (by kernel_rfl) hS23 rfl (fun wq hq => rf_indexAddrA Tryz.underlying25 ti23 rfl rfl rfl rfl (by omega) (by omega)) (by simp) ?_
        refine wh_take (i := 2) (v := .pointer (some ⟨b7, 0, none⟩)) rfl (by kernel_rfl) (by kernel_rfl) (by kernel_rfl) hS23 rfl (fun wq hq => rf_fieldAddr Tryz.underlying23 rfl ti3 rfl rfl) rfl ?_
        refine wh_take (i := 3) (v := .int .i64 ma) rfl (by kernel_rfl) (by kernel_rfl) (by kernel_rfl) hS23 rfl (fun wq hq => rf_load Tryz.underlying3 rfl rfl rfl ((hq.blk 0 rfl).cell rfl)) rfl ?_
        refine wh_take (i := 4) (v := .int .i64 (0 : Int)) rfl (by kernel_rfl) (by kernel_rfl) (by kernel_rfl) hS23 rfl (fun wq hq => rf_move rfl) rfl ?_
        refine wh_take (i := 5) (v := .pointer (some ⟨b7, 0, none⟩)) rfl (by kernel_rfl) (by kernel_rfl) (by kernel_rfl) hS23 rfl (fun wq hq => rf_indexAddrA Tryz.underlying25 ti23 rfl rfl rfl rfl (by omega) (by omega)) (by simp) ?_
        refine wh_take (i := 6) (v := .pointer (some ⟨b7, 1, none⟩)) rfl (by kernel_rfl) (by kernel_rfl) (by kernel_rfl) hS23 rfl (fun wq hq => rf_fieldAddr Tryz.underlying23 rfl ti3 rfl rfl) rfl ?_
        refine wh_take (i := 7) (v := .int .i64 ca) rfl (by kernel_rfl) (by kernel_rfl) (by kernel_rfl) hS23 rfl (fun wq hq => rf_load Tryz.underlying3 rfl rfl rfl ((hq.blk 0 rfl).cell rfl)) rfl ?_
        refine wh_one (i := 8) (by kernel_rfl) rfl ?_
        refine wl_tr H23 rfl [] (newSbad_tr ma ca hg) rfl .nil (rf_call Tryz.call4 rfl rfl) rfl ?_
        rintro _ w24 _ ⟨rfl, rfl⟩ H24
        refine wl_nil ?_
        have hS25 : St w0 S0 [rdH encOpR 10 a n c qs] w24 [blkH b7 #[.int .i64 ma, .int .i64 ca, .int .i64 mb, .int .i64 cb] 25] := H24.pick' [2] rfl rfl
        refine wh_back hS25 ?_
        refine wh_take (i := 9) (v := .tuple #[.pointer none, .int .i64 (nerr ma)]) rfl (by kernel_rfl) (by kernel_rfl) (by kernel_rfl) hS25 rfl (fun wq hq => rf_move rfl) rfl ?_
        refine wh_take (i := 10) (v := .pointer none) rfl (by kernel_rfl) (by kernel_rfl) (by kernel_rfl) hS25 rfl (fun wq hq => rf_extract rfl rfl rfl) rfl ?_
        refine wh_take (i := 11) (v := .int .i64 (nerr ma)) rfl (by kernel_rfl) (by kernel_rfl) (by kernel_rfl) hS25 rfl (fun wq hq => rf_extract rfl rfl rfl) rfl ?_
        refine wh_take (i := 12) (v := .pointer none) rfl (by kernel_rfl) (by kernel_rfl) (by kernel_rfl) hS25 rfl (fun wq hq => rf_assign rfl) rfl ?_
        refine wh_take (i := 13) (v := .int .i64 (nerr ma)) rfl (by kernel_rfl) (by kernel_rfl) (by kernel_rfl) hS25 rfl (fun wq hq => rf_assign rfl) rfl ?_
        refine wh_done (by kernel_rfl) ?_
        refine thn ?_
        refine seq_ ?_
        refine region_h (S := (fun wq => St w0 S0 [rdH encOpR 10 a n c qs] wq [blkH b7 #[.int .i64 ma, .int .i64 ca, .int .i64 mb, .int .i64 cb] 25])) mixedP ?_
        intro w26 hk26
        have H26 := H24.keep hk26
        have hS26 : St w0 S0 [rdH encOpR 10 a n c qs] w26 [blkH b7 #[.int .i64 ma, .int .i64 ca, .int .i64 mb, .int .i64 cb] 25] := H26.pick' [2] rfl rfl
        refine wh_take (i := 0) (v := .int .i64 (0 : Int)) rfl (by kernel_rfl) (by kernel_rfl) (by kernel_rfl) hS26 rfl (fun wq hq => rf_move rfl) rfl ?_
        refine wh_take (i := 1) (v := .pointer (some ⟨b7, 0, none⟩)) rfl (by kernel_rfl) (by kernel_rfl) (by kernel_rfl) hS26 rfl (fun wq hq => rf_indexAddrA Tryz.underlying25 ti23 rfl rfl rfl rfl (by omega) (by omega)) (by simp) ?_
        refine wh_take (i := 2) (v := .pointer (some ⟨b7, 0, none⟩)) rfl (by kernel_rfl) (by kernel_rfl) (by kernel_rfl) hS26 rfl (fun wq hq => rf_fieldAddr Tryz.underlying23 rfl ti3 rfl rfl) rfl ?_
        refine wh_take (i := 3) (v := .int .i64 ma) rfl (by kernel_rfl) (by kernel_rfl) (by kernel_rfl) hS26 rfl (fun wq hq => rf_load Tryz.underlying3 rfl rfl rfl ((hq.blk 0 rfl).cell rfl)) rfl ?_
        refine wh_take (i := 4) (v := .int .i64 (0 : Int)) rfl (by kernel_rfl) (by kernel_rfl) (by kernel_rfl) hS26 rfl (fun wq hq => rf_move rfl) rfl ?_
        refine wh_take (i := 5) (v := .pointer (some ⟨b7, 0, none⟩)) rfl (by kernel_rfl) (by kernel_rfl) (by kernel_rfl) hS26 rfl (fun wq hq => rf_indexAddrA Tryz.underlying25 ti23 rfl rfl rfl rfl (by omega) (by omega)) (by simp) ?_
        refine wh_take (i := 6) (v := .pointer (some ⟨b7, 1, none⟩)) rfl (by kernel_rfl) (by kernel_rfl) (by kernel_rfl) hS26 rfl (fun wq hq => rf_fieldAddr Tryz.underlying23 rfl ti3 rfl rfl) rfl ?_
        refine wh_take (i := 7) (v := .int .i64 ca) rfl (by kernel_rfl) (by kernel_rfl) (by kernel_rfl) hS26 rfl (fun wq hq => rf_load Tryz.underlying3 rfl rfl rfl ((hq.blk 0 rfl).cell rfl)) rfl ?_
        refine wh_one (i := 8) (by kernel_rfl) rfl ?_
        refine wl_tr H26 rfl [] (new9bad_tr ma ca hg) rfl .nil (rf_call Tryz.call5 rfl rfl) rfl ?_
        rintro _ w27 _ ⟨rfl, rfl⟩ H27
        refine wl_nil ?_
        have hS28 : St w0 S0 [rdH encOpR 10 a n c qs] w27 [blkH b7 #[.int .i64 ma, .int .i64 ca, .int .i64 mb, .int .i64 cb] 25] := H27.pick' [2] rfl rfl
        refine wh_back hS28 ?_
        refine wh_take (i := 9) (v := .tuple #[.pointer none, .int .i64 (nerr ma)]) rfl (by kernel_rfl) (by kernel_rfl) (by kernel_rfl) hS28 rfl (fun wq hq => rf_move rfl) rfl ?_
        refine wh_take (i := 10) (v := .pointer none) rfl (by kernel_rfl) (by kernel_rfl) (by kernel_rfl) hS28 rfl (fun wq hq => rf_extract rfl rfl rfl) rfl ?_
        refine wh_take (i := 11) (v := .int .i64 (nerr ma)) rfl (by kernel_rfl) (by kernel_rfl) (by kernel_rfl) hS28 rfl (fun wq hq => rf_extract rfl rfl rfl) rfl ?_
        refine wh_take (i := 12) (v := .pointer none) rfl (by kernel_rfl) (by kernel_rfl) (by kernel_rfl) hS28 rfl (fun wq hq => rf_assign rfl) rfl ?_
        refine wh_take (i := 13) (v := .int .i64 (nerr ma)) rfl (by kernel_rfl) (by kernel_rfl) (by kernel_rfl) hS28 rfl (fun wq hq => rf_assign rfl) rfl ?_
        refine wh_done (by kernel_rfl) ?_
        refine thn ?_
        refine seq_ ?_
        refine seq_ ?_
        refine region_ ?_
        refine wl_valE (v := .int .i64 (nerr ma)) rfl (rf_move rfl) rfl ?_
        refine wl_valE (v := .int .i64 (nerr ma)) rfl (rf_move rfl) rfl ?_
        refine wl_valE (v := .bool false) rfl (rf_neq rfl rfl rfl rfl) (congrArg Value.bool (by simp)) ?_
        refine wl_valE (v := .bool false) rfl (rf_move rfl) rfl ?_
        refine wl_guardT rfl rfl rfl rfl ?_
        refine wl_valE (v := .pointer none) rfl (rf_move rfl) rfl ?_
        refine wl_guardT rfl rfl rfl rfl ?_
        refine wl_valE (v := .bool true) rfl (rf_eqlPN Tryz.underlying26 rfl rfl rfl rfl) rfl ?_
        refine wl_guardT rfl rfl rfl rfl ?_
        refine wl_valE (v := .pointer none) rfl (rf_move rfl) rfl ?_
        refine wl_guardT rfl rfl rfl rfl ?_
        refine wl_valE (v := .bool true) rfl (rf_eqlPN Tryz.underlying28 rfl rfl rfl rfl) rfl ?_
        refine wl_guardT rfl rfl rfl rfl ?_
        refine wl_valE (v := .bool false) rfl (rf_neqB Tryz.underlying4 rfl rfl rfl rfl) (congrArg Value.bool (by simp)) ?_
        refine wl_valE (v := .bool false) rfl (rf_pickF rfl rfl rfl rfl) rfl ?_
        refine wl_nil ?_
        refine thn ?_
        refine condF rfl rfl ?_
        refine skip_ ?_
        refine thn ?_
        refine seq_ ?_
        refine region_ ?_
        refine wl_valE (v := .int .i64 (0 : Int)) rfl (rf_move rfl) rfl ?_
        refine wl_valE (v := .pointer none) rfl (rf_move rfl) rfl ?_
        refine wl_valE (v := .pointer (some ⟨b8, 0, none⟩)) rfl (rf_indexAddrA Tryz.underlying27 ti26 rfl rfl rfl rfl (by omega) (by omega)) (by simp) ?_
        refine wl_storeH H27 3 (v := .pointer none) (A' := #[.pointer none, svP o1]) rfl rfl ti26 rfl rfl rfl rfl rfl (ltb rfl) rfl ?_
        intro w29 H29
        refine wl_nil ?_
        refine thn ?_
        refine region_ ?_
        refine wl_valE (v := .int .i64 (0 : Int)) rfl (rf_move rfl) rfl ?_
        refine wl_valE (v := .pointer none) rfl (rf_move rfl) rfl ?_
        refine wl_valE (v := .pointer (some ⟨b9, 0, none⟩)) rfl (rf_indexAddrA Tryz.underlying29 ti28 rfl rfl rfl rfl (by omega) (by omega)) (by simp) ?_
        refine wl_storeH H29 4 (v := .pointer none) (A' := #[.pointer none, rvP o1]) rfl rfl ti28 rfl rfl rfl rfl rfl (ltb rfl) rfl ?_
        intro w30 H30
        refine wl_nil ?_
        refine bln ?_
        refine thn ?_
        refine region_ ?_
        refine wl_valE (v := .int .i64 (0 : Int)) rfl (rf_move rfl) rfl ?_
        refine wl_valE (v := .int .i64 ((0 + 1 : Nat) : Int)) rfl (rf_add rfl rfl rfl rfl (IntWalk.i64_in _ (by omega))) rfl ?_
        refine wl_valE (v := .int .i64 ((0 + 1 : Nat) : Int)) rfl (rf_assign rfl) rfl ?_
        refine wl_nil ?_
        refine thn ?_
        refine ⟨2 - 1, _, rfl, (by omega), _, 1, none, o1, upds_self ⟨rfl, rfl, rfl, rfl, rfl, trivial⟩, rfl, by omega, hrp, ⟨fun h => by omega, fun _ => hz.2 (by omega)⟩, H30.pick' [0, 1, 2, 3, 4, 5, 6] rfl rfl⟩
      · obtain rfl : o1 = none := hz.2 (by omega)
        refine region_h (S := (fun wq => St w0 S0 [rdH encOpR 10 a n c qs] wq [blkH b7 #[.int .i64 ma, .int .i64 ca, .int .i64 mb, .int .i64 cb] 25])) mixedP ?_
        intro w31 hk31
        have H31 := HL0.keep hk31
        have hS31 : St w0 S0 [rdH encOpR 10 a n c qs] w31 [blkH b7 #[.int .i64 ma, .int .i64 ca, .int .i64 mb, .int .i64 cb] 25] := H31.pick' [2] rfl rfl
        refine wh_take (i := 0) (v := .int .i64 (1 : Int)) rfl (by kernel_rfl) (by kernel_rfl) (by kernel_rfl) hS31 rfl (fun wq hq => rf_move rfl) rfl ?_
        refine wh_take (i := 1) (v := .pointer (some ⟨b7, 2, none⟩)) rfl (by kernel_rfl) (by kernel_rfl) (by kernel_rfl) hS31 rfl (fun wq hq => rf_indexAddrA Tryz.underlying25 ti23 rfl rfl rfl rfl (by omega) (by omega)) (by simp) ?_
        refine wh_take (i := 2) (v := .pointer (some ⟨b7, 2, none⟩)) rfl (by kernel_rfl) (by kernel_rfl) (by kernel_rfl) hS31 rfl (fun wq hq => rf_fieldAddr Tryz.underlying23 rfl ti3 rfl rfl) rfl ?_
        refine wh_take (i := 3) (v := .int .i64 mb) rfl (by kernel_rfl) (by kernel_rfl) (by kernel_rfl) hS31 rfl (fun wq hq => rf_load Tryz.underlying3 rfl rfl rfl ((hq.blk 0 rfl).cell rfl)) rfl ?_
        refine wh_take (i := 4) (v := .int .i64 (1 : Int)) rfl (by kernel_rfl) (by kernel_rfl) (by kernel_rfl) hS31 rfl (fun wq hq => rf_move rfl) rfl ?_
        refine wh_take (i := 5) (v := .pointer (some ⟨b7, 2, none⟩)) rfl (by kernel_rfl) (by kernel_rfl) (by kernel_rfl) hS31 rfl (fun wq hq => rf_indexAddrA Tryz.underlying25 ti23 rfl rfl rfl rfl (by omega) (by omega)) (by simp) ?_
        refine wh_take (i := 6) (v := .pointer (some ⟨b7, 3, none⟩)) rfl (by kernel_rfl) (by kernel_rfl) (by kernel_rfl) hS31 rfl (fun wq hq => rf_fieldAddr Tryz.underlying23 rfl ti3 rfl rfl) rfl ?_
        refine wh_take (i := 7) (v := .int .i64 cb) rfl (by kernel_rfl) (by kernel_rfl) (by kernel_rfl) hS31 rfl (fun wq hq => rf_load Tryz.underlying3 rfl rfl rfl ((hq.blk 0 rfl).cell rfl)) rfl ?_
        refine wh_one (i := 8) (by kernel_rfl) rfl ?_
        refine wl_tr H31 rfl [] (newS_tr mb cb hg.1 hg.2) rfl .nil (rf_call Tryz.call4 rfl rfl) rfl ?_
        rintro _ w32 _ ⟨s0, rfl, rfl⟩ H32
        refine wl_nil ?_
        have hS33 : St w0 S0 [rdH encOpR 10 a n c qs] w32 [blkH b7 #[.int .i64 ma, .int .i64 ca, .int .i64 mb, .int .i64 cb] 25] := H32.pick' [2] rfl rfl
        refine wh_back hS33 ?_
        refine wh_take (i := 9) (v := .tuple #[.pointer (some ⟨s0, 0, none⟩), .int .i64 0]) rfl (by kernel_rfl) (by kernel_rfl) (by kernel_rfl) hS33 rfl (fun wq hq => rf_move rfl) rfl ?_
        refine wh_take (i := 10) (v := .pointer (some ⟨s0, 0, none⟩)) rfl (by kernel_rfl) (by kernel_rfl) (by kernel_rfl) hS33 rfl (fun wq hq => rf_extract rfl rfl rfl) rfl ?_
        refine wh_take (i := 11) (v := .int .i64 0) rfl (by kernel_rfl) (by kernel_rfl) (by kernel_rfl) hS33 rfl (fun wq hq => rf_extract rfl rfl rfl) rfl ?_
        refine wh_take (i := 12) (v := .pointer (some ⟨s0, 0, none⟩)) rfl (by kernel_rfl) (by kernel_rfl) (by kernel_rfl) hS33 rfl (fun wq hq => rf_assign rfl) rfl ?_
        refine wh_take (i := 13) (v := .int .i64 0) rfl (by kernel_rfl) (by kernel_rfl) (by kernel_rfl) hS33 rfl (fun wq hq => rf_assign rfl) rfl ?_
        refine wh_done (by kernel_rfl) ?_
        refine thn ?_
        refine seq_ ?_
        refine region_h (S := (fun wq => St w0 S0 [rdH encOpR 10 a n c qs] wq [blkH b7 #[.int .i64 ma, .int .i64 ca, .int .i64 mb, .int .i64 cb] 25])) mixedP ?_
        intro w34 hk34
        have H34 := H32.keep hk34
        have hS34 : St w0 S0 [rdH encOpR 10 a n c qs] w34 [blkH b7 #[.int .i64 ma, .int .i64 ca, .int .i64 mb, .int .i64 cb] 25] := H34.pick' [2] rfl rfl
        refine wh_take (i := 0) (v := .int .i64 (1 : Int)) rfl (by kernel_rfl) (by kernel_rfl) (by kernel_rfl) hS34 rfl (fun wq hq => rf_move rfl) rfl ?_
        refine wh_take (i := 1) (v := .pointer (some ⟨b7, 2, none⟩)) rfl (by kernel_rfl) (by kernel_rfl) (by kernel_rfl) hS34 rfl (fun wq hq => rf_indexAddrA Tryz.underlying25 ti23 rfl rfl rfl rfl (by omega) (by omega)) (by simp) ?_
        refine wh_take (i := 2) (v := .pointer (some ⟨b7, 2, none⟩)) rfl (by kernel_rfl) (by kernel_rfl) (by kernel_rfl) hS34 rfl (fun wq hq => rf_fieldAddr Tryz.underlying23 rfl ti3 rfl rfl) rfl ?_
        refine wh_take (i := 3) (v := .int .i64 mb) rfl (by kernel_rfl) (by kernel_rfl) (by kernel_rfl) hS34 rfl (fun wq hq => rf_load Tryz.underlying3 rfl rfl rfl ((hq.blk 0 rfl).cell rfl)) rfl ?_
        refine wh_take (i := 4) (v := .int .i64 (1 : Int)) rfl (by kernel_rfl) (by kernel_rfl) (by kernel_rfl) hS34 rfl (fun wq hq => rf_move rfl) rfl ?_
        refine wh_take (i := 5) (v := .pointer (some ⟨b7, 2, none⟩)) rfl (by kernel_rfl) (by kernel_rfl) (by kernel_rfl) hS34 rfl (fun wq hq => rf_indexAddrA Tryz.underlying25 ti23 rfl rfl rfl rfl (by omega) (by omega)) (by simp) ?_
        refine wh_take (i := 6) (v := .pointer (some ⟨b7, 3, none⟩)) rfl (by kernel_rfl) (by kernel_rfl) (by kernel_rfl) hS34 rfl (fun wq hq => rf_fieldAddr Tryz.underlying23 rfl ti3 rfl rfl) rfl ?_
        refine wh_take (i := 7) (v := .int .i64 cb) rfl (by kernel_rfl) (by kernel_rfl) (by kernel_rfl) hS34 rfl (fun wq hq => rf_load Tryz.underlying3 rfl rfl rfl ((hq.blk 0 rfl).cell rfl)) rfl ?_
        refine wh_one (i := 8) (by kernel_rfl) rfl ?_
        refine wl_tr H34 rfl [] (new9_tr mb cb hg.1 hg.2) rfl .nil (rf_call Tryz.call5 rfl rfl) rfl ?_
        rintro _ w35 _ ⟨rb0, rfl, rfl⟩ H35
        refine wl_nil ?_
        have hS36 : St w0 S0 [rdH encOpR 10 a n c qs] w35 [blkH b7 #[.int .i64 ma, .int .i64 ca, .int .i64 mb, .int .i64 cb] 25] := H35.pick' [2] rfl rfl
        refine wh_back hS36 ?_
        refine wh_take (i := 9) (v := .tuple #[.pointer (some ⟨rb0, 0, none⟩), .int .i64 0]) rfl (by kernel_rfl) (by kernel_rfl) (by kernel_rfl) hS36 rfl (fun wq hq => rf_move rfl) rfl ?_
        refine wh_take (i := 10) (v := .pointer (some ⟨rb0, 0, none⟩)) rfl (by kernel_rfl) (by kernel_rfl) (by kernel_rfl) hS36 rfl (fun wq hq => rf_extract rfl rfl rfl) rfl ?_
        refine wh_take (i := 11) (v := .int .i64 0) rfl (by kernel_rfl) (by kernel_rfl) (by kernel_rfl) hS36 rfl (fun wq hq => rf_extract rfl rfl rfl) rfl ?_
        refine wh_take (i := 12) (v := .pointer (some ⟨rb0, 0, none⟩)) rfl (by kernel_rfl) (by kernel_rfl) (by kernel_rfl) hS36 rfl (fun wq hq => rf_assign rfl) rfl ?_
        refine wh_take (i := 13) (v := .int .i64 0) rfl (by kernel_rfl) (by kernel_rfl) (by kernel_rfl) hS36 rfl (fun wq hq => rf_assign rfl) rfl ?_
        refine wh_done (by kernel_rfl) ?_
        refine thn ?_
        refine seq_ ?_
        refine seq_ ?_
        refine region_ ?_
        refine wl_valE (v := .int .i64 0) rfl (rf_move rfl) rfl ?_
        refine wl_valE (v := .int .i64 0) rfl (rf_move rfl) rfl ?_
        refine wl_valE (v := .bool false) rfl (rf_neq rfl rfl rfl rfl) (congrArg Value.bool (by decide)) ?_
        refine wl_valE (v := .bool false) rfl (rf_move rfl) rfl ?_
        refine wl_guardT rfl rfl rfl rfl ?_
        refine wl_valE (v := .pointer (some ⟨s0, 0, none⟩)) rfl (rf_move rfl) rfl ?_
        refine wl_guardT rfl rfl rfl rfl ?_
        refine wl_valE (v := .bool false) rfl (rf_eqlPN Tryz.underlying26 rfl rfl rfl rfl) rfl ?_
        refine wl_guardT rfl rfl rfl rfl ?_
        refine wl_valE (v := .pointer (some ⟨rb0, 0, none⟩)) rfl (rf_move rfl) rfl ?_
        refine wl_guardT rfl rfl rfl rfl ?_
        refine wl_valE (v := .bool false) rfl (rf_eqlPN Tryz.underlying28 rfl rfl rfl rfl) rfl ?_
        refine wl_guardT rfl rfl rfl rfl ?_
        refine wl_valE (v := .bool false) rfl (rf_neqB Tryz.underlying4 rfl rfl rfl rfl) (congrArg Value.bool (by simp)) ?_
        refine wl_valE (v := .bool false) rfl (rf_pickF rfl rfl rfl rfl) rfl ?_
        refine wl_nil ?_
        refine thn ?_
        refine condF rfl rfl ?_
        refine skip_ ?_
        refine thn ?_
        refine seq_ ?_
        refine region_ ?_
        refine wl_valE (v := .int .i64 (1 : Int)) rfl (rf_move rfl) rfl ?_
        refine wl_valE (v := .pointer (some ⟨s0, 0, none⟩)) rfl (rf_move rfl) rfl ?_
        refine wl_valE (v := .pointer (some ⟨b8, 1, none⟩)) rfl (rf_indexAddrA Tryz.underlying27 ti26 rfl rfl rfl rfl (by omega) (by omega)) (by simp) ?_
        refine wl_storeH H35 3 (v := .pointer (some ⟨s0, 0, none⟩)) (A' := #[svP o0, .pointer (some ⟨s0, 0, none⟩)]) rfl rfl ti26 rfl rfl rfl rfl rfl (ltb rfl) rfl ?_
        intro w37 H37
        refine wl_nil ?_
        refine thn ?_
        refine region_ ?_
        refine wl_valE (v := .int .i64 (1 : Int)) rfl (rf_move rfl) rfl ?_
        refine wl_valE (v := .pointer (some ⟨rb0, 0, none⟩)) rfl (rf_move rfl) rfl ?_
        refine wl_valE (v := .pointer (some ⟨b9, 1, none⟩)) rfl (rf_indexAddrA Tryz.underlying29 ti28 rfl rfl rfl rfl (by omega) (by omega)) (by simp) ?_
        refine wl_storeH H37 4 (v := .pointer (some ⟨rb0, 0, none⟩)) (A' := #[rvP o0, .pointer (some ⟨rb0, 0, none⟩)]) rfl rfl ti28 rfl rfl rfl rfl rfl (ltb rfl) rfl ?_
        intro w38 H38
        try dsimp only [putsH, setH, List.cons_append, List.nil_append] at H38
        refine wl_nil ?_
        refine bln ?_
        refine thn ?_
        refine region_ ?_
        refine wl_valE (v := .int .i64 (1 : Int)) rfl (rf_move rfl) rfl ?_
        refine wl_valE (v := .int .i64 ((1 + 1 : Nat) : Int)) rfl (rf_add rfl rfl rfl rfl (IntWalk.i64_in _ (by omega))) rfl ?_
        refine wl_valE (v := .int .i64 ((1 + 1 : Nat) : Int)) rfl (rf_assign rfl) rfl ?_
        refine wl_nil ?_
        refine thn ?_
        have H39 := H38.fold [7, 8] (m := [stoH s0 (st0 mb cb), rfH rb0 (⟨mb, cb, [], 0⟩ : RS)]) rfl rfl
        try dsimp only [putsH, setH, List.cons_append, List.nil_append] at H39
        refine ⟨2 - 2, _, rfl, (by omega), _, 2, o0, (some ⟨s0, rb0, st0 mb cb, ⟨mb, cb, [], 0⟩⟩), upds_self ⟨rfl, rfl, rfl, rfl, rfl, trivial⟩, rfl, by omega, ⟨hrp.1, RelP.mk (rel0 hg.1 hg.2) (Int.le_refl _)⟩, ⟨fun h => by omega, fun h => by omega⟩, H39.pick' [0, 1, 2, 3, 4, 5, 7] rfl rfl⟩
      · obtain rfl : o1 = none := hz.2 (by omega)
        refine region_h (S := (fun wq => St w0 S0 [rdH encOpR 10 a n c qs] wq [blkH b7 #[.int .i64 ma, .int .i64 ca, .int .i64 mb, .int .i64 cb] 25])) mixedP ?_
        intro w40 hk40
        have H40 := HL0.keep hk40
        have hS40 : St w0 S0 [rdH encOpR 10 a n c qs] w40 [blkH b7 #[.int .i64 ma, .int .i64 ca, .int .i64 mb, .int .i64 cb] 25] := H40.pick' [2] rfl rfl
        refine wh_take (i := 0) (v := .int .i64 (1 : Int)) rfl (by kernel_rfl) (by kernel_rfl) (by kernel_rfl) hS40 rfl (fun wq hq => rf_move rfl) rfl ?_
        refine wh_take (i := 1) (v := .pointer (some ⟨b7, 2, none⟩)) rfl (by kernel_rfl) (by kernel_rfl) (by kernel_rfl) hS40 rfl (fun wq hq => rf_indexAddrA Tryz.underlying25 ti23 rfl rfl rfl rfl (by omega) (by omega)) (by simp) ?_
        refine wh_take (i := 2) (v := .pointer (some ⟨b7, 2, none⟩)) rfl (by kernel_rfl) (by kernel_rfl) (by kernel_rfl) hS40 rfl (fun wq hq => rf_fieldAddr Tryz.underlying23 rfl ti3 rfl rfl) rfl ?_
        refine wh_take (i := 3) (v := .int .i64 mb) rfl (by kernel_rfl) (by kernel_rfl) (by kernel_rfl) hS40 rfl (fun wq hq => rf_load Tryz.underlying3 rfl rfl rfl ((hq.blk 0 rfl).cell rfl)) rfl ?_
        refine wh_take (i := 4) (v := .int .i64 (1 : Int)) rfl (by kernel_rfl) (by kernel_rfl) (by kernel_rfl) hS40 rfl (fun wq hq => rf_move rfl) rfl ?_
        refine wh_take (i := 5) (v := .pointer (some ⟨b7, 2, none⟩)) rfl (by kernel_rfl) (by kernel_rfl) (by kernel_rfl) hS40 rfl (fun wq hq => rf_indexAddrA Tryz.underlying25 ti23 rfl rfl rfl rfl (by omega) (by omega)) (by simp) ?_
        refine wh_take (i := 6) (v := .pointer (some ⟨b7, 3, none⟩)) rfl (by kernel_rfl) (by kernel_rfl) (by kernel_rfl) hS40 rfl (fun wq hq => rf_fieldAddr Tryz.underlying23 rfl ti3 rfl rfl) rfl ?_
        refine wh_take (i := 7) (v := .int .i64 cb) rfl (by kernel_rfl) (by kernel_rfl) (by kernel_rfl) hS40 rfl (fun wq hq => rf_load Tryz.underlying3 rfl rfl rfl ((hq.blk 0 rfl).cell rfl)) rfl ?_
        refine wh_one (i := 8) (by kernel_rfl) rfl ?_
        refine wl_tr H40 rfl [] (newSbad_tr mb cb hg) rfl .nil (rf_call Tryz.call4 rfl rfl) rfl ?_
        rintro _ w41 _ ⟨rfl, rfl⟩ H41
        refine wl_nil ?_
        have hS42 : St w0 S0 [rdH encOpR 10 a n c qs] w41 [blkH b7 #[.int .i64 ma, .int .i64 ca, .int .i64 mb, .int .i64 cb] 25] := H41.pick' [2] rfl rfl
        refine wh_back hS42 ?_
        refine wh_take (i := 9) (v := .tuple #[.pointer none, .int .i64 (nerr mb)]) rfl (by kernel_rfl) (by kernel_rfl) (by kernel_rfl) hS42 rfl (fun wq hq => rf_move rfl) rfl ?_
        refine wh_take (i := 10) (v := .pointer none) rfl (by kernel_rfl) (by kernel_rfl) (by kernel_rfl) hS42 rfl (fun wq hq => rf_extract rfl rfl rfl) rfl ?_
        refine wh_take (i := 11) (v := .int .i64 (nerr mb)) rfl (by kernel_rfl) (by kernel_rfl) (by kernel_rfl) hS42 rfl (fun wq hq => rf_extract rfl rfl rfl) rfl ?_
        refine wh_take (i := 12) (v := .pointer none) rfl (by kernel_rfl) (by kernel_rfl) (by kernel_rfl) hS42 rfl (fun wq hq => rf_assign rfl) rfl ?_
        refine wh_take (i := 13) (v := .int .i64 (nerr mb)) rfl (by kernel_rfl) (by kernel_rfl) (by kernel_rfl) hS42 rfl (fun wq hq => rf_assign rfl) rfl ?_
        refine wh_done (by kernel_rfl) ?_
        refine thn ?_
        refine seq_ ?_
        refine region_h (S := (fun wq => St w0 S0 [rdH encOpR 10 a n c qs] wq [blkH b7 #[.int .i64 ma, .int .i64 ca, .int .i64 mb, .int .i64 cb] 25])) mixedP ?_
        intro w43 hk43
        have H43 := H41.keep hk43
        have hS43 : St w0 S0 [rdH encOpR 10 a n c qs] w43 [blkH b7 #[.int .i64 ma, .int .i64 ca, .int .i64 mb, .int .i64 cb] 25] := H43.pick' [2] rfl rfl
        refine wh_take (i := 0) (v := .int .i64 (1 : Int)) rfl (by kernel_rfl) (by kernel_rfl) (by kernel_rfl) hS43 rfl (fun wq hq => rf_move rfl) rfl ?_
        refine wh_take (i := 1) (v := .pointer (some ⟨b7, 2, none⟩)) rfl (by kernel_rfl) (by kernel_rfl) (by kernel_rfl) hS43 rfl (fun wq hq => rf_indexAddrA Tryz.underlying25 ti23 rfl rfl rfl rfl (by omega) (by omega)) (by simp) ?_
        refine wh_take (i := 2) (v := .pointer (some ⟨b7, 2, none⟩)) rfl (by kernel_rfl) (by kernel_rfl) (by kernel_rfl) hS43 rfl (fun wq hq => rf_fieldAddr Tryz.underlying23 rfl ti3 rfl rfl) rfl ?_
        refine wh_take (i := 3) (v := .int .i64 mb) rfl (by kernel_rfl) (by kernel_rfl) (by kernel_rfl) hS43 rfl (fun wq hq => rf_load Tryz.underlying3 rfl rfl rfl ((hq.blk 0 rfl).cell rfl)) rfl ?_
        refine wh_take (i := 4) (v := .int .i64 (1 : Int)) rfl (by kernel_rfl) (by kernel_rfl) (by kernel_rfl) hS43 rfl (fun wq hq => rf_move rfl) rfl ?_
        refine wh_take (i := 5) (v := .pointer (some ⟨b7, 2, none⟩)) rfl (by kernel_rfl) (by kernel_rfl) (by kernel_rfl) hS43 rfl (fun wq hq => rf_indexAddrA Tryz.underlying25 ti23 rfl rfl rfl rfl (by omega) (by omega)) (by simp) ?_
        refine wh_take (i := 6) (v := .pointer (some ⟨b7, 3, none⟩)) rfl (by kernel_rfl) (by kernel_rfl) (by kernel_rfl) hS43 rfl (fun wq hq => rf_fieldAddr Tryz.underlying23 rfl ti3 rfl rfl) rfl ?_
        refine wh_take (i := 7) (v := .int .i64 cb) rfl (by kernel_rfl) (by kernel_rfl) (by kernel_rfl) hS43 rfl (fun wq hq => rf_load Tryz.underlying3 rfl rfl rfl ((hq.blk 0 rfl).cell rfl)) rfl ?_
        refine wh_one (i := 8) (by kernel_rfl) rfl ?_
        refine wl_tr H43 rfl [] (new9bad_tr mb cb hg) rfl .nil (rf_call Tryz.call5 rfl rfl) rfl ?_
        rintro _ w44 _ ⟨rfl, rfl⟩ H44
        refine wl_nil ?_
        have hS45 : St w0 S0 [rdH encOpR 10 a n c qs] w44 [blkH b7 #[.int .i64 ma, .int .i64 ca, .int .i64 mb, .int .i64 cb] 25] := H44.pick' [2] rfl rfl
        refine wh_back hS45 ?_
        refine wh_take (i := 9) (v := .tuple #[.pointer none, .int .i64 (nerr mb)]) rfl (by kernel_rfl) (by kernel_rfl) (by kernel_rfl) hS45 rfl (fun wq hq => rf_move rfl) rfl ?_
        refine wh_take (i := 10) (v := .pointer none) rfl (by kernel_rfl) (by kernel_rfl) (by kernel_rfl) hS45 rfl (fun wq hq => rf_extract rfl rfl rfl) rfl ?_
        refine wh_take (i := 11) (v := .int .i64 (nerr mb)) rfl (by kernel_rfl) (by kernel_rfl) (by kernel_rfl) hS45 rfl (fun wq hq => rf_extract rfl rfl rfl) rfl ?_
        refine wh_take (i := 12) (v := .pointer none) rfl (by kernel_rfl) (by kernel_rfl) (by kernel_rfl) hS45 rfl (fun wq hq => rf_assign rfl) rfl ?_
        refine wh_take (i := 13) (v := .int .i64 (nerr mb)) rfl (by kernel_rfl) (by kernel_rfl) (by kernel_rfl) hS45 rfl (fun wq hq => rf_assign rfl) rfl ?_
        refine wh_done (by kernel_rfl) ?_
        refine thn ?_
        refine seq_ ?_
        refine seq_ ?_
        refine region_ ?_
        refine wl_valE (v := .int .i64 (nerr mb)) rfl (rf_move rfl) rfl ?_
        refine wl_valE (v := .int .i64 (nerr mb)) rfl (rf_move rfl) rfl ?_
        refine wl_valE (v := .bool false) rfl (rf_neq rfl rfl rfl rfl) (congrArg Value.bool (by simp)) ?_
        refine wl_valE (v := .bool false) rfl (rf_move rfl) rfl ?_
        refine wl_guardT rfl rfl rfl rfl ?_
        refine wl_valE (v := .pointer none) rfl (rf_move rfl) rfl ?_
        refine wl_guardT rfl rfl rfl rfl ?_
        refine wl_valE (v := .bool true) rfl (rf_eqlPN Tryz.underlying26 rfl rfl rfl rfl) rfl ?_
        refine wl_guardT rfl rfl rfl rfl ?_
        refine wl_valE (v := .pointer none) rfl (rf_move rfl) rfl ?_
        refine wl_guardT rfl rfl rfl rfl ?_
        refine wl_valE (v := .bool true) rfl (rf_eqlPN Tryz.underlying28 rfl rfl rfl rfl) rfl ?_
        refine wl_guardT rfl rfl rfl rfl ?_
        refine wl_valE (v := .bool false) rfl (rf_neqB Tryz.underlying4 rfl rfl rfl rfl) (congrArg Value.bool (by simp)) ?_
        refine wl_valE (v := .bool false) rfl (rf_pickF rfl rfl rfl rfl) rfl ?_
        refine wl_nil ?_
        refine thn ?_
        refine condF rfl rfl ?_
        refine skip_ ?_
        refine thn ?_
        refine seq_ ?_
        refine region_ ?_
        refine wl_valE (v := .int .i64 (1 : Int)) rfl (rf_move rfl) rfl ?_
        refine wl_valE (v := .pointer none) rfl (rf_move rfl) rfl ?_
        refine wl_valE (v := .pointer (some ⟨b8, 1, none⟩)) rfl (rf_indexAddrA Tryz.underlying27 ti26 rfl rfl rfl rfl (by omega) (by omega)) (by simp) ?_
        refine wl_storeH H44 3 (v := .pointer none) (A' := #[svP o0, .pointer none]) rfl rfl ti26 rfl rfl rfl rfl rfl (ltb rfl) rfl ?_
        intro w46 H46
        refine wl_nil ?_
        refine thn ?_
        refine region_ ?_
        refine wl_valE (v := .int .i64 (1 : Int)) rfl (rf_move rfl) rfl ?_
        refine wl_valE (v := .pointer none) rfl (rf_move rfl) rfl ?_
        refine wl_valE (v := .pointer (some ⟨b9, 1, none⟩)) rfl (rf_indexAddrA Tryz.underlying29 ti28 rfl rfl rfl rfl (by omega) (by omega)) (by simp) ?_
        refine wl_storeH H46 4 (v := .pointer none) (A' := #[rvP o0, .pointer none]) rfl rfl ti28 rfl rfl rfl rfl rfl (ltb rfl) rfl ?_
        intro w47 H47
        refine wl_nil ?_
        refine bln ?_
        refine thn ?_
        refine region_ ?_
        refine wl_valE (v := .int .i64 (1 : Int)) rfl (rf_move rfl) rfl ?_
        refine wl_valE (v := .int .i64 ((1 + 1 : Nat) : Int)) rfl (rf_add rfl rfl rfl rfl (IntWalk.i64_in _ (by omega))) rfl ?_
        refine wl_valE (v := .int .i64 ((1 + 1 : Nat) : Int)) rfl (rf_assign rfl) rfl ?_
        refine wl_nil ?_
        refine thn ?_
        refine ⟨2 - 2, _, rfl, (by omega), _, 2, o0, none, upds_self ⟨rfl, rfl, rfl, rfl, rfl, trivial⟩, rfl, by omega, hrp, ⟨fun h => by omega, fun h => by omega⟩, H47.pick' [0, 1, 2, 3, 4, 5, 6] rfl rfl⟩
    · have c28p := of_decide_eq_false c28
      refine exit_ ?_
      refine thx (thx (blx ?_))
      refine thn ?_
      refine seq_ ?_
      refine region_ ?_
      refine wl_valE (v := .agg #[.slice none 0 0, .slice none 0 0, .slice none 0 0, .slice none 0 0]) rfl (rf_build (offs := []) (places := #[(0, 1), (1, 1), (2, 1), (3, 1)]) Tryz.underlying39 ti39 (fun w => by kernel_rfl) .nil) rfl ?_
      refine wl_boxH HL0 (v := .agg #[.slice none 0 0, .slice none 0 0, .slice none 0 0, .slice none 0 0]) rfl rfl ?_
      intro kb w49 H49
      have H50 := H49.addNil encSv 1 81 (α := Sv)
      have H51 := H50.addNil encSv 1 85 (α := Sv)
      have H52 := H51.addNil encSv 1 81 (α := Sv)
      have H53 := H52.addNil encSv 1 81 (α := Sv)
      have H54 := H53.ssNil encVer 5 71
      have H55 := H54.ssNil encKey 2 41
      have H56 := H55.ssNil encVer 5 71
      have H57 := H56.ssNil encVer 5 71
      dsimp only [putsH, setH, List.cons_append, List.nil_append] at H57
      have H58 := bookH.close_ (kb := kb) (N := 0) H57 [7, 8, 9, 10, 11, 12, 13, 14, 15] ⟨⟨none, 0, 0⟩, [], [], ⟨none, 0, 0⟩, [], [], ⟨none, 0, 0⟩, [], [], ⟨none, 0, 0⟩, []⟩ bk0 rfl rfl
      try dsimp only [putsH, setH, List.cons_append, List.nil_append] at H58
      refine wl_valE (v := .pointer (some ⟨kb, 0, none⟩)) rfl (rf_assign rfl) rfl ?_
      refine wl_nil ?_
      refine thn ?_
      refine seq_ ?_
      refine seq_ ?_
      refine region_ ?_
      refine wl_valE (v := .int .i64 (0 : Int)) rfl (rf_assign rfl) rfl ?_
      refine wl_nil ?_
      refine thn ?_
      refine block_ ?_
      refine loop_ (fun qk_ qf_ qw_ => ∃ (g : Nat → Value) (i : Nat) (o0 o1 : Option PrR) (N : Nat), qf_ = upds g [(2, .slice a n c), (8, .pointer (some ⟨b8, 0, none⟩)), (9, .pointer (some ⟨b9, 0, none⟩)), (15, .pointer (some ⟨kb, 0, none⟩)), (16, .int .i64 ((i : Nat) : Int))] ∧ qk_ = n - i ∧ (i ≤ n) ∧ (RelP o0 ((i : Nat) : Int) ∧ RelP o1 ((i : Nat) : Int)) ∧ (N ≤ 2 * i) ∧ St w0 S0 [rdH encOpR 10 a n c qs] qw_ [blkH b1 #[.int .i64 ma, .int .i64 ca] 23, blkH b3 #[.int .i64 mb, .int .i64 cb] 23, blkH b7 #[.int .i64 ma, .int .i64 ca, .int .i64 mb, .int .i64 cb] 25, blkH b8 #[svP o0, svP o1] 27, blkH b9 #[rvP o0, rvP o1] 29, prH o0, prH o1, bookH kb N]) (n - 0) ?_ ?_
      · refine ⟨_, 0, o0, o1, 0, upds_self ⟨rfl, rfl, rfl, rfl, rfl, trivial⟩, rfl, Nat.zero_le _, hrp, Nat.le_refl _, H58.pick' [0, 1, 2, 3, 4, 5, 6, 7] rfl rfl⟩
      · rintro lk1 _ wl1 ⟨gl1, i, o0, o1, N, rfl, hlk1, hi, hrp, hN, HL1⟩
        refine seq_ ?_
        refine seq_ ?_
        refine region_ ?_
        refine wl_valE (v := .int .i64 ((i : Nat) : Int)) rfl (rf_move rfl) rfl ?_
        refine wl_valE (v := .slice a n c) rfl (rf_move rfl) rfl ?_
        refine wl_valE (v := .int .i64 ((n : Nat) : Int)) rfl (rf_len_slice Tryz.underlying24 rfl rfl) rfl ?_
        refine wl_valE (v := .bool (decide (((i : Nat) : Int) < ((n : Nat) : Int)))) rfl (rf_lss rfl rfl rfl rfl) rfl ?_
        refine wl_nil ?_
        refine thn ?_
        refine cond_ (t := decide (((i : Nat) : Int) < ((n : Nat) : Int))) rfl rfl (fun c76 => ?_) (fun c76 => ?_)
        · have c76p := of_decide_eq_true c76
          refine skip_ ?_
          refine thn ?_
          refine seq_ ?_
          refine block_ ?_
          refine seq_ ?_
          have hn59 := rd_len (HL1.rdR 0 Le.rfl)
          obtain ⟨q, hq⟩ : ∃ q_, qs[i]? = some q_ := ⟨_, List.getElem?_eq_getElem (by omega)⟩
          refine region_ ?_
          refine wl_valE (v := .slice a n c) rfl (rf_move rfl) rfl ?_
          refine wl_valE (v := .int .i64 ((i : Nat) : Int)) rfl (rf_move rfl) rfl ?_
          refine wl_valE (v := .pointer (some ⟨ab a, ao a + i * 10, none⟩)) rfl (rf_indexAddrH Tryz.underlying24 ti45 rfl rfl rfl rfl (by omega) (by omega) (HL1.rdR 0 Le.rfl)) rfl ?_
          refine wl_valE (v := .agg #[.int .i64 q.kind, .int .i64 q.key.table, .int .i64 q.key.row, .int .i64 q.batch, .int .i64 q.index, .int .i64 q.v, .int .i64 q.n, .bool q.cell.is_, .int .i64 q.cell.value, .bool q.two]) rfl (rf_loadAgg (cs := [.int .i64 q.kind, .int .i64 q.key.table, .int .i64 q.key.row, .int .i64 q.batch, .int .i64 q.index, .int .i64 q.v, .int .i64 q.n, .bool q.cell.is_, .int .i64 q.cell.value, .bool q.two]) Tryz.underlying45 rfl ti45 rfl rfl (el_sub' (rd_el (HL1.rdR 0 Le.rfl) hq) 0 10 rfl) rfl) rfl ?_
          refine wl_allocH HL1 ti45 ?_
          intro bo w61 H61
          refine wl_storeAggH H61 8 (o := 0) (cs := [.int .i64 q.kind, .int .i64 q.key.table, .int .i64 q.key.row, .int .i64 q.batch, .int .i64 q.index, .int .i64 q.v, .int .i64 q.n, .bool q.cell.is_, .int .i64 q.cell.value, .bool q.two]) (A' := #[.int .i64 q.kind, .int .i64 q.key.table, .int .i64 q.key.row, .int .i64 q.batch, .int .i64 q.index, .int .i64 q.v, .int .i64 q.n, .bool q.cell.is_, .int .i64 q.cell.value, .bool q.two]) rfl rfl ti45 rfl rfl rfl rfl rfl oneAll (leb rfl) rfl ?_
          intro w62 H62
          refine wl_nil ?_
          refine thn ?_
          refine seq_ ?_
          refine region_ ?_
          refine wl_valE (v := .int .i64 (0 : Int)) rfl (rf_assign rfl) rfl ?_
          refine wl_nil ?_
          refine thn ?_
          refine seq_ ?_
          refine seq_ ?_
          refine region_ ?_
          refine wl_valE (v := .pointer (some ⟨bo, 9, none⟩)) rfl (rf_fieldAddr Tryz.underlying45 rfl ti4 rfl rfl) rfl ?_
          refine wl_valE (v := .bool q.two) rfl (rf_load Tryz.underlying4 rfl rfl rfl ((H62.blk 8 rfl).cell rfl)) rfl ?_
          refine wl_nil ?_
          refine thn ?_
          refine cond_ (t := q.two) rfl rfl (fun c84 => ?_) (fun c84 => ?_)
          · refine region_ ?_
            refine wl_valE (v := .int .i64 (1 : Int)) rfl (rf_assign rfl) rfl ?_
            refine wl_nil ?_
            refine thn ?_
            refine seq_ ?_
            refine seq_ ?_
            refine region_ ?_
            refine wl_valE (v := .int .i64 (1 : Int)) rfl (rf_move rfl) rfl ?_
            refine wl_valE (v := .pointer (some ⟨b8, 1, none⟩)) rfl (rf_indexAddrA Tryz.underlying27 ti26 rfl rfl rfl rfl (by omega) (by omega)) (by simp) ?_
            refine wl_valE (v := svP o1) rfl (rf_load Tryz.underlying26 rfl rfl rfl ((H62.blk 3 rfl).cell rfl)) rfl ?_
            refine wl_valE (v := .bool o1.isNone) rfl (rf_eqlPN Tryz.underlying26 rfl rfl rfl rfl) (by cases o1 <;> rfl) ?_
            refine wl_nil ?_
            refine thn ?_
            refine cond_ (t := o1.isNone) rfl rfl (fun c88 => ?_) (fun c88 => ?_)
            · refine exit_ ?_
              refine thx (blx ?_)
              refine thn ?_
              refine region_ ?_
              refine wl_valE (v := .int .i64 ((i : Nat) : Int)) rfl (rf_move rfl) rfl ?_
              refine wl_valE (v := .int .i64 ((i + 1 : Nat) : Int)) rfl (rf_add rfl rfl rfl rfl (IntWalk.i64_in _ (by omega))) rfl ?_
              refine wl_valE (v := .int .i64 ((i + 1 : Nat) : Int)) rfl (rf_assign rfl) rfl ?_
              refine wl_nil ?_
              refine thn ?_
              refine ⟨n - (i + 1), _, rfl, (by omega), _, i + 1, o0, o1, N, upds_self ⟨rfl, rfl, rfl, rfl, rfl, trivial⟩, rfl, by omega, ⟨hrp.1.mono (by omega), hrp.2.mono (by omega)⟩, by omega, H62.pick' [0, 1, 2, 3, 4, 5, 6, 7] rfl rfl⟩
            · obtain ⟨p, rfl⟩ : ∃ p, o1 = some p := by
                cases o1 with
                | none => cases c88
                | some p => exact ⟨p, rfl⟩
              have H63 := H62.flat 6 (m := [stoH p.s p.st, rfH p.rb p.x]) rfl rfl
              try dsimp only [putsH, setH, List.cons_append, List.nil_append] at H63
              have hr := (hrp.2 p rfl).1
              have hpl := (hrp.2 p rfl).2
              have hal : p.x.all.length ≤ 65536 := by have := hr.lroom; have := hr.cc; omega
              have hlx := hr.last
              have hl0 := hr.inv.last0
              try dsimp only [putsH, setH, List.cons_append, List.nil_append] at H63
              refine skip_ ?_
              refine thn ?_
              refine seq_ ?_
              refine region_h (S := (fun wq => St w0 S0 [rdH encOpR 10 a n c qs] wq [blkH b8 #[svP o0, .pointer (some ⟨p.s, 0, none⟩)] 27, blkH b9 #[rvP o0, .pointer (some ⟨p.rb, 0, none⟩)] 29, blkH bo #[.int .i64 q.kind, .int .i64 q.key.table, .int .i64 q.key.row, .int .i64 q.batch, .int .i64 q.index, .int .i64 q.v, .int .i64 q.n, .bool q.cell.is_, .int .i64 q.cell.value, .bool q.two] 45])) mixedP ?_
              intro w64 hk64
              have H64 := H63.keep hk64
              have hS64 : St w0 S0 [rdH encOpR 10 a n c qs] w64 [blkH b8 #[svP o0, .pointer (some ⟨p.s, 0, none⟩)] 27, blkH b9 #[rvP o0, .pointer (some ⟨p.rb, 0, none⟩)] 29, blkH bo #[.int .i64 q.kind, .int .i64 q.key.table, .int .i64 q.key.row, .int .i64 q.batch, .int .i64 q.index, .int .i64 q.v, .int .i64 q.n, .bool q.cell.is_, .int .i64 q.cell.value, .bool q.two] 45] := H64.pick' [3, 4, 8] rfl rfl
              refine wh_take (i := 0) (v := .int .i64 (1 : Int)) rfl (by kernel_rfl) (by kernel_rfl) (by kernel_rfl) hS64 rfl (fun wq hq => rf_move rfl) rfl ?_
              refine wh_take (i := 1) (v := .pointer (some ⟨b8, 1, none⟩)) rfl (by kernel_rfl) (by kernel_rfl) (by kernel_rfl) hS64 rfl (fun wq hq => rf_indexAddrA Tryz.underlying27 ti26 rfl rfl rfl rfl (by omega) (by omega)) (by simp) ?_
              refine wh_take (i := 2) (v := .pointer (some ⟨p.s, 0, none⟩)) rfl (by kernel_rfl) (by kernel_rfl) (by kernel_rfl) hS64 rfl (fun wq hq => rf_load Tryz.underlying26 rfl rfl rfl ((hq.blk 0 rfl).cell rfl)) rfl ?_
              refine wh_take (i := 3) (v := .int .i64 (1 : Int)) rfl (by kernel_rfl) (by kernel_rfl) (by kernel_rfl) hS64 rfl (fun wq hq => rf_move rfl) rfl ?_
              refine wh_take (i := 4) (v := .pointer (some ⟨b9, 1, none⟩)) rfl (by kernel_rfl) (by kernel_rfl) (by kernel_rfl) hS64 rfl (fun wq hq => rf_indexAddrA Tryz.underlying29 ti28 rfl rfl rfl rfl (by omega) (by omega)) (by simp) ?_
              refine wh_take (i := 5) (v := .pointer (some ⟨p.rb, 0, none⟩)) rfl (by kernel_rfl) (by kernel_rfl) (by kernel_rfl) hS64 rfl (fun wq hq => rf_load Tryz.underlying28 rfl rfl rfl ((hq.blk 1 rfl).cell rfl)) rfl ?_
              refine wh_take (i := 6) (v := .agg #[.int .i64 q.kind, .int .i64 q.key.table, .int .i64 q.key.row, .int .i64 q.batch, .int .i64 q.index, .int .i64 q.v, .int .i64 q.n, .bool q.cell.is_, .int .i64 q.cell.value, .bool q.two]) rfl (by kernel_rfl) (by kernel_rfl) (by kernel_rfl) hS64 rfl (fun wq hq => rf_loadBlk Tryz.underlying45 rfl ti45 rfl rfl (hq.blk 2 rfl) (leb rfl)) rfl ?_
              refine wh_one (i := 7) (by kernel_rfl) rfl ?_
              refine wl_tr H64 rfl [6, 9] (changed_tr p.s p.rb p.st p.x q hr (by omega)) rfl .nil (rf_call Tryz.call6 rfl rfl) rfl ?_
              rintro _ w65 _ ⟨st2, x2, hr2, hl2, rfl, rfl⟩ H65
              refine wl_nil ?_
              have hS66 : St w0 S0 [rdH encOpR 10 a n c qs] w65 [blkH b8 #[svP o0, .pointer (some ⟨p.s, 0, none⟩)] 27, blkH b9 #[rvP o0, .pointer (some ⟨p.rb, 0, none⟩)] 29, blkH bo #[.int .i64 q.kind, .int .i64 q.key.table, .int .i64 q.key.row, .int .i64 q.batch, .int .i64 q.index, .int .i64 q.v, .int .i64 q.n, .bool q.cell.is_, .int .i64 q.cell.value, .bool q.two] 45] := H65.pick' [3, 4, 8] rfl rfl
              refine wh_back hS66 ?_
              refine wh_take (i := 8) (v := .bool false) rfl (by kernel_rfl) (by kernel_rfl) (by kernel_rfl) hS66 rfl (fun wq hq => rf_not rfl rfl) rfl ?_
              refine wh_take (i := 9) (v := .bool false) rfl (by kernel_rfl) (by kernel_rfl) (by kernel_rfl) hS66 rfl (fun wq hq => rf_move rfl) rfl ?_
              refine wh_takeG (i := 10) (v := .int .i64 (1 : Int)) rfl (by kernel_rfl) (by kernel_rfl) (by kernel_rfl) hS66 rfl rfl rfl rfl rfl (fun wq hq => rf_move rfl) rfl ?_
              refine wh_takeG (i := 11) (v := .pointer (some ⟨b8, 1, none⟩)) rfl (by kernel_rfl) (by kernel_rfl) (by kernel_rfl) hS66 rfl rfl rfl rfl rfl (fun wq hq => rf_indexAddrA Tryz.underlying27 ti26 rfl rfl rfl rfl (by omega) (by omega)) (by simp) ?_
              refine wh_takeG (i := 12) (v := .pointer (some ⟨p.s, 0, none⟩)) rfl (by kernel_rfl) (by kernel_rfl) (by kernel_rfl) hS66 rfl rfl rfl rfl rfl (fun wq hq => rf_load Tryz.underlying26 rfl rfl rfl ((hq.blk 0 rfl).cell rfl)) rfl ?_
              refine wh_takeG (i := 13) (v := .int .i64 (1 : Int)) rfl (by kernel_rfl) (by kernel_rfl) (by kernel_rfl) hS66 rfl rfl rfl rfl rfl (fun wq hq => rf_move rfl) rfl ?_
              refine wh_takeG (i := 14) (v := .pointer (some ⟨b9, 1, none⟩)) rfl (by kernel_rfl) (by kernel_rfl) (by kernel_rfl) hS66 rfl rfl rfl rfl rfl (fun wq hq => rf_indexAddrA Tryz.underlying29 ti28 rfl rfl rfl rfl (by omega) (by omega)) (by simp) ?_
              refine wh_takeG (i := 15) (v := .pointer (some ⟨p.rb, 0, none⟩)) rfl (by kernel_rfl) (by kernel_rfl) (by kernel_rfl) hS66 rfl rfl rfl rfl rfl (fun wq hq => rf_load Tryz.underlying28 rfl rfl rfl ((hq.blk 1 rfl).cell rfl)) rfl ?_
              refine wh_takeG (i := 16) (v := .agg #[.int .i64 q.kind, .int .i64 q.key.table, .int .i64 q.key.row, .int .i64 q.batch, .int .i64 q.index, .int .i64 q.v, .int .i64 q.n, .bool q.cell.is_, .int .i64 q.cell.value, .bool q.two]) rfl (by kernel_rfl) (by kernel_rfl) (by kernel_rfl) hS66 rfl rfl rfl rfl rfl (fun wq hq => rf_loadBlk Tryz.underlying45 rfl ti45 rfl rfl (hq.blk 2 rfl) (leb rfl)) rfl ?_
              refine wh_takeG (i := 17) (v := .pointer (some ⟨kb, 0, none⟩)) rfl (by kernel_rfl) (by kernel_rfl) (by kernel_rfl) hS66 rfl rfl rfl rfl rfl (fun wq hq => rf_move rfl) rfl ?_
              refine wh_one (i := 18) (by kernel_rfl) rfl ?_
              refine wl_guardT rfl rfl rfl rfl ?_
              refine wl_tr H65 rfl [7] (asked_tr p.s p.rb kb N st2 x2 q hr2 (by omega) (by omega)) rfl (.own 6 rfl Le.rfl (.own 9 rfl Le.rfl .nil)) (rf_call Tryz.call7 rfl rfl) rfl ?_
              rintro _ w67 _ ⟨rfl, rfl⟩ H67
              refine wl_nil ?_
              have hS68 : St w0 S0 [rdH encOpR 10 a n c qs] w67 [blkH b8 #[svP o0, .pointer (some ⟨p.s, 0, none⟩)] 27, blkH b9 #[rvP o0, .pointer (some ⟨p.rb, 0, none⟩)] 29, blkH bo #[.int .i64 q.kind, .int .i64 q.key.table, .int .i64 q.key.row, .int .i64 q.batch, .int .i64 q.index, .int .i64 q.v, .int .i64 q.n, .bool q.cell.is_, .int .i64 q.cell.value, .bool q.two] 45] := H67.pick' [3, 4, 8] rfl rfl
              refine wh_back hS68 ?_
              refine wh_takeG (i := 19) (v := .bool false) rfl (by kernel_rfl) (by kernel_rfl) (by kernel_rfl) hS68 rfl rfl rfl rfl rfl (fun wq hq => rf_not rfl rfl) rfl ?_
              refine wh_take (i := 20) (v := .bool false) rfl (by kernel_rfl) (by kernel_rfl) (by kernel_rfl) hS68 rfl (fun wq hq => rf_pickF rfl rfl rfl rfl) rfl ?_
              refine wh_done (by kernel_rfl) ?_
              refine thn ?_
              refine condF rfl rfl ?_
              refine skip_ ?_
              refine bln ?_
              refine thn ?_
              refine region_ ?_
              refine wl_valE (v := .int .i64 ((i : Nat) : Int)) rfl (rf_move rfl) rfl ?_
              refine wl_valE (v := .int .i64 ((i + 1 : Nat) : Int)) rfl (rf_add rfl rfl rfl rfl (IntWalk.i64_in _ (by omega))) rfl ?_
              refine wl_valE (v := .int .i64 ((i + 1 : Nat) : Int)) rfl (rf_assign rfl) rfl ?_
              refine wl_nil ?_
              refine thn ?_
              have H69 := H67.fold [6, 9] (m := [stoH p.s st2, rfH p.rb x2]) rfl rfl
              try dsimp only [putsH, setH, List.cons_append, List.nil_append] at H69
              try dsimp only [putsH, setH, List.cons_append, List.nil_append] at H69
              refine ⟨n - (i + 1), _, rfl, (by omega), _, i + 1, o0, (some ⟨p.s, p.rb, st2, x2⟩), N + 2, upds_self ⟨rfl, rfl, rfl, rfl, rfl, trivial⟩, rfl, by omega, ⟨hrp.1.mono (by omega), RelP.mk hr2 (by omega)⟩, by omega, H69.pick' [0, 1, 2, 3, 4, 5, 6, 7] rfl rfl⟩
          · refine skip_ ?_
            refine thn ?_
            refine seq_ ?_
            refine seq_ ?_
            refine region_ ?_
            refine wl_valE (v := .int .i64 (0 : Int)) rfl (rf_move rfl) rfl ?_
            refine wl_valE (v := .pointer (some ⟨b8, 0, none⟩)) rfl (rf_indexAddrA Tryz.underlying27 ti26 rfl rfl rfl rfl (by omega) (by omega)) (by simp) ?_
            refine wl_valE (v := svP o0) rfl (rf_load Tryz.underlying26 rfl rfl rfl ((H62.blk 3 rfl).cell rfl)) rfl ?_
            refine wl_valE (v := .bool o0.isNone) rfl (rf_eqlPN Tryz.underlying26 rfl rfl rfl rfl) (by cases o0 <;> rfl) ?_
            refine wl_nil ?_
            refine thn ?_
            refine cond_ (t := o0.isNone) rfl rfl (fun c88 => ?_) (fun c88 => ?_)
            · refine exit_ ?_
              refine thx (blx ?_)
              refine thn ?_
              refine region_ ?_
              refine wl_valE (v := .int .i64 ((i : Nat) : Int)) rfl (rf_move rfl) rfl ?_
              refine wl_valE (v := .int .i64 ((i + 1 : Nat) : Int)) rfl (rf_add rfl rfl rfl rfl (IntWalk.i64_in _ (by omega))) rfl ?_
              refine wl_valE (v := .int .i64 ((i + 1 : Nat) : Int)) rfl (rf_assign rfl) rfl ?_
              refine wl_nil ?_
              refine thn ?_
              refine ⟨n - (i + 1), _, rfl, (by omega), _, i + 1, o0, o1, N, upds_self ⟨rfl, rfl, rfl, rfl, rfl, trivial⟩, rfl, by omega, ⟨hrp.1.mono (by omega), hrp.2.mono (by omega)⟩, by omega, H62.pick' [0, 1, 2, 3, 4, 5, 6, 7] rfl rfl⟩
            · obtain ⟨p, rfl⟩ : ∃ p, o0 = some p := by
                cases o0 with
                | none => cases c88
                | some p => exact ⟨p, rfl⟩
              have H70 := H62.flat 5 (m := [stoH p.s p.st, rfH p.rb p.x]) rfl rfl
              try dsimp only [putsH, setH, List.cons_append, List.nil_append] at H70
              have hr := (hrp.1 p rfl).1
              have hpl := (hrp.1 p rfl).2
              have hal : p.x.all.length ≤ 65536 := by have := hr.lroom; have := hr.cc; omega
              have hlx := hr.last
              have hl0 := hr.inv.last0
              try dsimp only [putsH, setH, List.cons_append, List.nil_append] at H70
              refine skip_ ?_
              refine thn ?_
              refine seq_ ?_
              refine region_h (S := (fun wq => St w0 S0 [rdH encOpR 10 a n c qs] wq [blkH b8 #[.pointer (some ⟨p.s, 0, none⟩), svP o1] 27, blkH b9 #[.pointer (some ⟨p.rb, 0, none⟩), rvP o1] 29, blkH bo #[.int .i64 q.kind, .int .i64 q.key.table, .int .i64 q.key.row, .int .i64 q.batch, .int .i64 q.index, .int .i64 q.v, .int .i64 q.n, .bool q.cell.is_, .int .i64 q.cell.value, .bool q.two] 45])) mixedP ?_
              intro w71 hk71
              have H71 := H70.keep hk71
              have hS71 : St w0 S0 [rdH encOpR 10 a n c qs] w71 [blkH b8 #[.pointer (some ⟨p.s, 0, none⟩), svP o1] 27, blkH b9 #[.pointer (some ⟨p.rb, 0, none⟩), rvP o1] 29, blkH bo #[.int .i64 q.kind, .int .i64 q.key.table, .int .i64 q.key.row, .int .i64 q.batch, .int .i64 q.index, .int .i64 q.v, .int .i64 q.n, .bool q.cell.is_, .int .i64 q.cell.value, .bool q.two] 45] := H71.pick' [3, 4, 8] rfl rfl
              refine wh_take (i := 0) (v := .int .i64 (0 : Int)) rfl (by kernel_rfl) (by kernel_rfl) (by kernel_rfl) hS71 rfl (fun wq hq => rf_move rfl) rfl ?_
              refine wh_take (i := 1) (v := .pointer (some ⟨b8, 0, none⟩)) rfl (by kernel_rfl) (by kernel_rfl) (by kernel_rfl) hS71 rfl (fun wq hq => rf_indexAddrA Tryz.underlying27 ti26 rfl rfl rfl rfl (by omega) (by omega)) (by simp) ?_
              refine wh_take (i := 2) (v := .pointer (some ⟨p.s, 0, none⟩)) rfl (by kernel_rfl) (by kernel_rfl) (by kernel_rfl) hS71 rfl (fun wq hq => rf_load Tryz.underlying26 rfl rfl rfl ((hq.blk 0 rfl).cell rfl)) rfl ?_
              refine wh_take (i := 3) (v := .int .i64 (0 : Int)) rfl (by kernel_rfl) (by kernel_rfl) (by kernel_rfl) hS71 rfl (fun wq hq => rf_move rfl) rfl ?_
              refine wh_take (i := 4) (v := .pointer (some ⟨b9, 0, none⟩)) rfl (by kernel_rfl) (by kernel_rfl) (by kernel_rfl) hS71 rfl (fun wq hq => rf_indexAddrA Tryz.underlying29 ti28 rfl rfl rfl rfl (by omega) (by omega)) (by simp) ?_
              refine wh_take (i := 5) (v := .pointer (some ⟨p.rb, 0, none⟩)) rfl (by kernel_rfl) (by kernel_rfl) (by kernel_rfl) hS71 rfl (fun wq hq => rf_load Tryz.underlying28 rfl rfl rfl ((hq.blk 1 rfl).cell rfl)) rfl ?_
              refine wh_take (i := 6) (v := .agg #[.int .i64 q.kind, .int .i64 q.key.table, .int .i64 q.key.row, .int .i64 q.batch, .int .i64 q.index, .int .i64 q.v, .int .i64 q.n, .bool q.cell.is_, .int .i64 q.cell.value, .bool q.two]) rfl (by kernel_rfl) (by kernel_rfl) (by kernel_rfl) hS71 rfl (fun wq hq => rf_loadBlk Tryz.underlying45 rfl ti45 rfl rfl (hq.blk 2 rfl) (leb rfl)) rfl ?_
              refine wh_one (i := 7) (by kernel_rfl) rfl ?_
              refine wl_tr H71 rfl [5, 9] (changed_tr p.s p.rb p.st p.x q hr (by omega)) rfl .nil (rf_call Tryz.call6 rfl rfl) rfl ?_
              rintro _ w72 _ ⟨st2, x2, hr2, hl2, rfl, rfl⟩ H72
              refine wl_nil ?_
              have hS73 : St w0 S0 [rdH encOpR 10 a n c qs] w72 [blkH b8 #[.pointer (some ⟨p.s, 0, none⟩), svP o1] 27, blkH b9 #[.pointer (some ⟨p.rb, 0, none⟩), rvP o1] 29, blkH bo #[.int .i64 q.kind, .int .i64 q.key.table, .int .i64 q.key.row, .int .i64 q.batch, .int .i64 q.index, .int .i64 q.v, .int .i64 q.n, .bool q.cell.is_, .int .i64 q.cell.value, .bool q.two] 45] := H72.pick' [3, 4, 8] rfl rfl
              refine wh_back hS73 ?_
              refine wh_take (i := 8) (v := .bool false) rfl (by kernel_rfl) (by kernel_rfl) (by kernel_rfl) hS73 rfl (fun wq hq => rf_not rfl rfl) rfl ?_
              refine wh_take (i := 9) (v := .bool false) rfl (by kernel_rfl) (by kernel_rfl) (by kernel_rfl) hS73 rfl (fun wq hq => rf_move rfl) rfl ?_
              refine wh_takeG (i := 10) (v := .int .i64 (0 : Int)) rfl (by kernel_rfl) (by kernel_rfl) (by kernel_rfl) hS73 rfl rfl rfl rfl rfl (fun wq hq => rf_move rfl) rfl ?_
              refine wh_takeG (i := 11) (v := .pointer (some ⟨b8, 0, none⟩)) rfl (by kernel_rfl) (by kernel_rfl) (by kernel_rfl) hS73 rfl rfl rfl rfl rfl (fun wq hq => rf_indexAddrA Tryz.underlying27 ti26 rfl rfl rfl rfl (by omega) (by omega)) (by simp) ?_
              refine wh_takeG (i := 12) (v := .pointer (some ⟨p.s, 0, none⟩)) rfl (by kernel_rfl) (by kernel_rfl) (by kernel_rfl) hS73 rfl rfl rfl rfl rfl (fun wq hq => rf_load Tryz.underlying26 rfl rfl rfl ((hq.blk 0 rfl).cell rfl)) rfl ?_
              refine wh_takeG (i := 13) (v := .int .i64 (0 : Int)) rfl (by kernel_rfl) (by kernel_rfl) (by kernel_rfl) hS73 rfl rfl rfl rfl rfl (fun wq hq => rf_move rfl) rfl ?_
              refine wh_takeG (i := 14) (v := .pointer (some ⟨b9, 0, none⟩)) rfl (by kernel_rfl) (by kernel_rfl) (by kernel_rfl) hS73 rfl rfl rfl rfl rfl (fun wq hq => rf_indexAddrA Tryz.underlying29 ti28 rfl rfl rfl rfl (by omega) (by omega)) (by simp) ?_
              refine wh_takeG (i := 15) (v := .pointer (some ⟨p.rb, 0, none⟩)) rfl (by kernel_rfl) (by kernel_rfl) (by kernel_rfl) hS73 rfl rfl rfl rfl rfl (fun wq hq => rf_load Tryz.underlying28 rfl rfl rfl ((hq.blk 1 rfl).cell rfl)) rfl ?_
              refine wh_takeG (i := 16) (v := .agg #[.int .i64 q.kind, .int .i64 q.key.table, .int .i64 q.key.row, .int .i64 q.batch, .int .i64 q.index, .int .i64 q.v, .int .i64 q.n, .bool q.cell.is_, .int .i64 q.cell.value, .bool q.two]) rfl (by kernel_rfl) (by kernel_rfl) (by kernel_rfl) hS73 rfl rfl rfl rfl rfl (fun wq hq => rf_loadBlk Tryz.underlying45 rfl ti45 rfl rfl (hq.blk 2 rfl) (leb rfl)) rfl ?_
              refine wh_takeG (i := 17) (v := .pointer (some ⟨kb, 0, none⟩)) rfl (by kernel_rfl) (by kernel_rfl) (by kernel_rfl) hS73 rfl rfl rfl rfl rfl (fun wq hq => rf_move rfl) rfl ?_
              refine wh_one (i := 18) (by kernel_rfl) rfl ?_
              refine wl_guardT rfl rfl rfl rfl ?_
              refine wl_tr H72 rfl [7] (asked_tr p.s p.rb kb N st2 x2 q hr2 (by omega) (by omega)) rfl (.own 5 rfl Le.rfl (.own 9 rfl Le.rfl .nil)) (rf_call Tryz.call7 rfl rfl) rfl ?_
              rintro _ w74 _ ⟨rfl, rfl⟩ H74
              refine wl_nil ?_
              have hS75 : St w0 S0 [rdH encOpR 10 a n c qs] w74 [blkH b8 #[.pointer (some ⟨p.s, 0, none⟩), svP o1] 27, blkH b9 #[.pointer (some ⟨p.rb, 0, none⟩), rvP o1] 29, blkH bo #[.int .i64 q.kind, .int .i64 q.key.table, .int .i64 q.key.row, .int .i64 q.batch, .int .i64 q.index, .int .i64 q.v, .int .i64 q.n, .bool q.cell.is_, .int .i64 q.cell.value, .bool q.two] 45] := H74.pick' [3, 4, 8] rfl rfl
              refine wh_back hS75 ?_
              refine wh_takeG (i := 19) (v := .bool false) rfl (by kernel_rfl) (by kernel_rfl) (by kernel_rfl) hS75 rfl rfl rfl rfl rfl (fun wq hq => rf_not rfl rfl) rfl ?_
              refine wh_take (i := 20) (v := .bool false) rfl (by kernel_rfl) (by kernel_rfl) (by kernel_rfl) hS75 rfl (fun wq hq => rf_pickF rfl rfl rfl rfl) rfl ?_
              refine wh_done (by kernel_rfl) ?_
              refine thn ?_
              refine condF rfl rfl ?_
              refine skip_ ?_
              refine bln ?_
              refine thn ?_
              refine region_ ?_
              refine wl_valE (v := .int .i64 ((i : Nat) : Int)) rfl (rf_move rfl) rfl ?_
              refine wl_valE (v := .int .i64 ((i + 1 : Nat) : Int)) rfl (rf_add rfl rfl rfl rfl (IntWalk.i64_in _ (by omega))) rfl ?_
              refine wl_valE (v := .int .i64 ((i + 1 : Nat) : Int)) rfl (rf_assign rfl) rfl ?_
              refine wl_nil ?_
              refine thn ?_
              have H76 := H74.fold [5, 9] (m := [stoH p.s st2, rfH p.rb x2]) rfl rfl
              try dsimp only [putsH, setH, List.cons_append, List.nil_append] at H76
              try dsimp only [putsH, setH, List.cons_append, List.nil_append] at H76
              refine ⟨n - (i + 1), _, rfl, (by omega), _, i + 1, (some ⟨p.s, p.rb, st2, x2⟩), o1, N + 2, upds_self ⟨rfl, rfl, rfl, rfl, rfl, trivial⟩, rfl, by omega, ⟨RelP.mk hr2 (by omega), hrp.2.mono (by omega)⟩, by omega, H76.pick' [0, 1, 2, 3, 4, 5, 6, 7] rfl rfl⟩
        · have c76p := of_decide_eq_false c76
          refine exit_ ?_
          refine thx (thx (blx ?_))
          refine thn ?_
          refine seq_ ?_
          refine seq_ ?_
          refine region_ ?_
          refine wl_valE (v := .int .i64 (0 : Int)) rfl (rf_assign rfl) rfl ?_
          refine wl_nil ?_
          refine thn ?_
          refine block_ ?_
          obtain rfl : n = i := by omega
          refine loop_ (fun qk_ qf_ qw_ => ∃ (g : Nat → Value) (t : Nat) (M : Nat), qf_ = upds g [(2, .slice a n c), (8, .pointer (some ⟨b8, 0, none⟩)), (9, .pointer (some ⟨b9, 0, none⟩)), (15, .pointer (some ⟨kb, 0, none⟩)), (19, .int .i64 ((t : Nat) : Int))] ∧ qk_ = 2 - t ∧ (t ≤ 2) ∧ (M ≤ 2097152 + 20000000 * t) ∧ St w0 S0 [rdH encOpR 10 a n c qs] qw_ [blkH b1 #[.int .i64 ma, .int .i64 ca] 23, blkH b3 #[.int .i64 mb, .int .i64 cb] 23, blkH b7 #[.int .i64 ma, .int .i64 ca, .int .i64 mb, .int .i64 cb] 25, blkH b8 #[svP o0, svP o1] 27, blkH b9 #[rvP o0, rvP o1] 29, prH o0, prH o1, bookH kb M]) (2 - 0) ?_ ?_
          · refine ⟨_, 0, N, upds_self ⟨rfl, rfl, rfl, rfl, rfl, trivial⟩, rfl, Nat.zero_le _, by omega, HL1.pick' [0, 1, 2, 3, 4, 5, 6, 7] rfl rfl⟩
          · rintro lk2 _ wl2 ⟨gl2, t, M, rfl, hlk2, ht, hM, HL2⟩
            refine seq_ ?_
            refine seq_ ?_
            refine region_ ?_
            refine wl_valE (v := .int .i64 ((t : Nat) : Int)) rfl (rf_move rfl) rfl ?_
            refine wl_valE (v := .bool (decide (((t : Nat) : Int) < (2 : Int)))) rfl (rf_lss rfl rfl rfl rfl) rfl ?_
            refine wl_nil ?_
            refine thn ?_
            refine cond_ (t := decide (((t : Nat) : Int) < (2 : Int))) rfl rfl (fun c111 => ?_) (fun c111 => ?_)
            · have c111p := of_decide_eq_true c111
              refine skip_ ?_
              refine thn ?_
              refine seq_ ?_
              refine block_ ?_
              refine seq_ ?_
              refine seq_ ?_
              rcases (by omega : t = 0 ∨ t = 1) with rfl | rfl
              · refine region_ ?_
                refine wl_valE (v := .int .i64 (0 : Int)) rfl (rf_move rfl) rfl ?_
                refine wl_valE (v := .pointer (some ⟨b8, 0, none⟩)) rfl (rf_indexAddrA Tryz.underlying27 ti26 rfl rfl rfl rfl (by omega) (by omega)) (by simp) ?_
                refine wl_valE (v := svP o0) rfl (rf_load Tryz.underlying26 rfl rfl rfl ((HL2.blk 3 rfl).cell rfl)) rfl ?_
                refine wl_valE (v := .bool o0.isNone) rfl (rf_eqlPN Tryz.underlying26 rfl rfl rfl rfl) (by cases o0 <;> rfl) ?_
                refine wl_nil ?_
                refine thn ?_
                refine cond_ (t := o0.isNone) rfl rfl (fun c117 => ?_) (fun c117 => ?_)
                · refine exit_ ?_
                  refine thx (blx ?_)
                  refine thn ?_
                  refine region_ ?_
                  refine wl_valE (v := .int .i64 (0 : Int)) rfl (rf_move rfl) rfl ?_
                  refine wl_valE (v := .int .i64 ((0 + 1 : Nat) : Int)) rfl (rf_add rfl rfl rfl rfl (IntWalk.i64_in _ (by omega))) rfl ?_
                  refine wl_valE (v := .int .i64 ((0 + 1 : Nat) : Int)) rfl (rf_assign rfl) rfl ?_
                  refine wl_nil ?_
                  refine thn ?_
                  refine ⟨2 - 1, _, rfl, (by omega), _, 1, M, upds_self ⟨rfl, rfl, rfl, rfl, rfl, trivial⟩, rfl, by omega, by omega, HL2.pick' [0, 1, 2, 3, 4, 5, 6, 7] rfl rfl⟩
                · obtain ⟨p, rfl⟩ : ∃ p, o0 = some p := by
                    cases o0 with
                    | none => cases c117
                    | some p => exact ⟨p, rfl⟩
                  have H77 := HL2.flat 5 (m := [stoH p.s p.st, rfH p.rb p.x]) rfl rfl
                  try dsimp only [putsH, setH, List.cons_append, List.nil_append] at H77
                  have hr := (hrp.1 p rfl).1
                  have hpl := (hrp.1 p rfl).2
                  have hal : p.x.all.length ≤ 65536 := by have := hr.lroom; have := hr.cc; omega
                  have hlx := hr.last
                  have hl0 := hr.inv.last0
                  refine skip_ ?_
                  refine thn ?_
                  refine seq_ ?_
                  refine seq_ ?_
                  refine region_ ?_
                  refine wl_valE (v := .int .i64 (-1 : Int)) rfl (rf_assign rfl) rfl ?_
                  refine wl_nil ?_
                  refine thn ?_
                  refine block_ ?_
                  refine loop_ (fun qk_ qf_ qw_ => ∃ (g : Nat → Value) (v : Int) (M2 : Nat), qf_ = upds g [(2, .slice a n c), (8, .pointer (some ⟨b8, 0, none⟩)), (9, .pointer (some ⟨b9, 0, none⟩)), (15, .pointer (some ⟨kb, 0, none⟩)), (19, .int .i64 (0 : Int)), (20, .int .i64 v)] ∧ qk_ = (p.x.last + 2 - v).toNat ∧ (-1 ≤ v ∧ v ≤ p.x.last + 2) ∧ (((M2 : Nat) : Int) ≤ ((M : Nat) : Int) + 2 * (v + 1)) ∧ St w0 S0 [rdH encOpR 10 a n c qs] qw_ [blkH b1 #[.int .i64 ma, .int .i64 ca] 23, blkH b3 #[.int .i64 mb, .int .i64 cb] 23, blkH b7 #[.int .i64 ma, .int .i64 ca, .int .i64 mb, .int .i64 cb] 25, blkH b8 #[.pointer (some ⟨p.s, 0, none⟩), svP o1] 27, blkH b9 #[.pointer (some ⟨p.rb, 0, none⟩), rvP o1] 29, stoH p.s p.st, prH o1, bookH kb M2, rfH p.rb p.x]) ((p.x.last + 2 - (-1)).toNat) ?_ ?_
                  · refine ⟨_, -1, M, upds_self ⟨rfl, rfl, rfl, rfl, rfl, rfl, trivial⟩, rfl, ⟨by omega, by omega⟩, by omega, H77.pick' [0, 1, 2, 3, 4, 5, 6, 7, 8] rfl rfl⟩
                  · rintro lk3 _ wl3 ⟨gl3, v, M2, rfl, hlk3, hv, hM2, HL3⟩
                    refine seq_ ?_
                    refine seq_ ?_
                    obtain ⟨pa78, pc78, hpk78⟩ := rfBlk HL3 8 rfl rfl
                    refine region_ ?_
                    refine wl_valE (v := .int .i64 v) rfl (rf_move rfl) rfl ?_
                    refine wl_valE (v := .int .i64 (0 : Int)) rfl (rf_move rfl) rfl ?_
                    refine wl_valE (v := .pointer (some ⟨b9, 0, none⟩)) rfl (rf_indexAddrA Tryz.underlying29 ti28 rfl rfl rfl rfl (by omega) (by omega)) (by simp) ?_
                    refine wl_valE (v := .pointer (some ⟨p.rb, 0, none⟩)) rfl (rf_load Tryz.underlying28 rfl rfl rfl ((HL3.blk 4 rfl).cell rfl)) rfl ?_
                    refine wl_valE (v := .pointer (some ⟨p.rb, 0, none⟩)) rfl (rf_nilCheckP rfl rfl) rfl ?_
                    refine wl_valE (v := .pointer (some ⟨p.rb, 3, none⟩)) rfl (rf_fieldAddr Tryz.underlying50 rfl ti3 rfl rfl) rfl ?_
                    refine wl_valE (v := .int .i64 p.x.last) rfl (rf_load Tryz.underlying3 rfl rfl rfl (hpk78.cell rfl)) rfl ?_
                    refine wl_valE (v := .int .i64 (p.x.last + (1 : Int))) rfl (rf_add rfl rfl rfl rfl (IntWalk.i64_in _ (by omega))) rfl ?_
                    refine wl_valE (v := .bool (decide (v ≤ p.x.last + (1 : Int)))) rfl (rf_leq rfl rfl rfl rfl) rfl ?_
                    refine wl_nil ?_
                    refine thn ?_
                    refine cond_ (t := decide (v ≤ p.x.last + (1 : Int))) rfl rfl (fun c126 => ?_) (fun c126 => ?_)
                    · have c126p := of_decide_eq_true c126
                      refine skip_ ?_
                      refine thn ?_
                      refine seq_ ?_
                      refine block_ ?_
                      refine seq_ ?_
                      refine region_h (S := (fun wq => St w0 S0 [rdH encOpR 10 a n c qs] wq [blkH b8 #[.pointer (some ⟨p.s, 0, none⟩), svP o1] 27, blkH b9 #[.pointer (some ⟨p.rb, 0, none⟩), rvP o1] 29])) mixedP ?_
                      intro w79 hk79
                      have H79 := HL3.keep hk79
                      have hS79 : St w0 S0 [rdH encOpR 10 a n c qs] w79 [blkH b8 #[.pointer (some ⟨p.s, 0, none⟩), svP o1] 27, blkH b9 #[.pointer (some ⟨p.rb, 0, none⟩), rvP o1] 29] := H79.pick' [3, 4] rfl rfl
                      refine wh_take (i := 0) (v := .int .i64 (0 : Int)) rfl (by kernel_rfl) (by kernel_rfl) (by kernel_rfl) hS79 rfl (fun wq hq => rf_move rfl) rfl ?_
                      refine wh_take (i := 1) (v := .pointer (some ⟨b8, 0, none⟩)) rfl (by kernel_rfl) (by kernel_rfl) (by kernel_rfl) hS79 rfl (fun wq hq => rf_indexAddrA Tryz.underlying27 ti26 rfl rfl rfl rfl (by omega) (by omega)) (by simp) ?_
                      refine wh_take (i := 2) (v := .pointer (some ⟨p.s, 0, none⟩)) rfl (by kernel_rfl) (by kernel_rfl) (by kernel_rfl) hS79 rfl (fun wq hq => rf_load Tryz.underlying26 rfl rfl rfl ((hq.blk 0 rfl).cell rfl)) rfl ?_
                      refine wh_take (i := 3) (v := .int .i64 (0 : Int)) rfl (by kernel_rfl) (by kernel_rfl) (by kernel_rfl) hS79 rfl (fun wq hq => rf_move rfl) rfl ?_
                      refine wh_take (i := 4) (v := .pointer (some ⟨b9, 0, none⟩)) rfl (by kernel_rfl) (by kernel_rfl) (by kernel_rfl) hS79 rfl (fun wq hq => rf_indexAddrA Tryz.underlying29 ti28 rfl rfl rfl rfl (by omega) (by omega)) (by simp) ?_
                      refine wh_take (i := 5) (v := .pointer (some ⟨p.rb, 0, none⟩)) rfl (by kernel_rfl) (by kernel_rfl) (by kernel_rfl) hS79 rfl (fun wq hq => rf_load Tryz.underlying28 rfl rfl rfl ((hq.blk 1 rfl).cell rfl)) rfl ?_
                      refine wh_take (i := 6) (v := .int .i64 v) rfl (by kernel_rfl) (by kernel_rfl) (by kernel_rfl) hS79 rfl (fun wq hq => rf_move rfl) rfl ?_
                      refine wh_take (i := 7) (v := .agg #[.int .i64 (4 : Int), .int .i64 (0 : Int), .int .i64 (0 : Int), .int .i64 (0 : Int), .int .i64 (0 : Int), .int .i64 v, .int .i64 (0 : Int), .bool false, .int .i64 (0 : Int), .bool false]) rfl (by kernel_rfl) (by kernel_rfl) (by kernel_rfl) hS79 rfl (fun wq hq => rf_build (offs := [(0, [.int .i64 (4 : Int)]), (5, [.int .i64 v])]) (places := #[(0, 1), (1, 2), (3, 1), (4, 1), (5, 1), (6, 1), (7, 2), (9, 1)]) Tryz.underlying45 ti45 (fun w => by kernel_rfl) (.cons rfl rfl rfl rfl rfl rfl (.cons rfl rfl rfl rfl rfl rfl .nil))) rfl ?_
                      refine wh_take (i := 8) (v := .pointer (some ⟨kb, 0, none⟩)) rfl (by kernel_rfl) (by kernel_rfl) (by kernel_rfl) hS79 rfl (fun wq hq => rf_move rfl) rfl ?_
                      refine wh_one (i := 9) (by kernel_rfl) rfl ?_
                      refine wl_tr H79 rfl [7] (asked_tr p.s p.rb kb M2 p.st p.x (⟨(4 : Int), ⟨(0 : Int), (0 : Int)⟩, (0 : Int), (0 : Int), v, (0 : Int), ⟨false, (0 : Int)⟩, false⟩ : OpR) hr (by omega) (by omega)) rfl (.own 5 rfl Le.rfl (.own 8 rfl Le.rfl .nil)) (rf_call Tryz.call7 rfl rfl) rfl ?_
                      rintro _ w80 _ ⟨rfl, rfl⟩ H80
                      refine wl_nil ?_
                      have hS81 : St w0 S0 [rdH encOpR 10 a n c qs] w80 [blkH b8 #[.pointer (some ⟨p.s, 0, none⟩), svP o1] 27, blkH b9 #[.pointer (some ⟨p.rb, 0, none⟩), rvP o1] 29] := H80.pick' [3, 4] rfl rfl
                      refine wh_back hS81 ?_
                      refine wh_take (i := 10) (v := .bool false) rfl (by kernel_rfl) (by kernel_rfl) (by kernel_rfl) hS81 rfl (fun wq hq => rf_not rfl rfl) rfl ?_
                      refine wh_done (by kernel_rfl) ?_
                      refine thn ?_
                      refine condF rfl rfl ?_
                      refine skip_ ?_
                      refine bln ?_
                      refine thn ?_
                      refine region_ ?_
                      refine wl_valE (v := .int .i64 v) rfl (rf_move rfl) rfl ?_
                      refine wl_valE (v := .int .i64 (v + (1 : Int))) rfl (rf_add rfl rfl rfl rfl (IntWalk.i64_in _ (by omega))) rfl ?_
                      refine wl_valE (v := .int .i64 (v + (1 : Int))) rfl (rf_assign rfl) rfl ?_
                      refine wl_nil ?_
                      refine thn ?_
                      refine ⟨(p.x.last + 2 - (v + 1)).toNat, _, rfl, (by omega), _, v + 1, M2 + 2, upds_self ⟨rfl, rfl, rfl, rfl, rfl, rfl, trivial⟩, rfl, ⟨by omega, by omega⟩, by omega, H80.pick' [0, 1, 2, 3, 4, 5, 6, 7, 8] rfl rfl⟩
                    · have c126p := of_decide_eq_false c126
                      refine exit_ ?_
                      refine thx (thx (blx ?_))
                      refine thn ?_
                      refine seq_ ?_
                      refine region_ ?_
                      refine wl_valE (v := .int .i64 (0 : Int)) rfl (rf_assign rfl) rfl ?_
                      refine wl_nil ?_
                      refine thn ?_
                      refine block_ ?_
                      refine loop_ (fun qk_ qf_ qw_ => ∃ (g : Nat → Value) (i M3 : Nat), qf_ = upds g [(2, .slice a n c), (8, .pointer (some ⟨b8, 0, none⟩)), (9, .pointer (some ⟨b9, 0, none⟩)), (15, .pointer (some ⟨kb, 0, none⟩)), (19, .int .i64 (0 : Int)), (21, .int .i64 ((i : Nat) : Int))] ∧ qk_ = n - i ∧ (i ≤ n) ∧ (M3 ≤ M + 2097160 + 8 * i) ∧ St w0 S0 [rdH encOpR 10 a n c qs] qw_ [blkH b1 #[.int .i64 ma, .int .i64 ca] 23, blkH b3 #[.int .i64 mb, .int .i64 cb] 23, blkH b7 #[.int .i64 ma, .int .i64 ca, .int .i64 mb, .int .i64 cb] 25, blkH b8 #[.pointer (some ⟨p.s, 0, none⟩), svP o1] 27, blkH b9 #[.pointer (some ⟨p.rb, 0, none⟩), rvP o1] 29, stoH p.s p.st, prH o1, bookH kb M3, rfH p.rb p.x]) (n - 0) ?_ ?_
                      · refine ⟨_, 0, M2, upds_self ⟨rfl, rfl, rfl, rfl, rfl, rfl, trivial⟩, rfl, Nat.zero_le _, by omega, HL3.pick' [0, 1, 2, 3, 4, 5, 6, 7, 8] rfl rfl⟩
                      · rintro lk4 _ wl4 ⟨gl4, i, M3, rfl, hlk4, hi4, hM3, HL4⟩
                        refine seq_ ?_
                        refine seq_ ?_
                        refine region_ ?_
                        refine wl_valE (v := .int .i64 ((i : Nat) : Int)) rfl (rf_move rfl) rfl ?_
                        refine wl_valE (v := .slice a n c) rfl (rf_move rfl) rfl ?_
                        refine wl_valE (v := .int .i64 ((n : Nat) : Int)) rfl (rf_len_slice Tryz.underlying24 rfl rfl) rfl ?_
                        refine wl_valE (v := .bool (decide (((i : Nat) : Int) < ((n : Nat) : Int)))) rfl (rf_lss rfl rfl rfl rfl) rfl ?_
                        refine wl_nil ?_
                        refine thn ?_
                        refine cond_ (t := decide (((i : Nat) : Int) < ((n : Nat) : Int))) rfl rfl (fun c143 => ?_) (fun c143 => ?_)
                        · have c143p := of_decide_eq_true c143
                          refine skip_ ?_
                          refine thn ?_
                          refine seq_ ?_
                          refine block_ ?_
                          refine seq_ ?_
                          have hn82 := rd_len (HL4.rdR 0 Le.rfl)
                          obtain ⟨q, hq⟩ : ∃ q_, qs[i]? = some q_ := ⟨_, List.getElem?_eq_getElem (by omega)⟩
                          refine region_ ?_
                          refine wl_valE (v := .slice a n c) rfl (rf_move rfl) rfl ?_
                          refine wl_valE (v := .int .i64 ((i : Nat) : Int)) rfl (rf_move rfl) rfl ?_
                          refine wl_valE (v := .pointer (some ⟨ab a, ao a + i * 10, none⟩)) rfl (rf_indexAddrH Tryz.underlying24 ti45 rfl rfl rfl rfl (by omega) (by omega) (HL4.rdR 0 Le.rfl)) rfl ?_
                          refine wl_valE (v := .agg #[.int .i64 q.kind, .int .i64 q.key.table, .int .i64 q.key.row, .int .i64 q.batch, .int .i64 q.index, .int .i64 q.v, .int .i64 q.n, .bool q.cell.is_, .int .i64 q.cell.value, .bool q.two]) rfl (rf_loadAgg (cs := [.int .i64 q.kind, .int .i64 q.key.table, .int .i64 q.key.row, .int .i64 q.batch, .int .i64 q.index, .int .i64 q.v, .int .i64 q.n, .bool q.cell.is_, .int .i64 q.cell.value, .bool q.two]) Tryz.underlying45 rfl ti45 rfl rfl (el_sub' (rd_el (HL4.rdR 0 Le.rfl) hq) 0 10 rfl) rfl) rfl ?_
                          refine wl_allocH HL4 ti45 ?_
                          intro b22 w84 H84
                          refine wl_storeAggH H84 9 (o := 0) (cs := [.int .i64 q.kind, .int .i64 q.key.table, .int .i64 q.key.row, .int .i64 q.batch, .int .i64 q.index, .int .i64 q.v, .int .i64 q.n, .bool q.cell.is_, .int .i64 q.cell.value, .bool q.two]) (A' := #[.int .i64 q.kind, .int .i64 q.key.table, .int .i64 q.key.row, .int .i64 q.batch, .int .i64 q.index, .int .i64 q.v, .int .i64 q.n, .bool q.cell.is_, .int .i64 q.cell.value, .bool q.two]) rfl rfl ti45 rfl rfl rfl rfl rfl oneAll (leb rfl) rfl ?_
                          intro w85 H85
                          refine wl_nil ?_
                          refine thn ?_
                          refine seq_ ?_
                          refine region_ ?_
                          refine wl_valE (v := .int .i64 (5 : Int)) rfl (rf_assign rfl) rfl ?_
                          refine wl_nil ?_
                          refine thn ?_
                          refine block_ ?_
                          refine loop_ (fun qk_ qf_ qw_ => ∃ (g : Nat → Value) (kd ck cn : Int) (M4 : Nat), qf_ = upds g [(2, .slice a n c), (8, .pointer (some ⟨b8, 0, none⟩)), (9, .pointer (some ⟨b9, 0, none⟩)), (15, .pointer (some ⟨kb, 0, none⟩)), (19, .int .i64 (0 : Int)), (21, .int .i64 ((i : Nat) : Int)), (22, .pointer (some ⟨b22, 0, none⟩)), (23, .int .i64 kd)] ∧ qk_ = ((9 : Int) - kd).toNat ∧ (5 ≤ kd ∧ kd ≤ 9) ∧ (((M4 : Nat) : Int) ≤ ((M3 : Nat) : Int) + 2 * (kd - 5)) ∧ St w0 S0 [rdH encOpR 10 a n c qs] qw_ [blkH b1 #[.int .i64 ma, .int .i64 ca] 23, blkH b3 #[.int .i64 mb, .int .i64 cb] 23, blkH b7 #[.int .i64 ma, .int .i64 ca, .int .i64 mb, .int .i64 cb] 25, blkH b8 #[.pointer (some ⟨p.s, 0, none⟩), svP o1] 27, blkH b9 #[.pointer (some ⟨p.rb, 0, none⟩), rvP o1] 29, stoH p.s p.st, prH o1, bookH kb M4, rfH p.rb p.x, blkH b22 #[.int .i64 ck, .int .i64 q.key.table, .int .i64 q.key.row, .int .i64 q.batch, .int .i64 q.index, .int .i64 q.v, .int .i64 cn, .bool q.cell.is_, .int .i64 q.cell.value, .bool q.two] 45]) (((9 : Int) - 5).toNat) ?_ ?_
                          · refine ⟨_, 5, q.kind, q.n, M3, upds_self ⟨rfl, rfl, rfl, rfl, rfl, rfl, rfl, rfl, trivial⟩, rfl, ⟨by omega, by omega⟩, by omega, H85.pick' [0, 1, 2, 3, 4, 5, 6, 7, 8, 9] rfl rfl⟩
                          · rintro lk5 _ wl5 ⟨gl5, kd, ck, cn, M4, rfl, hlk5, hkd, hM4, HL5⟩
                            refine seq_ ?_
                            refine seq_ ?_
                            refine region_ ?_
                            refine wl_valE (v := .int .i64 kd) rfl (rf_move rfl) rfl ?_
                            refine wl_valE (v := .bool (decide (kd ≤ (8 : Int)))) rfl (rf_leq rfl rfl rfl rfl) rfl ?_
                            refine wl_nil ?_
                            refine thn ?_
                            refine cond_ (t := decide (kd ≤ (8 : Int))) rfl rfl (fun c151 => ?_) (fun c151 => ?_)
                            · have c151p := of_decide_eq_true c151
                              refine skip_ ?_
                              refine thn ?_
                              refine seq_ ?_
                              refine block_ ?_
                              refine seq_ ?_
                              refine region_ ?_
                              refine wl_valE (v := .int .i64 kd) rfl (rf_move rfl) rfl ?_
                              refine wl_valE (v := .pointer (some ⟨b22, 0, none⟩)) rfl (rf_fieldAddr Tryz.underlying45 rfl ti3 rfl rfl) rfl ?_
                              refine wl_storeH HL5 9 (v := .int .i64 kd) (A' := #[.int .i64 kd, .int .i64 q.key.table, .int .i64 q.key.row, .int .i64 q.batch, .int .i64 q.index, .int .i64 q.v, .int .i64 cn, .bool q.cell.is_, .int .i64 q.cell.value, .bool q.two]) rfl rfl ti3 rfl rfl rfl rfl rfl (ltb rfl) rfl ?_
                              intro w86 H86
                              refine wl_nil ?_
                              refine thn ?_
                              refine seq_ ?_
                              refine region_v 7 (fun wq => St w0 S0 [rdH encOpR 10 a n c qs] wq [blkH b9 #[.pointer (some ⟨p.rb, 0, none⟩), rvP o1] 29, blkH b22 #[.int .i64 kd, .int .i64 q.key.table, .int .i64 q.key.row, .int .i64 q.batch, .int .i64 q.index, .int .i64 q.v, .int .i64 cn, .bool q.cell.is_, .int .i64 q.cell.value, .bool q.two] 45]) mixedP (by kernel_rfl) ?_
                              intro w87 hk87
                              have H87 := H86.keep hk87
                              have hS87 : St w0 S0 [rdH encOpR 10 a n c qs] w87 [blkH b9 #[.pointer (some ⟨p.rb, 0, none⟩), rvP o1] 29, blkH b22 #[.int .i64 kd, .int .i64 q.key.table, .int .i64 q.key.row, .int .i64 q.batch, .int .i64 q.index, .int .i64 q.v, .int .i64 cn, .bool q.cell.is_, .int .i64 q.cell.value, .bool q.two] 45] := H87.pick' [4, 9] rfl rfl
                              refine vh_take (i := 0) (v := .int .i64 (0 : Int)) rfl rfl (by kernel_rfl) (by kernel_rfl) (by kernel_rfl) hS87 rfl (fun wq hq => rf_move rfl) rfl ?_
                              refine vh_take (i := 1) (v := .pointer (some ⟨b9, 0, none⟩)) rfl rfl (by kernel_rfl) (by kernel_rfl) (by kernel_rfl) hS87 rfl (fun wq hq => rf_indexAddrA Tryz.underlying29 ti28 rfl rfl rfl rfl (by omega) (by omega)) (by simp) ?_
                              refine vh_take (i := 2) (v := .pointer (some ⟨p.rb, 0, none⟩)) rfl rfl (by kernel_rfl) (by kernel_rfl) (by kernel_rfl) hS87 rfl (fun wq hq => rf_load Tryz.underlying28 rfl rfl rfl ((hq.blk 0 rfl).cell rfl)) rfl ?_
                              refine vh_take (i := 3) (v := .pointer (some ⟨b22, 1, none⟩)) rfl rfl (by kernel_rfl) (by kernel_rfl) (by kernel_rfl) hS87 rfl (fun wq hq => rf_fieldAddr Tryz.underlying45 rfl ti41 rfl rfl) rfl ?_
                              refine vh_take (i := 4) (v := .agg #[.int .i64 q.key.table, .int .i64 q.key.row]) rfl rfl (by kernel_rfl) (by kernel_rfl) (by kernel_rfl) hS87 rfl (fun wq hq => rf_loadBlk Tryz.underlying41 rfl ti41 rfl rfl (hq.blk 1 rfl) (leb rfl)) rfl ?_
                              refine vh_one (i := 5) (by kernel_rfl) rfl rfl ?_
                              refine wl_tr H87 rfl [] (part9_tr p.rb p.x _ hr hal q.key) rfl (.own 8 rfl Le.rfl .nil) (rf_call Tryz.call8 rfl rfl) rfl ?_
                              rintro _ w88 _ ⟨rfl, rfl⟩ H88
                              refine wl_nil ?_
                              have hS89 : St w0 S0 [rdH encOpR 10 a n c qs] w88 [blkH b9 #[.pointer (some ⟨p.rb, 0, none⟩), rvP o1] 29, blkH b22 #[.int .i64 kd, .int .i64 q.key.table, .int .i64 q.key.row, .int .i64 q.batch, .int .i64 q.index, .int .i64 q.v, .int .i64 cn, .bool q.cell.is_, .int .i64 q.cell.value, .bool q.two] 45] := H88.pick' [4, 9] rfl rfl
                              refine vh_back hS89 ?_
                              refine vh_take (i := 6) (v := .pointer (some ⟨b22, 6, none⟩)) rfl rfl (by kernel_rfl) (by kernel_rfl) (by kernel_rfl) hS89 rfl (fun wq hq => rf_fieldAddr Tryz.underlying45 rfl ti3 rfl rfl) rfl ?_
                              refine vh_last (by kernel_rfl) (by kernel_rfl) rfl ?_
                              refine wl_storeH H88 9 (v := .int .i64 (partF p.st q.key)) (A' := #[.int .i64 kd, .int .i64 q.key.table, .int .i64 q.key.row, .int .i64 q.batch, .int .i64 q.index, .int .i64 q.v, .int .i64 (partF p.st q.key), .bool q.cell.is_, .int .i64 q.cell.value, .bool q.two]) rfl rfl ti3 rfl rfl rfl rfl rfl (ltb rfl) rfl ?_
                              intro w90 H90
                              refine wl_nil ?_
                              refine vh_end ?_
                              refine thn ?_
                              refine seq_ ?_
                              refine region_h (S := (fun wq => St w0 S0 [rdH encOpR 10 a n c qs] wq [blkH b8 #[.pointer (some ⟨p.s, 0, none⟩), svP o1] 27, blkH b9 #[.pointer (some ⟨p.rb, 0, none⟩), rvP o1] 29, blkH b22 #[.int .i64 kd, .int .i64 q.key.table, .int .i64 q.key.row, .int .i64 q.batch, .int .i64 q.index, .int .i64 q.v, .int .i64 (partF p.st q.key), .bool q.cell.is_, .int .i64 q.cell.value, .bool q.two] 45])) mixedP ?_
                              intro w91 hk91
                              have H91 := H90.keep hk91
                              have hS91 : St w0 S0 [rdH encOpR 10 a n c qs] w91 [blkH b8 #[.pointer (some ⟨p.s, 0, none⟩), svP o1] 27, blkH b9 #[.pointer (some ⟨p.rb, 0, none⟩), rvP o1] 29, blkH b22 #[.int .i64 kd, .int .i64 q.key.table, .int .i64 q.key.row, .int .i64 q.batch, .int .i64 q.index, .int .i64 q.v, .int .i64 (partF p.st q.key), .bool q.cell.is_, .int .i64 q.cell.value, .bool q.two] 45] := H91.pick' [3, 4, 9] rfl rfl
                              refine wh_take (i := 0) (v := .int .i64 (0 : Int)) rfl (by kernel_rfl) (by kernel_rfl) (by kernel_rfl) hS91 rfl (fun wq hq => rf_move rfl) rfl ?_
                              refine wh_take (i := 1) (v := .pointer (some ⟨b8, 0, none⟩)) rfl (by kernel_rfl) (by kernel_rfl) (by kernel_rfl) hS91 rfl (fun wq hq => rf_indexAddrA Tryz.underlying27 ti26 rfl rfl rfl rfl (by omega) (by omega)) (by simp) ?_
                              refine wh_take (i := 2) (v := .pointer (some ⟨p.s, 0, none⟩)) rfl (by kernel_rfl) (by kernel_rfl) (by kernel_rfl) hS91 rfl (fun wq hq => rf_load Tryz.underlying26 rfl rfl rfl ((hq.blk 0 rfl).cell rfl)) rfl ?_
                              refine wh_take (i := 3) (v := .int .i64 (0 : Int)) rfl (by kernel_rfl) (by kernel_rfl) (by kernel_rfl) hS91 rfl (fun wq hq => rf_move rfl) rfl ?_
                              refine wh_take (i := 4) (v := .pointer (some ⟨b9, 0, none⟩)) rfl (by kernel_rfl) (by kernel_rfl) (by kernel_rfl) hS91 rfl (fun wq hq => rf_indexAddrA Tryz.underlying29 ti28 rfl rfl rfl rfl (by omega) (by omega)) (by simp) ?_
                              refine wh_take (i := 5) (v := .pointer (some ⟨p.rb, 0, none⟩)) rfl (by kernel_rfl) (by kernel_rfl) (by kernel_rfl) hS91 rfl (fun wq hq => rf_load Tryz.underlying28 rfl rfl rfl ((hq.blk 1 rfl).cell rfl)) rfl ?_
                              refine wh_take (i := 6) (v := .agg #[.int .i64 kd, .int .i64 q.key.table, .int .i64 q.key.row, .int .i64 q.batch, .int .i64 q.index, .int .i64 q.v, .int .i64 (partF p.st q.key), .bool q.cell.is_, .int .i64 q.cell.value, .bool q.two]) rfl (by kernel_rfl) (by kernel_rfl) (by kernel_rfl) hS91 rfl (fun wq hq => rf_loadBlk Tryz.underlying45 rfl ti45 rfl rfl (hq.blk 2 rfl) (leb rfl)) rfl ?_
                              refine wh_take (i := 7) (v := .pointer (some ⟨kb, 0, none⟩)) rfl (by kernel_rfl) (by kernel_rfl) (by kernel_rfl) hS91 rfl (fun wq hq => rf_move rfl) rfl ?_
                              refine wh_one (i := 8) (by kernel_rfl) rfl ?_
                              refine wl_tr H91 rfl [7] (asked_tr p.s p.rb kb M4 p.st p.x (⟨kd, ⟨q.key.table, q.key.row⟩, q.batch, q.index, q.v, (partF p.st q.key), ⟨q.cell.is_, q.cell.value⟩, q.two⟩ : OpR) hr (by omega) (by omega)) rfl (.own 5 rfl Le.rfl (.own 8 rfl Le.rfl .nil)) (rf_call Tryz.call7 rfl rfl) rfl ?_
                              rintro _ w92 _ ⟨rfl, rfl⟩ H92
                              refine wl_nil ?_
                              have hS93 : St w0 S0 [rdH encOpR 10 a n c qs] w92 [blkH b8 #[.pointer (some ⟨p.s, 0, none⟩), svP o1] 27, blkH b9 #[.pointer (some ⟨p.rb, 0, none⟩), rvP o1] 29, blkH b22 #[.int .i64 kd, .int .i64 q.key.table, .int .i64 q.key.row, .int .i64 q.batch, .int .i64 q.index, .int .i64 q.v, .int .i64 (partF p.st q.key), .bool q.cell.is_, .int .i64 q.cell.value, .bool q.two] 45] := H92.pick' [3, 4, 9] rfl rfl
                              refine wh_back hS93 ?_
                              refine wh_take (i := 9) (v := .bool false) rfl (by kernel_rfl) (by kernel_rfl) (by kernel_rfl) hS93 rfl (fun wq hq => rf_not rfl rfl) rfl ?_
                              refine wh_done (by kernel_rfl) ?_
                              refine thn ?_
                              refine condF rfl rfl ?_
                              refine skip_ ?_
                              refine bln ?_
                              refine thn ?_
                              refine region_ ?_
                              refine wl_valE (v := .int .i64 kd) rfl (rf_move rfl) rfl ?_
                              refine wl_valE (v := .int .i64 (kd + (1 : Int))) rfl (rf_add rfl rfl rfl rfl (IntWalk.i64_in _ (by omega))) rfl ?_
                              refine wl_valE (v := .int .i64 (kd + (1 : Int))) rfl (rf_assign rfl) rfl ?_
                              refine wl_nil ?_
                              refine thn ?_
                              refine ⟨((9 : Int) - (kd + 1)).toNat, _, rfl, (by omega), _, kd + 1, kd, partF p.st q.key, M4 + 2, upds_self ⟨rfl, rfl, rfl, rfl, rfl, rfl, rfl, rfl, trivial⟩, rfl, ⟨by omega, by omega⟩, by omega, H92.pick' [0, 1, 2, 3, 4, 5, 6, 7, 8, 9] rfl rfl⟩
                            · have c151p := of_decide_eq_false c151
                              refine exit_ ?_
                              refine thx (thx (blx ?_))
                              refine bln ?_
                              refine thn ?_
                              refine region_ ?_
                              refine wl_valE (v := .int .i64 ((i : Nat) : Int)) rfl (rf_move rfl) rfl ?_
                              refine wl_valE (v := .int .i64 ((i + 1 : Nat) : Int)) rfl (rf_add rfl rfl rfl rfl (IntWalk.i64_in _ (by omega))) rfl ?_
                              refine wl_valE (v := .int .i64 ((i + 1 : Nat) : Int)) rfl (rf_assign rfl) rfl ?_
                              refine wl_nil ?_
                              refine thn ?_
                              refine ⟨n - (i + 1), _, rfl, (by omega), _, i + 1, M4, upds_self ⟨rfl, rfl, rfl, rfl, rfl, rfl, trivial⟩, rfl, by omega, by omega, HL5.pick' [0, 1, 2, 3, 4, 5, 6, 7, 8] rfl rfl⟩
                        · have c143p := of_decide_eq_false c143
                          refine exit_ ?_
                          refine thx (thx (blx ?_))
                          refine bln ?_
                          refine thn ?_
                          refine region_ ?_
                          refine wl_valE (v := .int .i64 (0 : Int)) rfl (rf_move rfl) rfl ?_
                          refine wl_valE (v := .int .i64 ((0 + 1 : Nat) : Int)) rfl (rf_add rfl rfl rfl rfl (IntWalk.i64_in _ (by omega))) rfl ?_
                          refine wl_valE (v := .int .i64 ((0 + 1 : Nat) : Int)) rfl (rf_assign rfl) rfl ?_
                          refine wl_nil ?_
                          refine thn ?_
                          have H94 := HL4.fold [5, 8] (m := [stoH p.s p.st, rfH p.rb p.x]) rfl rfl
                          try dsimp only [putsH, setH, List.cons_append, List.nil_append] at H94
                          refine ⟨2 - 1, _, rfl, (by omega), _, 1, M3, upds_self ⟨rfl, rfl, rfl, rfl, rfl, trivial⟩, rfl, by omega, by omega, H94.pick' [0, 1, 2, 3, 4, 5, 6, 7] rfl rfl⟩
              · refine region_ ?_
                refine wl_valE (v := .int .i64 (1 : Int)) rfl (rf_move rfl) rfl ?_
                refine wl_valE (v := .pointer (some ⟨b8, 1, none⟩)) rfl (rf_indexAddrA Tryz.underlying27 ti26 rfl rfl rfl rfl (by omega) (by omega)) (by simp) ?_
                refine wl_valE (v := svP o1) rfl (rf_load Tryz.underlying26 rfl rfl rfl ((HL2.blk 3 rfl).cell rfl)) rfl ?_
                refine wl_valE (v := .bool o1.isNone) rfl (rf_eqlPN Tryz.underlying26 rfl rfl rfl rfl) (by cases o1 <;> rfl) ?_
                refine wl_nil ?_
                refine thn ?_
                refine cond_ (t := o1.isNone) rfl rfl (fun c117 => ?_) (fun c117 => ?_)
                · refine exit_ ?_
                  refine thx (blx ?_)
                  refine thn ?_
                  refine region_ ?_
                  refine wl_valE (v := .int .i64 (1 : Int)) rfl (rf_move rfl) rfl ?_
                  refine wl_valE (v := .int .i64 ((1 + 1 : Nat) : Int)) rfl (rf_add rfl rfl rfl rfl (IntWalk.i64_in _ (by omega))) rfl ?_
                  refine wl_valE (v := .int .i64 ((1 + 1 : Nat) : Int)) rfl (rf_assign rfl) rfl ?_
                  refine wl_nil ?_
                  refine thn ?_
                  refine ⟨2 - 2, _, rfl, (by omega), _, 2, M, upds_self ⟨rfl, rfl, rfl, rfl, rfl, trivial⟩, rfl, by omega, by omega, HL2.pick' [0, 1, 2, 3, 4, 5, 6, 7] rfl rfl⟩
                · obtain ⟨p, rfl⟩ : ∃ p, o1 = some p := by
                    cases o1 with
                    | none => cases c117
                    | some p => exact ⟨p, rfl⟩
                  have H95 := HL2.flat 6 (m := [stoH p.s p.st, rfH p.rb p.x]) rfl rfl
                  try dsimp only [putsH, setH, List.cons_append, List.nil_append] at H95
                  have hr := (hrp.2 p rfl).1
                  have hpl := (hrp.2 p rfl).2
                  have hal : p.x.all.length ≤ 65536 := by have := hr.lroom; have := hr.cc; omega
                  have hlx := hr.last
                  have hl0 := hr.inv.last0
                  refine skip_ ?_
                  refine thn ?_
                  refine seq_ ?_
                  refine seq_ ?_
                  refine region_ ?_
                  refine wl_valE (v := .int .i64 (-1 : Int)) rfl (rf_assign rfl) rfl ?_
                  refine wl_nil ?_
                  refine thn ?_
                  refine block_ ?_
                  refine loop_ (fun qk_ qf_ qw_ => ∃ (g : Nat → Value) (v : Int) (M2 : Nat), qf_ = upds g [(2, .slice a n c), (8, .pointer (some ⟨b8, 0, none⟩)), (9, .pointer (some ⟨b9, 0, none⟩)), (15, .pointer (some ⟨kb, 0, none⟩)), (19, .int .i64 (1 : Int)), (20, .int .i64 v)] ∧ qk_ = (p.x.last + 2 - v).toNat ∧ (-1 ≤ v ∧ v ≤ p.x.last + 2) ∧ (((M2 : Nat) : Int) ≤ ((M : Nat) : Int) + 2 * (v + 1)) ∧ St w0 S0 [rdH encOpR 10 a n c qs] qw_ [blkH b1 #[.int .i64 ma, .int .i64 ca] 23, blkH b3 #[.int .i64 mb, .int .i64 cb] 23, blkH b7 #[.int .i64 ma, .int .i64 ca, .int .i64 mb, .int .i64 cb] 25, blkH b8 #[svP o0, .pointer (some ⟨p.s, 0, none⟩)] 27, blkH b9 #[rvP o0, .pointer (some ⟨p.rb, 0, none⟩)] 29, prH o0, stoH p.s p.st, bookH kb M2, rfH p.rb p.x]) ((p.x.last + 2 - (-1)).toNat) ?_ ?_
                  · refine ⟨_, -1, M, upds_self ⟨rfl, rfl, rfl, rfl, rfl, rfl, trivial⟩, rfl, ⟨by omega, by omega⟩, by omega, H95.pick' [0, 1, 2, 3, 4, 5, 6, 7, 8] rfl rfl⟩
                  · rintro lk3_1 _ wl3_1 ⟨gl3_1, v, M2, rfl, hlk3_1, hv, hM2, HL3_1⟩
                    refine seq_ ?_
                    refine seq_ ?_
                    obtain ⟨pa96, pc96, hpk96⟩ := rfBlk HL3_1 8 rfl rfl
                    refine region_ ?_
                    refine wl_valE (v := .int .i64 v) rfl (rf_move rfl) rfl ?_
                    refine wl_valE (v := .int .i64 (1 : Int)) rfl (rf_move rfl) rfl ?_
                    refine wl_valE (v := .pointer (some ⟨b9, 1, none⟩)) rfl (rf_indexAddrA Tryz.underlying29 ti28 rfl rfl rfl rfl (by omega) (by omega)) (by simp) ?_
                    refine wl_valE (v := .pointer (some ⟨p.rb, 0, none⟩)) rfl (rf_load Tryz.underlying28 rfl rfl rfl ((HL3_1.blk 4 rfl).cell rfl)) rfl ?_
                    refine wl_valE (v := .pointer (some ⟨p.rb, 0, none⟩)) rfl (rf_nilCheckP rfl rfl) rfl ?_
                    refine wl_valE (v := .pointer (some ⟨p.rb, 3, none⟩)) rfl (rf_fieldAddr Tryz.underlying50 rfl ti3 rfl rfl) rfl ?_
                    refine wl_valE (v := .int .i64 p.x.last) rfl (rf_load Tryz.underlying3 rfl rfl rfl (hpk96.cell rfl)) rfl ?_
                    refine wl_valE (v := .int .i64 (p.x.last + (1 : Int))) rfl (rf_add rfl rfl rfl rfl (IntWalk.i64_in _ (by omega))) rfl ?_
                    refine wl_valE (v := .bool (decide (v ≤ p.x.last + (1 : Int)))) rfl (rf_leq rfl rfl rfl rfl) rfl ?_
                    refine wl_nil ?_
                    refine thn ?_
                    refine cond_ (t := decide (v ≤ p.x.last + (1 : Int))) rfl rfl (fun c126 => ?_) (fun c126 => ?_)
                    · have c126p := of_decide_eq_true c126
                      refine skip_ ?_
                      refine thn ?_
                      refine seq_ ?_
                      refine block_ ?_
                      refine seq_ ?_
                      refine region_h (S := (fun wq => St w0 S0 [rdH encOpR 10 a n c qs] wq [blkH b8 #[svP o0, .pointer (some ⟨p.s, 0, none⟩)] 27, blkH b9 #[rvP o0, .pointer (some ⟨p.rb, 0, none⟩)] 29])) mixedP ?_
                      intro w97 hk97
                      have H97 := HL3_1.keep hk97
                      have hS97 : St w0 S0 [rdH encOpR 10 a n c qs] w97 [blkH b8 #[svP o0, .pointer (some ⟨p.s, 0, none⟩)] 27, blkH b9 #[rvP o0, .pointer (some ⟨p.rb, 0, none⟩)] 29] := H97.pick' [3, 4] rfl rfl
                      refine wh_take (i := 0) (v := .int .i64 (1 : Int)) rfl (by kernel_rfl) (by kernel_rfl) (by kernel_rfl) hS97 rfl (fun wq hq => rf_move rfl) rfl ?_
                      refine wh_take (i := 1) (v := .pointer (some ⟨b8, 1, none⟩)) rfl (by kernel_rfl) (by kernel_rfl) (by kernel_rfl) hS97 rfl (fun wq hq => rf_indexAddrA Tryz.underlying27 ti26 rfl rfl rfl rfl (by omega) (by omega)) (by simp) ?_
                      refine wh_take (i := 2) (v := .pointer (some ⟨p.s, 0, none⟩)) rfl (by kernel_rfl) (by kernel_rfl) (by kernel_rfl) hS97 rfl (fun wq hq => rf_load Tryz.underlying26 rfl rfl rfl ((hq.blk 0 rfl).cell rfl)) rfl ?_
                      refine wh_take (i := 3) (v := .int .i64 (1 : Int)) rfl (by kernel_rfl) (by kernel_rfl) (by kernel_rfl) hS97 rfl (fun wq hq => rf_move rfl) rfl ?_
                      refine wh_take (i := 4) (v := .pointer (some ⟨b9, 1, none⟩)) rfl (by kernel_rfl) (by kernel_rfl) (by kernel_rfl) hS97 rfl (fun wq hq => rf_indexAddrA Tryz.underlying29 ti28 rfl rfl rfl rfl (by omega) (by omega)) (by simp) ?_
                      refine wh_take (i := 5) (v := .pointer (some ⟨p.rb, 0, none⟩)) rfl (by kernel_rfl) (by kernel_rfl) (by kernel_rfl) hS97 rfl (fun wq hq => rf_load Tryz.underlying28 rfl rfl rfl ((hq.blk 1 rfl).cell rfl)) rfl ?_
                      refine wh_take (i := 6) (v := .int .i64 v) rfl (by kernel_rfl) (by kernel_rfl) (by kernel_rfl) hS97 rfl (fun wq hq => rf_move rfl) rfl ?_
                      refine wh_take (i := 7) (v := .agg #[.int .i64 (4 : Int), .int .i64 (0 : Int), .int .i64 (0 : Int), .int .i64 (0 : Int), .int .i64 (0 : Int), .int .i64 v, .int .i64 (0 : Int), .bool false, .int .i64 (0 : Int), .bool false]) rfl (by kernel_rfl) (by kernel_rfl) (by kernel_rfl) hS97 rfl (fun wq hq => rf_build (offs := [(0, [.int .i64 (4 : Int)]), (5, [.int .i64 v])]) (places := #[(0, 1), (1, 2), (3, 1), (4, 1), (5, 1), (6, 1), (7, 2), (9, 1)]) Tryz.underlying45 ti45 (fun w => by kernel_rfl) (.cons rfl rfl rfl rfl rfl rfl (.cons rfl rfl rfl rfl rfl rfl .nil))) rfl ?_
                      refine wh_take (i := 8) (v := .pointer (some ⟨kb, 0, none⟩)) rfl (by kernel_rfl) (by kernel_rfl) (by kernel_rfl) hS97 rfl (fun wq hq => rf_move rfl) rfl ?_
                      refine wh_one (i := 9) (by kernel_rfl) rfl ?_
                      refine wl_tr H97 rfl [7] (asked_tr p.s p.rb kb M2 p.st p.x (⟨(4 : Int), ⟨(0 : Int), (0 : Int)⟩, (0 : Int), (0 : Int), v, (0 : Int), ⟨false, (0 : Int)⟩, false⟩ : OpR) hr (by omega) (by omega)) rfl (.own 6 rfl Le.rfl (.own 8 rfl Le.rfl .nil)) (rf_call Tryz.call7 rfl rfl) rfl ?_
                      rintro _ w98 _ ⟨rfl, rfl⟩ H98
                      refine wl_nil ?_
                      have hS99 : St w0 S0 [rdH encOpR 10 a n c qs] w98 [blkH b8 #[svP o0, .pointer (some ⟨p.s, 0, none⟩)] 27, blkH b9 #[rvP o0, .pointer (some ⟨p.rb, 0, none⟩)] 29] := H98.pick' [3, 4] rfl rfl
                      refine wh_back hS99 ?_
                      refine wh_take (i := 10) (v := .bool false) rfl (by kernel_rfl) (by kernel_rfl) (by kernel_rfl) hS99 rfl (fun wq hq => rf_not rfl rfl) rfl ?_
                      refine wh_done (by kernel_rfl) ?_
                      refine thn ?_
                      refine condF rfl rfl ?_
                      refine skip_ ?_
                      refine bln ?_
                      refine thn ?_
                      refine region_ ?_
                      refine wl_valE (v := .int .i64 v) rfl (rf_move rfl) rfl ?_
                      refine wl_valE (v := .int .i64 (v + (1 : Int))) rfl (rf_add rfl rfl rfl rfl (IntWalk.i64_in _ (by omega))) rfl ?_
                      refine wl_valE (v := .int .i64 (v + (1 : Int))) rfl (rf_assign rfl) rfl ?_
                      refine wl_nil ?_
                      refine thn ?_
                      refine ⟨(p.x.last + 2 - (v + 1)).toNat, _, rfl, (by omega), _, v + 1, M2 + 2, upds_self ⟨rfl, rfl, rfl, rfl, rfl, rfl, trivial⟩, rfl, ⟨by omega, by omega⟩, by omega, H98.pick' [0, 1, 2, 3, 4, 5, 6, 7, 8] rfl rfl⟩
                    · have c126p := of_decide_eq_false c126
                      refine exit_ ?_
                      refine thx (thx (blx ?_))
                      refine thn ?_
                      refine seq_ ?_
                      refine region_ ?_
                      refine wl_valE (v := .int .i64 (0 : Int)) rfl (rf_assign rfl) rfl ?_
                      refine wl_nil ?_
                      refine thn ?_
                      refine block_ ?_
                      refine loop_ (fun qk_ qf_ qw_ => ∃ (g : Nat → Value) (i M3 : Nat), qf_ = upds g [(2, .slice a n c), (8, .pointer (some ⟨b8, 0, none⟩)), (9, .pointer (some ⟨b9, 0, none⟩)), (15, .pointer (some ⟨kb, 0, none⟩)), (19, .int .i64 (1 : Int)), (21, .int .i64 ((i : Nat) : Int))] ∧ qk_ = n - i ∧ (i ≤ n) ∧ (M3 ≤ M + 2097160 + 8 * i) ∧ St w0 S0 [rdH encOpR 10 a n c qs] qw_ [blkH b1 #[.int .i64 ma, .int .i64 ca] 23, blkH b3 #[.int .i64 mb, .int .i64 cb] 23, blkH b7 #[.int .i64 ma, .int .i64 ca, .int .i64 mb, .int .i64 cb] 25, blkH b8 #[svP o0, .pointer (some ⟨p.s, 0, none⟩)] 27, blkH b9 #[rvP o0, .pointer (some ⟨p.rb, 0, none⟩)] 29, prH o0, stoH p.s p.st, bookH kb M3, rfH p.rb p.x]) (n - 0) ?_ ?_
                      · refine ⟨_, 0, M2, upds_self ⟨rfl, rfl, rfl, rfl, rfl, rfl, trivial⟩, rfl, Nat.zero_le _, by omega, HL3_1.pick' [0, 1, 2, 3, 4, 5, 6, 7, 8] rfl rfl⟩
                      · rintro lk4_1 _ wl4_1 ⟨gl4_1, i, M3, rfl, hlk4_1, hi4, hM3, HL4_1⟩
                        refine seq_ ?_
                        refine seq_ ?_
                        refine region_ ?_
                        refine wl_valE (v := .int .i64 ((i : Nat) : Int)) rfl (rf_move rfl) rfl ?_
                        refine wl_valE (v := .slice a n c) rfl (rf_move rfl) rfl ?_
                        refine wl_valE (v := .int .i64 ((n : Nat) : Int)) rfl (rf_len_slice Tryz.underlying24 rfl rfl) rfl ?_
                        refine wl_valE (v := .bool (decide (((i : Nat) : Int) < ((n : Nat) : Int)))) rfl (rf_lss rfl rfl rfl rfl) rfl ?_
                        refine wl_nil ?_
                        refine thn ?_
                        refine cond_ (t := decide (((i : Nat) : Int) < ((n : Nat) : Int))) rfl rfl (fun c143 => ?_) (fun c143 => ?_)
                        · have c143p := of_decide_eq_true c143
                          refine skip_ ?_
                          refine thn ?_
                          refine seq_ ?_
                          refine block_ ?_
                          refine seq_ ?_
                          have hn100 := rd_len (HL4_1.rdR 0 Le.rfl)
                          obtain ⟨q, hq⟩ : ∃ q_, qs[i]? = some q_ := ⟨_, List.getElem?_eq_getElem (by omega)⟩
                          refine region_ ?_
                          refine wl_valE (v := .slice a n c) rfl (rf_move rfl) rfl ?_
                          refine wl_valE (v := .int .i64 ((i : Nat) : Int)) rfl (rf_move rfl) rfl ?_
                          refine wl_valE (v := .pointer (some ⟨ab a, ao a + i * 10, none⟩)) rfl (rf_indexAddrH Tryz.underlying24 ti45 rfl rfl rfl rfl (by omega) (by omega) (HL4_1.rdR 0 Le.rfl)) rfl ?_
                          refine wl_valE (v := .agg #[.int .i64 q.kind, .int .i64 q.key.table, .int .i64 q.key.row, .int .i64 q.batch, .int .i64 q.index, .int .i64 q.v, .int .i64 q.n, .bool q.cell.is_, .int .i64 q.cell.value, .bool q.two]) rfl (rf_loadAgg (cs := [.int .i64 q.kind, .int .i64 q.key.table, .int .i64 q.key.row, .int .i64 q.batch, .int .i64 q.index, .int .i64 q.v, .int .i64 q.n, .bool q.cell.is_, .int .i64 q.cell.value, .bool q.two]) Tryz.underlying45 rfl ti45 rfl rfl (el_sub' (rd_el (HL4_1.rdR 0 Le.rfl) hq) 0 10 rfl) rfl) rfl ?_
                          refine wl_allocH HL4_1 ti45 ?_
                          intro b22 w102 H102
                          refine wl_storeAggH H102 9 (o := 0) (cs := [.int .i64 q.kind, .int .i64 q.key.table, .int .i64 q.key.row, .int .i64 q.batch, .int .i64 q.index, .int .i64 q.v, .int .i64 q.n, .bool q.cell.is_, .int .i64 q.cell.value, .bool q.two]) (A' := #[.int .i64 q.kind, .int .i64 q.key.table, .int .i64 q.key.row, .int .i64 q.batch, .int .i64 q.index, .int .i64 q.v, .int .i64 q.n, .bool q.cell.is_, .int .i64 q.cell.value, .bool q.two]) rfl rfl ti45 rfl rfl rfl rfl rfl oneAll (leb rfl) rfl ?_
                          intro w103 H103
                          refine wl_nil ?_
                          refine thn ?_
                          refine seq_ ?_
                          refine region_ ?_
                          refine wl_valE (v := .int .i64 (5 : Int)) rfl (rf_assign rfl) rfl ?_
                          refine wl_nil ?_
                          refine thn ?_
                          refine block_ ?_
                          refine loop_ (fun qk_ qf_ qw_ => ∃ (g : Nat → Value) (kd ck cn : Int) (M4 : Nat), qf_ = upds g [(2, .slice a n c), (8, .pointer (some ⟨b8, 0, none⟩)), (9, .pointer (some ⟨b9, 0, none⟩)), (15, .pointer (some ⟨kb, 0, none⟩)), (19, .int .i64 (1 : Int)), (21, .int .i64 ((i : Nat) : Int)), (22, .pointer (some ⟨b22, 0, none⟩)), (23, .int .i64 kd)] ∧ qk_ = ((9 : Int) - kd).toNat ∧ (5 ≤ kd ∧ kd ≤ 9) ∧ (((M4 : Nat) : Int) ≤ ((M3 : Nat) : Int) + 2 * (kd - 5)) ∧ St w0 S0 [rdH encOpR 10 a n c qs] qw_ [blkH b1 #[.int .i64 ma, .int .i64 ca] 23, blkH b3 #[.int .i64 mb, .int .i64 cb] 23, blkH b7 #[.int .i64 ma, .int .i64 ca, .int .i64 mb, .int .i64 cb] 25, blkH b8 #[svP o0, .pointer (some ⟨p.s, 0, none⟩)] 27, blkH b9 #[rvP o0, .pointer (some ⟨p.rb, 0, none⟩)] 29, prH o0, stoH p.s p.st, bookH kb M4, rfH p.rb p.x, blkH b22 #[.int .i64 ck, .int .i64 q.key.table, .int .i64 q.key.row, .int .i64 q.batch, .int .i64 q.index, .int .i64 q.v, .int .i64 cn, .bool q.cell.is_, .int .i64 q.cell.value, .bool q.two] 45]) (((9 : Int) - 5).toNat) ?_ ?_
                          · refine ⟨_, 5, q.kind, q.n, M3, upds_self ⟨rfl, rfl, rfl, rfl, rfl, rfl, rfl, rfl, trivial⟩, rfl, ⟨by omega, by omega⟩, by omega, H103.pick' [0, 1, 2, 3, 4, 5, 6, 7, 8, 9] rfl rfl⟩
                          · rintro lk5_1 _ wl5_1 ⟨gl5_1, kd, ck, cn, M4, rfl, hlk5_1, hkd, hM4, HL5_1⟩
                            refine seq_ ?_
                            refine seq_ ?_
                            refine region_ ?_
                            refine wl_valE (v := .int .i64 kd) rfl (rf_move rfl) rfl ?_
                            refine wl_valE (v := .bool (decide (kd ≤ (8 : Int)))) rfl (rf_leq rfl rfl rfl rfl) rfl ?_
                            refine wl_nil ?_
                            refine thn ?_
                            refine cond_ (t := decide (kd ≤ (8 : Int))) rfl rfl (fun c151 => ?_) (fun c151 => ?_)
                            · have c151p := of_decide_eq_true c151
                              refine skip_ ?_
                              refine thn ?_
                              refine seq_ ?_
                              refine block_ ?_
                              refine seq_ ?_
                              refine region_ ?_
                              refine wl_valE (v := .int .i64 kd) rfl (rf_move rfl) rfl ?_
                              refine wl_valE (v := .pointer (some ⟨b22, 0, none⟩)) rfl (rf_fieldAddr Tryz.underlying45 rfl ti3 rfl rfl) rfl ?_
                              refine wl_storeH HL5_1 9 (v := .int .i64 kd) (A' := #[.int .i64 kd, .int .i64 q.key.table, .int .i64 q.key.row, .int .i64 q.batch, .int .i64 q.index, .int .i64 q.v, .int .i64 cn, .bool q.cell.is_, .int .i64 q.cell.value, .bool q.two]) rfl rfl ti3 rfl rfl rfl rfl rfl (ltb rfl) rfl ?_
                              intro w104 H104
                              refine wl_nil ?_
                              refine thn ?_
                              refine seq_ ?_
                              refine region_v 7 (fun wq => St w0 S0 [rdH encOpR 10 a n c qs] wq [blkH b9 #[rvP o0, .pointer (some ⟨p.rb, 0, none⟩)] 29, blkH b22 #[.int .i64 kd, .int .i64 q.key.table, .int .i64 q.key.row, .int .i64 q.batch, .int .i64 q.index, .int .i64 q.v, .int .i64 cn, .bool q.cell.is_, .int .i64 q.cell.value, .bool q.two] 45]) mixedP (by kernel_rfl) ?_
                              intro w105 hk105
                              have H105 := H104.keep hk105
                              have hS105 : St w0 S0 [rdH encOpR 10 a n c qs] w105 [blkH b9 #[rvP o0, .pointer (some ⟨p.rb, 0, none⟩)] 29, blkH b22 #[.int .i64 kd, .int .i64 q.key.table, .int .i64 q.key.row, .int .i64 q.batch, .int .i64 q.index, .int .i64 q.v, .int .i64 cn, .bool q.cell.is_, .int .i64 q.cell.value, .bool q.two] 45] := H105.pick' [4, 9] rfl rfl
                              refine vh_take (i := 0) (v := .int .i64 (1 : Int)) rfl rfl (by kernel_rfl) (by kernel_rfl) (by kernel_rfl) hS105 rfl (fun wq hq => rf_move rfl) rfl ?_
                              refine vh_take (i := 1) (v := .pointer (some ⟨b9, 1, none⟩)) rfl rfl (by kernel_rfl) (by kernel_rfl) (by kernel_rfl) hS105 rfl (fun wq hq => rf_indexAddrA Tryz.underlying29 ti28 rfl rfl rfl rfl (by omega) (by omega)) (by simp) ?_
                              refine vh_take (i := 2) (v := .pointer (some ⟨p.rb, 0, none⟩)) rfl rfl (by kernel_rfl) (by kernel_rfl) (by kernel_rfl) hS105 rfl (fun wq hq => rf_load Tryz.underlying28 rfl rfl rfl ((hq.blk 0 rfl).cell rfl)) rfl ?_
                              refine vh_take (i := 3) (v := .pointer (some ⟨b22, 1, none⟩)) rfl rfl (by kernel_rfl) (by kernel_rfl) (by kernel_rfl) hS105 rfl (fun wq hq => rf_fieldAddr Tryz.underlying45 rfl ti41 rfl rfl) rfl ?_
                              refine vh_take (i := 4) (v := .agg #[.int .i64 q.key.table, .int .i64 q.key.row]) rfl rfl (by kernel_rfl) (by kernel_rfl) (by kernel_rfl) hS105 rfl (fun wq hq => rf_loadBlk Tryz.underlying41 rfl ti41 rfl rfl (hq.blk 1 rfl) (leb rfl)) rfl ?_
                              refine vh_one (i := 5) (by kernel_rfl) rfl rfl ?_
                              refine wl_tr H105 rfl [] (part9_tr p.rb p.x _ hr hal q.key) rfl (.own 8 rfl Le.rfl .nil) (rf_call Tryz.call8 rfl rfl) rfl ?_
                              rintro _ w106 _ ⟨rfl, rfl⟩ H106
                              refine wl_nil ?_
                              have hS107 : St w0 S0 [rdH encOpR 10 a n c qs] w106 [blkH b9 #[rvP o0, .pointer (some ⟨p.rb, 0, none⟩)] 29, blkH b22 #[.int .i64 kd, .int .i64 q.key.table, .int .i64 q.key.row, .int .i64 q.batch, .int .i64 q.index, .int .i64 q.v, .int .i64 cn, .bool q.cell.is_, .int .i64 q.cell.value, .bool q.two] 45] := H106.pick' [4, 9] rfl rfl
                              refine vh_back hS107 ?_
                              refine vh_take (i := 6) (v := .pointer (some ⟨b22, 6, none⟩)) rfl rfl (by kernel_rfl) (by kernel_rfl) (by kernel_rfl) hS107 rfl (fun wq hq => rf_fieldAddr Tryz.underlying45 rfl ti3 rfl rfl) rfl ?_
                              refine vh_last (by kernel_rfl) (by kernel_rfl) rfl ?_
                              refine wl_storeH H106 9 (v := .int .i64 (partF p.st q.key)) (A' := #[.int .i64 kd, .int .i64 q.key.table, .int .i64 q.key.row, .int .i64 q.batch, .int .i64 q.index, .int .i64 q.v, .int .i64 (partF p.st q.key), .bool q.cell.is_, .int .i64 q.cell.value, .bool q.two]) rfl rfl ti3 rfl rfl rfl rfl rfl (ltb rfl) rfl ?_
                              intro w108 H108
                              refine wl_nil ?_
                              refine vh_end ?_
                              refine thn ?_
                              refine seq_ ?_
                              refine region_h (S := (fun wq => St w0 S0 [rdH encOpR 10 a n c qs] wq [blkH b8 #[svP o0, .pointer (some ⟨p.s, 0, none⟩)] 27, blkH b9 #[rvP o0, .pointer (some ⟨p.rb, 0, none⟩)] 29, blkH b22 #[.int .i64 kd, .int .i64 q.key.table, .int .i64 q.key.row, .int .i64 q.batch, .int .i64 q.index, .int .i64 q.v, .int .i64 (partF p.st q.key), .bool q.cell.is_, .int .i64 q.cell.value, .bool q.two] 45])) mixedP ?_
                              intro w109 hk109
                              have H109 := H108.keep hk109
                              have hS109 : St w0 S0 [rdH encOpR 10 a n c qs] w109 [blkH b8 #[svP o0, .pointer (some ⟨p.s, 0, none⟩)] 27, blkH b9 #[rvP o0, .pointer (some ⟨p.rb, 0, none⟩)] 29, blkH b22 #[.int .i64 kd, .int .i64 q.key.table, .int .i64 q.key.row, .int .i64 q.batch, .int .i64 q.index, .int .i64 q.v, .int .i64 (partF p.st q.key), .bool q.cell.is_, .int .i64 q.cell.value, .bool q.two] 45] := H109.pick' [3, 4, 9] rfl rfl
                              refine wh_take (i := 0) (v := .int .i64 (1 : Int)) rfl (by kernel_rfl) (by kernel_rfl) (by kernel_rfl) hS109 rfl (fun wq hq => rf_move rfl) rfl ?_
                              refine wh_take (i := 1) (v := .pointer (some ⟨b8, 1, none⟩)) rfl (by kernel_rfl) (by kernel_rfl) (by kernel_rfl) hS109 rfl (fun wq hq => rf_indexAddrA Tryz.underlying27 ti26 rfl rfl rfl rfl (by omega) (by omega)) (by simp) ?_
                              refine wh_take (i := 2) (v := .pointer (some ⟨p.s, 0, none⟩)) rfl (by kernel_rfl) (by kernel_rfl) (by kernel_rfl) hS109 rfl (fun wq hq => rf_load Tryz.underlying26 rfl rfl rfl ((hq.blk 0 rfl).cell rfl)) rfl ?_
                              refine wh_take (i := 3) (v := .int .i64 (1 : Int)) rfl (by kernel_rfl) (by kernel_rfl) (by kernel_rfl) hS109 rfl (fun wq hq => rf_move rfl) rfl ?_
                              refine wh_take (i := 4) (v := .pointer (some ⟨b9, 1, none⟩)) rfl (by kernel_rfl) (by kernel_rfl) (by kernel_rfl) hS109 rfl (fun wq hq => rf_indexAddrA Tryz.underlying29 ti28 rfl rfl rfl rfl (by omega) (by omega)) (by simp) ?_
                              refine wh_take (i := 5) (v := .pointer (some ⟨p.rb, 0, none⟩)) rfl (by kernel_rfl) (by kernel_rfl) (by kernel_rfl) hS109 rfl (fun wq hq => rf_load Tryz.underlying28 rfl rfl rfl ((hq.blk 1 rfl).cell rfl)) rfl ?_
                              refine wh_take (i := 6) (v := .agg #[.int .i64 kd, .int .i64 q.key.table, .int .i64 q.key.row, .int .i64 q.batch, .int .i64 q.index, .int .i64 q.v, .int .i64 (partF p.st q.key), .bool q.cell.is_, .int .i64 q.cell.value, .bool q.two]) rfl (by kernel_rfl) (by kernel_rfl) (by kernel_rfl) hS109 rfl (fun wq hq => rf_loadBlk Tryz.underlying45 rfl ti45 rfl rfl (hq.blk 2 rfl) (leb rfl)) rfl ?_
                              refine wh_take (i := 7) (v := .pointer (some ⟨kb, 0, none⟩)) rfl (by kernel_rfl) (by kernel_rfl) (by kernel_rfl) hS109 rfl (fun wq hq => rf_move rfl) rfl ?_
                              refine wh_one (i := 8) (by kernel_rfl) rfl ?_
                              refine wl_tr H109 rfl [7] (asked_tr p.s p.rb kb M4 p.st p.x (⟨kd, ⟨q.key.table, q.key.row⟩, q.batch, q.index, q.v, (partF p.st q.key), ⟨q.cell.is_, q.cell.value⟩, q.two⟩ : OpR) hr (by omega) (by omega)) rfl (.own 6 rfl Le.rfl (.own 8 rfl Le.rfl .nil)) (rf_call Tryz.call7 rfl rfl) rfl ?_
                              rintro _ w110 _ ⟨rfl, rfl⟩ H110
                              refine wl_nil ?_
                              have hS111 : St w0 S0 [rdH encOpR 10 a n c qs] w110 [blkH b8 #[svP o0, .pointer (some ⟨p.s, 0, none⟩)] 27, blkH b9 #[rvP o0, .pointer (some ⟨p.rb, 0, none⟩)] 29, blkH b22 #[.int .i64 kd, .int .i64 q.key.table, .int .i64 q.key.row, .int .i64 q.batch, .int .i64 q.index, .int .i64 q.v, .int .i64 (partF p.st q.key), .bool q.cell.is_, .int .i64 q.cell.value, .bool q.two] 45] := H110.pick' [3, 4, 9] rfl rfl
                              refine wh_back hS111 ?_
                              refine wh_take (i := 9) (v := .bool false) rfl (by kernel_rfl) (by kernel_rfl) (by kernel_rfl) hS111 rfl (fun wq hq => rf_not rfl rfl) rfl ?_
                              refine wh_done (by kernel_rfl) ?_
                              refine thn ?_
                              refine condF rfl rfl ?_
                              refine skip_ ?_
                              refine bln ?_
                              refine thn ?_
                              refine region_ ?_
                              refine wl_valE (v := .int .i64 kd) rfl (rf_move rfl) rfl ?_
                              refine wl_valE (v := .int .i64 (kd + (1 : Int))) rfl (rf_add rfl rfl rfl rfl (IntWalk.i64_in _ (by omega))) rfl ?_
                              refine wl_valE (v := .int .i64 (kd + (1 : Int))) rfl (rf_assign rfl) rfl ?_
                              refine wl_nil ?_
                              refine thn ?_
                              refine ⟨((9 : Int) - (kd + 1)).toNat, _, rfl, (by omega), _, kd + 1, kd, partF p.st q.key, M4 + 2, upds_self ⟨rfl, rfl, rfl, rfl, rfl, rfl, rfl, rfl, trivial⟩, rfl, ⟨by omega, by omega⟩, by omega, H110.pick' [0, 1, 2, 3, 4, 5, 6, 7, 8, 9] rfl rfl⟩
                            · have c151p := of_decide_eq_false c151
                              refine exit_ ?_
                              refine thx (thx (blx ?_))
                              refine bln ?_
                              refine thn ?_
                              refine region_ ?_
                              refine wl_valE (v := .int .i64 ((i : Nat) : Int)) rfl (rf_move rfl) rfl ?_
                              refine wl_valE (v := .int .i64 ((i + 1 : Nat) : Int)) rfl (rf_add rfl rfl rfl rfl (IntWalk.i64_in _ (by omega))) rfl ?_
                              refine wl_valE (v := .int .i64 ((i + 1 : Nat) : Int)) rfl (rf_assign rfl) rfl ?_
                              refine wl_nil ?_
                              refine thn ?_
                              refine ⟨n - (i + 1), _, rfl, (by omega), _, i + 1, M4, upds_self ⟨rfl, rfl, rfl, rfl, rfl, rfl, trivial⟩, rfl, by omega, by omega, HL5_1.pick' [0, 1, 2, 3, 4, 5, 6, 7, 8] rfl rfl⟩
                        · have c143p := of_decide_eq_false c143
                          refine exit_ ?_
                          refine thx (thx (blx ?_))
                          refine bln ?_
                          refine thn ?_
                          refine region_ ?_
                          refine wl_valE (v := .int .i64 (1 : Int)) rfl (rf_move rfl) rfl ?_
                          refine wl_valE (v := .int .i64 ((1 + 1 : Nat) : Int)) rfl (rf_add rfl rfl rfl rfl (IntWalk.i64_in _ (by omega))) rfl ?_
                          refine wl_valE (v := .int .i64 ((1 + 1 : Nat) : Int)) rfl (rf_assign rfl) rfl ?_
                          refine wl_nil ?_
                          refine thn ?_
                          have H112 := HL4_1.fold [6, 8] (m := [stoH p.s p.st, rfH p.rb p.x]) rfl rfl
                          try dsimp only [putsH, setH, List.cons_append, List.nil_append] at H112
                          refine ⟨2 - 2, _, rfl, (by omega), _, 2, M3, upds_self ⟨rfl, rfl, rfl, rfl, rfl, trivial⟩, rfl, by omega, by omega, H112.pick' [0, 1, 2, 3, 4, 5, 6, 7] rfl rfl⟩
            · have c111p := of_decide_eq_false c111
              refine exit_ ?_
              refine thx (thx (blx ?_))
              refine thn ?_
              refine seq_ ?_
              refine region_ ?_
              refine wl_valE (v := .pointer (some ⟨kb, 0, none⟩)) rfl (rf_move rfl) rfl ?_
              refine wl_tr HL2 rfl [] (whole_tr kb M (by omega)) rfl (.own 7 rfl Le.rfl .nil) (rf_call Tryz.call9 rfl rfl) rfl ?_
              rintro _ w113 _ ⟨rfl, rfl⟩ H113
              refine wl_valE (v := .bool true) rfl (rf_assign rfl) rfl ?_
              refine wl_nil ?_
              refine thn ?_
              refine ret_ ?_
              refine fin1 (v := .bool true) Tryz.results3 rfl rfl ?_
              exact ⟨_, rfl, H113.pick' [] rfl rfl⟩
end Go.Proofs.YtojcddlpkfhodaaGreat.W
