import Derived.Test.YtojcddlpkfhodaaGreatQ6
import Derived.KernelRfl
namespace Go.Proofs.YtojcddlpkfhodaaGreat.W
open Go Go.Wk
set_option linter.unusedVariables false
set_option linter.unusedSimpArgs false
set_option maxRecDepth 100000 in
theorem bchain_tr (kb N : Nat) (a : Option Addr) (n c : Nat) (l : List Ver) (a2 : Option Addr) (n2 c2 : Nat) (l2 : List Ver) (hN : N ≤ 1073741824) (hn : n ≤ 1073741824) (hn2 : n2 ≤ 1073741824) : Tr Tryz.prog 31 [.pointer (some ⟨kb, 0, none⟩), .slice a n c, .slice a2 n2 c2] [] [bookH kb N, slH encVer 5 71 a n c l, slH encVer 5 71 a2 n2 c2 l2] (fun v m => v = .tuple #[] ∧ m = [bookH kb (N + 1)]) := by
  intro w0 S0 H0
  obtain ⟨y, hy, H1⟩ := bookH.open_ H0 0 rfl rfl
  try dsimp only [putsH, setH, List.cons_append, List.nil_append] at H1
  have hb1 := hy.b1
  have hb2 := hy.b2
  have hb3 := hy.b3
  have he4 := hy.e4
  have he3 := hy.e3
  have hl := (slH_len H0 1 rfl).1
  refine enterR Tryz.func31 rfl Tryz.ntmps31 rfl ?_
  intro g0
  refine seq_ ?_
  refine region_ ?_
  refine wl_valE (v := .pointer (some ⟨kb, 0, none⟩)) rfl (rf_move rfl) rfl ?_
  refine wl_valE (v := .pointer (some ⟨kb, 0, none⟩)) rfl (rf_nilCheckP rfl rfl) rfl ?_
  refine wl_valE (v := .pointer (some ⟨kb, 0, none⟩)) rfl (rf_fieldAddr Tryz.underlying39 rfl ti36 rfl rfl) rfl ?_
  refine wl_valE (v := .slice y.s1.a y.h1.length y.s1.c) rfl (rf_load Tryz.underlying36 rfl rfl rfl ((H1.blk 0 rfl).cell rfl)) rfl ?_
  refine wl_valE (v := .int .i64 ((y.h1.length : Nat) : Int)) rfl (rf_len_slice Tryz.underlying36 rfl rfl) rfl ?_
  refine wl_valE (v := .int .i64 ((y.h1.length : Nat) : Int)) rfl (rf_assign rfl) rfl ?_
  refine wl_nil ?_
  refine thn ?_
  refine seq_ ?_
  refine seq_ ?_
  refine region_ ?_
  refine wl_valE (v := .int .i64 (0 : Int)) rfl (rf_assign rfl) rfl ?_
  refine wl_nil ?_
  refine thn ?_
  refine block_ ?_
  refine loop_ (fun qk_ qf_ qw_ => ∃ (g : Nat → Value) (j : Nat), qf_ = upds g [(0, .pointer (some ⟨kb, 0, none⟩)), (1, .slice a n c), (2, .slice a2 n2 c2), (6, .int .i64 ((y.h1.length : Nat) : Int)), (7, .int .i64 ((j : Nat) : Int))] ∧ qk_ = n - j ∧ (j ≤ n) ∧ St w0 S0 [] qw_ [blkH kb #[.slice y.s1.a y.h1.length y.s1.c, .slice y.s2.a y.h2.length y.s2.c, .slice y.s3.a y.h3.length y.s3.c, .slice y.s4.a y.h4.length y.s4.c] 39, slH encVer 5 71 a n c (mrkV y.h1.length j ++ l.drop j), slH encVer 5 71 a2 n2 c2 l2, slH encSv 1 81 y.s1.a y.h1.length y.s1.c y.h1, slH encSv 1 85 y.s2.a y.h2.length y.s2.c y.h2, slH encSv 1 81 y.s3.a y.h3.length y.s3.c y.h3, slH encSv 1 81 y.s4.a y.h4.length y.s4.c y.h4, ssH encVer 5 71 y.h1 y.l1, ssH encKey 2 41 y.h2 y.l2, ssH encVer 5 71 y.h3 y.l3, ssH encVer 5 71 y.h4 y.l3]) (n - 0) ?_ ?_
  · refine ⟨_, 0, upds_self ⟨rfl, rfl, rfl, rfl, rfl, trivial⟩, rfl, Nat.zero_le _, H1.pick' [0, 1, 2, 3, 4, 5, 6, 7, 8, 9, 10] rfl rfl⟩
  · rintro lk0 _ wl0 ⟨gl0, j, rfl, hlk0, hj, HL0⟩
    refine seq_ ?_
    refine seq_ ?_
    refine region_ ?_
    refine wl_valE (v := .int .i64 ((j : Nat) : Int)) rfl (rf_move rfl) rfl ?_
    refine wl_valE (v := .slice a n c) rfl (rf_move rfl) rfl ?_
    refine wl_valE (v := .int .i64 ((n : Nat) : Int)) rfl (rf_len_slice Tryz.underlying81 rfl rfl) rfl ?_
    refine wl_valE (v := .bool (decide (((j : Nat) : Int) < ((n : Nat) : Int)))) rfl (rf_lss rfl rfl rfl rfl) rfl ?_
    refine wl_nil ?_
    refine thn ?_
    refine cond_ (t := decide (((j : Nat) : Int) < ((n : Nat) : Int))) rfl rfl (fun c18 => ?_) (fun c18 => ?_)
    · have c18p := of_decide_eq_true c18
      refine skip_ ?_
      refine thn ?_
      refine seq_ ?_
      refine block_ ?_
      refine region_ ?_
      refine wl_valE (v := .slice a n c) rfl (rf_move rfl) rfl ?_
      refine wl_valE (v := .int .i64 ((j : Nat) : Int)) rfl (rf_move rfl) rfl ?_
      refine wl_valE (v := .int .i64 ((y.h1.length : Nat) : Int)) rfl (rf_move rfl) rfl ?_
      refine wl_valE (v := .int .i64 ((-1 : Int) - ((y.h1.length : Nat) : Int))) rfl (rf_sub rfl rfl rfl rfl (IntWalk.i64_in _ (by omega))) rfl ?_
      refine wl_valE (v := .int .i64 ((j : Nat) : Int)) rfl (rf_move rfl) rfl ?_
      refine wl_valE (v := .agg #[.int .i64 ((-1 : Int) - ((y.h1.length : Nat) : Int)), .int .i64 ((j : Nat) : Int), .bool false, .bool false, .int .i64 (0 : Int)]) rfl (rf_build (offs := [(0, [.int .i64 ((-1 : Int) - ((y.h1.length : Nat) : Int))]), (1, [.int .i64 ((j : Nat) : Int)])]) (places := #[(0, 1), (1, 1), (2, 1), (3, 2)]) Tryz.underlying71 ti71 (fun w => by kernel_rfl) (.cons rfl rfl rfl rfl rfl rfl (.cons rfl rfl rfl rfl rfl rfl .nil))) rfl ?_
      refine wl_valE (v := .pointer (some ⟨ab a, ao a + j * 5, none⟩)) rfl (rf_indexAddrH Tryz.underlying81 ti71 rfl rfl rfl rfl (by omega) (by omega) (HL0.rdO 1 slH_rd)) rfl ?_
      have hn3 := slH_len HL0 1 rfl
      obtain ⟨x2, hx2⟩ : ∃ q_, (mrkV y.h1.length j ++ l.drop j)[j]? = some q_ := ⟨_, List.getElem?_eq_getElem (by omega)⟩
      refine wl_storeElH HL0 1 (enc := encVer) (i := j) (j := 0) (q := (⟨((-1 : Int) - ((y.h1.length : Nat) : Int)), ((j : Nat) : Int), false, ⟨false, (0 : Int)⟩⟩ : Ver)) (u := .agg #[.int .i64 ((-1 : Int) - ((y.h1.length : Nat) : Int)), .int .i64 ((j : Nat) : Int), .bool false, .bool false, .int .i64 (0 : Int)]) (cs := [.int .i64 ((-1 : Int) - ((y.h1.length : Nat) : Int)), .int .i64 ((j : Nat) : Int), .bool false, .bool false, .int .i64 (0 : Int)]) rfl rfl encVer_len ti71 rfl rfl rfl rfl rfl rfl oneAll hx2 (leb rfl) rfl ?_
      intro w4 H4
      have hx4 : ((mrkV y.h1.length j ++ l.drop j).set j (⟨((-1 : Int) - ((y.h1.length : Nat) : Int)), ((j : Nat) : Int), false, ⟨false, (0 : Int)⟩⟩ : Ver))[j]? = some (⟨((-1 : Int) - ((y.h1.length : Nat) : Int)), ((j : Nat) : Int), false, ⟨false, (0 : Int)⟩⟩ : Ver) := List.getElem?_set_self (List.getElem?_eq_some_iff.1 hx2).1
      have hn4 := slH_len H4 1 rfl
      have hrw5 : (mrkV y.h1.length j ++ l.drop j).set j (⟨((-1 : Int) - ((y.h1.length : Nat) : Int)), ((j : Nat) : Int), false, ⟨false, (0 : Int)⟩⟩ : Ver) = mrkV y.h1.length (j + 1) ++ l.drop (j + 1) := mrkV_set (by omega)
      rw [hrw5] at H4
      refine wl_nil ?_
      refine bln ?_
      refine thn ?_
      refine region_ ?_
      refine wl_valE (v := .int .i64 ((j : Nat) : Int)) rfl (rf_move rfl) rfl ?_
      refine wl_valE (v := .int .i64 ((j + 1 : Nat) : Int)) rfl (rf_add rfl rfl rfl rfl (IntWalk.i64_in _ (by omega))) rfl ?_
      refine wl_valE (v := .int .i64 ((j + 1 : Nat) : Int)) rfl (rf_assign rfl) rfl ?_
      refine wl_nil ?_
      refine thn ?_
      refine ⟨n - (j + 1), _, rfl, (by omega), _, j + 1, upds_self ⟨rfl, rfl, rfl, rfl, rfl, trivial⟩, rfl, by omega, H4.pick' [0, 1, 2, 3, 4, 5, 6, 7, 8, 9, 10] rfl rfl⟩
    · have c18p := of_decide_eq_false c18
      refine exit_ ?_
      refine thx (thx (blx ?_))
      refine thn ?_
      refine seq_ ?_
      refine region_ ?_
      refine wl_valE (v := .slice a n c) rfl (rf_move rfl) rfl ?_
      refine wl_valE (v := .slice a n c) rfl (rf_assign rfl) rfl ?_
      refine wl_nil ?_
      refine thn ?_
      refine seq_ ?_
      refine seq_ ?_
      refine region_ ?_
      refine wl_valE (v := .slice a n c) rfl (rf_move rfl) rfl ?_
      refine wl_valE (v := .int .i64 ((n : Nat) : Int)) rfl (rf_len_slice Tryz.underlying81 rfl rfl) rfl ?_
      refine wl_valE (v := .int .i64 ((n : Nat) : Int)) rfl (rf_assign rfl) rfl ?_
      refine wl_nil ?_
      refine thn ?_
      refine block_ ?_
      obtain rfl : n = j := by omega
      have hrw6 : mrkV y.h1.length n ++ l.drop n = mrkV y.h1.length (n + 0) := by rw [drop_all (by omega), List.append_nil]; rfl
      rw [hrw6] at HL0
      refine loop_ (fun qk_ qf_ qw_ => ∃ (g : Nat → Value) (q : Nat) (wa : Option Addr) (wc : Nat), qf_ = upds g [(0, .pointer (some ⟨kb, 0, none⟩)), (1, .slice a n c), (2, .slice a2 n2 c2), (6, .int .i64 ((y.h1.length : Nat) : Int)), (8, .slice wa (n + q) wc), (9, .int .i64 ((n + q : Nat) : Int))] ∧ qk_ = 40 - q ∧ (q ≤ 40) ∧ St w0 S0 [] qw_ [blkH kb #[.slice y.s1.a y.h1.length y.s1.c, .slice y.s2.a y.h2.length y.s2.c, .slice y.s3.a y.h3.length y.s3.c, .slice y.s4.a y.h4.length y.s4.c] 39, slH encVer 5 71 wa (n + q) wc (mrkV y.h1.length (n + q)), slH encVer 5 71 a2 n2 c2 l2, slH encSv 1 81 y.s1.a y.h1.length y.s1.c y.h1, slH encSv 1 85 y.s2.a y.h2.length y.s2.c y.h2, slH encSv 1 81 y.s3.a y.h3.length y.s3.c y.h3, slH encSv 1 81 y.s4.a y.h4.length y.s4.c y.h4, ssH encVer 5 71 y.h1 y.l1, ssH encKey 2 41 y.h2 y.l2, ssH encVer 5 71 y.h3 y.l3, ssH encVer 5 71 y.h4 y.l3]) (40 - 0) ?_ ?_
      · refine ⟨_, 0, a, c, upds_self ⟨rfl, rfl, rfl, rfl, rfl, rfl, trivial⟩, rfl, Nat.zero_le _, HL0.pick' [0, 1, 2, 3, 4, 5, 6, 7, 8, 9, 10] rfl rfl⟩
      · rintro lk1 _ wl1 ⟨gl1, q, wa, wc, rfl, hlk1, hq, HL1⟩
        refine seq_ ?_
        refine seq_ ?_
        refine region_ ?_
        refine wl_valE (v := .int .i64 ((n + q : Nat) : Int)) rfl (rf_move rfl) rfl ?_
        refine wl_valE (v := .slice a n c) rfl (rf_move rfl) rfl ?_
        refine wl_valE (v := .int .i64 ((n : Nat) : Int)) rfl (rf_len_slice Tryz.underlying81 rfl rfl) rfl ?_
        refine wl_valE (v := .int .i64 ((n + 40 : Nat) : Int)) rfl (rf_add rfl rfl rfl rfl (IntWalk.i64_in _ (by omega))) rfl ?_
        refine wl_valE (v := .bool (decide (((n + q : Nat) : Int) < ((n + 40 : Nat) : Int)))) rfl (rf_lss rfl rfl rfl rfl) rfl ?_
        refine wl_nil ?_
        refine thn ?_
        refine cond_ (t := decide (((n + q : Nat) : Int) < ((n + 40 : Nat) : Int))) rfl rfl (fun c35 => ?_) (fun c35 => ?_)
        · have c35p := of_decide_eq_true c35
          refine skip_ ?_
          refine thn ?_
          refine seq_ ?_
          refine block_ ?_
          refine region_ ?_
          refine wl_valE (v := .slice wa (n + q) wc) rfl (rf_move rfl) rfl ?_
          refine wl_valE (v := .int .i64 ((y.h1.length : Nat) : Int)) rfl (rf_move rfl) rfl ?_
          refine wl_valE (v := .int .i64 ((-1 : Int) - ((y.h1.length : Nat) : Int))) rfl (rf_sub rfl rfl rfl rfl (IntWalk.i64_in _ (by omega))) rfl ?_
          refine wl_valE (v := .int .i64 ((n + q : Nat) : Int)) rfl (rf_move rfl) rfl ?_
          refine wl_valE (v := .agg #[.int .i64 ((-1 : Int) - ((y.h1.length : Nat) : Int)), .int .i64 ((n + q : Nat) : Int), .bool false, .bool false, .int .i64 (0 : Int)]) rfl (rf_build (offs := [(0, [.int .i64 ((-1 : Int) - ((y.h1.length : Nat) : Int))]), (1, [.int .i64 ((n + q : Nat) : Int)])]) (places := #[(0, 1), (1, 1), (2, 1), (3, 2)]) Tryz.underlying71 ti71 (fun w => by kernel_rfl) (.cons rfl rfl rfl rfl rfl rfl (.cons rfl rfl rfl rfl rfl rfl .nil))) rfl ?_
          refine wl_buildSliceH (enc := encVer) HL1 [mkV y.h1.length (n + q)] encVer_len Tryz.underlying81 ti71 rfl rfl rfl (.cons rfl rfl rfl rfl rfl rfl .nil) ?_
          intro a7 w8 H8
          refine wl_appendH (enc := encVer) (N := n + (q + 1)) H8 1 rfl rfl encVer_len encVer_one Tryz.underlying81 ti71 rfl rfl rfl rfl rfl (H8.rdO 11 slH_rd) (by omega) (by omega) (by omega) ?_
          intro a9 c9 w9 hc9 hd9 H9
          have hrw10 : (mrkV y.h1.length (n + q)) ++ ([mkV y.h1.length (n + q)]) = mrkV y.h1.length (n + (q + 1)) := mrkV_succ _ _
          rw [hrw10] at H9
          refine wl_valE (v := .slice a9 (n + (q + 1)) c9) rfl (rf_assign rfl) rfl ?_
          refine wl_nil ?_
          refine bln ?_
          refine thn ?_
          refine region_ ?_
          refine wl_valE (v := .int .i64 ((n + q : Nat) : Int)) rfl (rf_move rfl) rfl ?_
          refine wl_valE (v := .int .i64 ((n + (q + 1) : Nat) : Int)) rfl (rf_add rfl rfl rfl rfl (by rw [IntWalk.i64_in _ (by omega)]; omega)) rfl ?_
          refine wl_valE (v := .int .i64 ((n + (q + 1) : Nat) : Int)) rfl (rf_assign rfl) rfl ?_
          refine wl_nil ?_
          refine thn ?_
          refine ⟨40 - (q + 1), _, rfl, (by omega), _, q + 1, a9, c9, upds_self ⟨rfl, rfl, rfl, rfl, rfl, rfl, trivial⟩, rfl, by omega, H9.pick' [0, 1, 2, 3, 4, 5, 6, 7, 8, 9, 10] rfl rfl⟩
        · have c35p := of_decide_eq_false c35
          refine exit_ ?_
          refine thx (thx (blx ?_))
          refine thn ?_
          refine seq_ ?_
          obtain rfl : q = 40 := by omega
          refine region_ ?_
          refine wl_valE (v := .pointer (some ⟨kb, 0, none⟩)) rfl (rf_move rfl) rfl ?_
          refine wl_valE (v := .pointer (some ⟨kb, 0, none⟩)) rfl (rf_move rfl) rfl ?_
          refine wl_valE (v := .pointer (some ⟨kb, 0, none⟩)) rfl (rf_nilCheckP rfl rfl) rfl ?_
          refine wl_valE (v := .pointer (some ⟨kb, 0, none⟩)) rfl (rf_fieldAddr Tryz.underlying39 rfl ti36 rfl rfl) rfl ?_
          refine wl_valE (v := .slice y.s1.a y.h1.length y.s1.c) rfl (rf_load Tryz.underlying36 rfl rfl rfl ((HL1.blk 0 rfl).cell rfl)) rfl ?_
          refine wl_valE (v := .slice wa (n + 40) wc) rfl (rf_move rfl) rfl ?_
          refine wl_buildSliceH (enc := encSv) HL1 [(⟨wa, n + 40, wc⟩ : Sv)] encSv_len Tryz.underlying36 ti81 rfl rfl rfl (.cons rfl rfl rfl rfl rfl rfl .nil) ?_
          intro a11 w12 H12
          refine wl_appendH (enc := encSv) (N := (y.h1 ++ [(⟨wa, n + 40, wc⟩ : Sv)]).length) H12 3 rfl rfl encSv_len encSv_one Tryz.underlying36 ti81 rfl rfl rfl rfl rfl (H12.rdO 11 slH_rd) (by simp) (by simp; omega) (by simp; omega) ?_
          intro b1 d1 w13 hc13 hd13 H13
          refine wl_valE (v := .pointer (some ⟨kb, 0, none⟩)) rfl (rf_nilCheckP rfl rfl) rfl ?_
          refine wl_valE (v := .pointer (some ⟨kb, 0, none⟩)) rfl (rf_fieldAddr Tryz.underlying39 rfl ti36 rfl rfl) rfl ?_
          refine wl_storeH H13 0 (v := .slice b1 ((y.h1 ++ [(⟨wa, n + 40, wc⟩ : Sv)]).length) d1) (A' := #[.slice b1 ((y.h1 ++ [(⟨wa, n + 40, wc⟩ : Sv)]).length) d1, .slice y.s2.a y.h2.length y.s2.c, .slice y.s3.a y.h3.length y.s3.c, .slice y.s4.a y.h4.length y.s4.c]) rfl rfl ti36 rfl rfl rfl rfl rfl (ltb rfl) rfl ?_
          intro w14 H14
          refine wl_nil ?_
          refine thn ?_
          refine seq_ ?_
          refine region_ ?_
          refine wl_valE (v := .pointer (some ⟨kb, 0, none⟩)) rfl (rf_move rfl) rfl ?_
          refine wl_valE (v := .pointer (some ⟨kb, 0, none⟩)) rfl (rf_move rfl) rfl ?_
          refine wl_valE (v := .pointer (some ⟨kb, 0, none⟩)) rfl (rf_nilCheckP rfl rfl) rfl ?_
          refine wl_valE (v := .pointer (some ⟨kb, 2, none⟩)) rfl (rf_fieldAddr Tryz.underlying39 rfl ti36 rfl rfl) rfl ?_
          refine wl_valE (v := .slice y.s3.a y.h3.length y.s3.c) rfl (rf_load Tryz.underlying36 rfl rfl rfl ((H14.blk 0 rfl).cell rfl)) rfl ?_
          refine wl_valE (v := .slice a2 n2 c2) rfl (rf_move rfl) rfl ?_
          refine wl_buildSliceH (enc := encSv) H14 [(⟨a2, n2, c2⟩ : Sv)] encSv_len Tryz.underlying36 ti81 rfl rfl rfl (.cons rfl rfl rfl rfl rfl rfl .nil) ?_
          intro a15 w16 H16
          try dsimp only [putsH, setH, List.cons_append, List.nil_append] at H16
          refine wl_appendH (enc := encSv) (N := (y.h3 ++ [(⟨a2, n2, c2⟩ : Sv)]).length) H16 5 rfl rfl encSv_len encSv_one Tryz.underlying36 ti81 rfl rfl rfl rfl rfl (H16.rdO 12 slH_rd) (by simp) (by simp; omega) (by simp; omega) ?_
          intro b3 d3 w17 hc17 hd17 H17
          refine wl_valE (v := .pointer (some ⟨kb, 0, none⟩)) rfl (rf_nilCheckP rfl rfl) rfl ?_
          refine wl_valE (v := .pointer (some ⟨kb, 2, none⟩)) rfl (rf_fieldAddr Tryz.underlying39 rfl ti36 rfl rfl) rfl ?_
          refine wl_storeH H17 0 (v := .slice b3 ((y.h3 ++ [(⟨a2, n2, c2⟩ : Sv)]).length) d3) (A' := #[.slice b1 ((y.h1 ++ [(⟨wa, n + 40, wc⟩ : Sv)]).length) d1, .slice y.s2.a y.h2.length y.s2.c, .slice b3 ((y.h3 ++ [(⟨a2, n2, c2⟩ : Sv)]).length) d3, .slice y.s4.a y.h4.length y.s4.c]) rfl rfl ti36 rfl rfl rfl rfl rfl (ltb rfl) rfl ?_
          intro w18 H18
          refine wl_nil ?_
          refine thn ?_
          refine region_v 12 (fun wq => St w0 S0 [] wq [blkH kb #[.slice b1 ((y.h1 ++ [(⟨wa, n + 40, wc⟩ : Sv)]).length) d1, .slice y.s2.a y.h2.length y.s2.c, .slice b3 ((y.h3 ++ [(⟨a2, n2, c2⟩ : Sv)]).length) d3, .slice y.s4.a y.h4.length y.s4.c] 39]) mixedP (by kernel_rfl) ?_
          intro w19 hk19
          have H19 := H18.keep hk19
          have hS19 : St w0 S0 [] w19 [blkH kb #[.slice b1 ((y.h1 ++ [(⟨wa, n + 40, wc⟩ : Sv)]).length) d1, .slice y.s2.a y.h2.length y.s2.c, .slice b3 ((y.h3 ++ [(⟨a2, n2, c2⟩ : Sv)]).length) d3, .slice y.s4.a y.h4.length y.s4.c] 39] := H19.pick' [0] rfl rfl
          refine vh_take (i := 0) (v := .pointer (some ⟨kb, 0, none⟩)) rfl rfl (by kernel_rfl) (by kernel_rfl) (by kernel_rfl) hS19 rfl (fun wq hq => rf_move rfl) rfl ?_
          refine vh_take (i := 1) (v := .pointer (some ⟨kb, 0, none⟩)) rfl rfl (by kernel_rfl) (by kernel_rfl) (by kernel_rfl) hS19 rfl (fun wq hq => rf_move rfl) rfl ?_
          refine vh_take (i := 2) (v := .pointer (some ⟨kb, 0, none⟩)) rfl rfl (by kernel_rfl) (by kernel_rfl) (by kernel_rfl) hS19 rfl (fun wq hq => rf_nilCheckP rfl rfl) rfl ?_
          refine vh_take (i := 3) (v := .pointer (some ⟨kb, 3, none⟩)) rfl rfl (by kernel_rfl) (by kernel_rfl) (by kernel_rfl) hS19 rfl (fun wq hq => rf_fieldAddr Tryz.underlying39 rfl ti36 rfl rfl) rfl ?_
          refine vh_take (i := 4) (v := .slice y.s4.a y.h4.length y.s4.c) rfl rfl (by kernel_rfl) (by kernel_rfl) (by kernel_rfl) hS19 rfl (fun wq hq => rf_load Tryz.underlying36 rfl rfl rfl ((hq.blk 0 rfl).cell rfl)) rfl ?_
          refine vh_take (i := 6) (v := .slice a2 n2 c2) rfl rfl (by kernel_rfl) (by kernel_rfl) (by kernel_rfl) hS19 rfl (fun wq hq => rf_move rfl) rfl ?_
          refine vh_one (i := 5) (by kernel_rfl) rfl rfl ?_
          refine wl_buildSlice0H (enc := encVer) H19 encVer_len Tryz.underlying81 ti71 ?_
          intro az w21 H21
          refine wl_nil ?_
          have hS22 : St w0 S0 [] w21 [blkH kb #[.slice b1 ((y.h1 ++ [(⟨wa, n + 40, wc⟩ : Sv)]).length) d1, .slice y.s2.a y.h2.length y.s2.c, .slice b3 ((y.h3 ++ [(⟨a2, n2, c2⟩ : Sv)]).length) d3, .slice y.s4.a y.h4.length y.s4.c] 39] := H21.pick' [0] rfl rfl
          refine vh_back hS22 ?_
          refine vh_one (i := 7) (by kernel_rfl) rfl rfl ?_
          refine wl_appendH (enc := encVer) (N := n2) H21 13 rfl rfl encVer_len encVer_one Tryz.underlying81 ti71 rfl rfl rfl rfl rfl (H21.rdO 2 slH_rd) (Nat.zero_add _) (by omega) (by omega) ?_
          intro aw cw w23 hc23 hd23 H23
          try dsimp only [putsH, setH, List.cons_append, List.nil_append] at H23
          refine wl_nil ?_
          have hS24 : St w0 S0 [] w23 [blkH kb #[.slice b1 ((y.h1 ++ [(⟨wa, n + 40, wc⟩ : Sv)]).length) d1, .slice y.s2.a y.h2.length y.s2.c, .slice b3 ((y.h3 ++ [(⟨a2, n2, c2⟩ : Sv)]).length) d3, .slice y.s4.a y.h4.length y.s4.c] 39] := H23.pick' [0] rfl rfl
          refine vh_back hS24 ?_
          refine vh_one (i := 8) (by kernel_rfl) rfl rfl ?_
          refine wl_buildSliceH (enc := encSv) H23 [(⟨aw, n2, cw⟩ : Sv)] encSv_len Tryz.underlying36 ti81 rfl rfl rfl (.cons rfl rfl rfl rfl rfl rfl .nil) ?_
          intro a25 w26 H26
          refine wl_nil ?_
          have hS27 : St w0 S0 [] w26 [blkH kb #[.slice b1 ((y.h1 ++ [(⟨wa, n + 40, wc⟩ : Sv)]).length) d1, .slice y.s2.a y.h2.length y.s2.c, .slice b3 ((y.h3 ++ [(⟨a2, n2, c2⟩ : Sv)]).length) d3, .slice y.s4.a y.h4.length y.s4.c] 39] := H26.pick' [0] rfl rfl
          refine vh_back hS27 ?_
          refine vh_one (i := 9) (by kernel_rfl) rfl rfl ?_
          refine wl_appendH (enc := encSv) (N := (y.h4 ++ [(⟨aw, n2, cw⟩ : Sv)]).length) H26 6 rfl rfl encSv_len encSv_one Tryz.underlying36 ti81 rfl rfl rfl rfl rfl (H26.rdO 14 slH_rd) (by simp) (by simp; omega) (by simp; omega) ?_
          intro b4 d4 w28 hc28 hd28 H28
          refine wl_nil ?_
          have hS29 : St w0 S0 [] w28 [blkH kb #[.slice b1 ((y.h1 ++ [(⟨wa, n + 40, wc⟩ : Sv)]).length) d1, .slice y.s2.a y.h2.length y.s2.c, .slice b3 ((y.h3 ++ [(⟨a2, n2, c2⟩ : Sv)]).length) d3, .slice y.s4.a y.h4.length y.s4.c] 39] := H28.pick' [0] rfl rfl
          refine vh_back hS29 ?_
          refine vh_take (i := 10) (v := .pointer (some ⟨kb, 0, none⟩)) rfl rfl (by kernel_rfl) (by kernel_rfl) (by kernel_rfl) hS29 rfl (fun wq hq => rf_nilCheckP rfl rfl) rfl ?_
          refine vh_take (i := 11) (v := .pointer (some ⟨kb, 3, none⟩)) rfl rfl (by kernel_rfl) (by kernel_rfl) (by kernel_rfl) hS29 rfl (fun wq hq => rf_fieldAddr Tryz.underlying39 rfl ti36 rfl rfl) rfl ?_
          refine vh_last (by kernel_rfl) (by kernel_rfl) rfl ?_
          refine wl_storeH H28 0 (v := .slice b4 ((y.h4 ++ [(⟨aw, n2, cw⟩ : Sv)]).length) d4) (A' := #[.slice b1 ((y.h1 ++ [(⟨wa, n + 40, wc⟩ : Sv)]).length) d1, .slice y.s2.a y.h2.length y.s2.c, .slice b3 ((y.h3 ++ [(⟨a2, n2, c2⟩ : Sv)]).length) d3, .slice b4 ((y.h4 ++ [(⟨aw, n2, cw⟩ : Sv)]).length) d4]) rfl rfl ti36 rfl rfl rfl rfl rfl (ltb rfl) rfl ?_
          intro w30 H30
          refine wl_nil ?_
          refine vh_end ?_
          refine fin_ ?_
          refine fin0 Tryz.results31 ?_
          have H31 := H30.ssPush (t := (⟨wa, n + 40, wc⟩ : Sv)) 7 1 rfl rfl rfl (hy.e1)
          try dsimp only [putsH, setH, List.cons_append, List.nil_append] at H31
          try dsimp only [putsH, setH, List.cons_append, List.nil_append] at H31
          have H32 := H31.ssPush (t := (⟨a2, n2, c2⟩ : Sv)) 9 2 rfl rfl rfl (hy.e3)
          try dsimp only [putsH, setH, List.cons_append, List.nil_append] at H32
          have H33 := H32.ssPush (t := (⟨aw, n2, cw⟩ : Sv)) 10 13 rfl rfl rfl (hy.e4)
          try dsimp only [putsH, setH, List.cons_append, List.nil_append] at H33
          try dsimp only [putsH, setH, List.cons_append, List.nil_append] at H33
          have H34 := bookH.close_ (kb := kb) (N := N + 1) H33 [0, 3, 4, 5, 6, 7, 8, 9, 10] ⟨⟨b1, 0, d1⟩, y.h1 ++ [⟨wa, n + 40, wc⟩], y.l1 ++ [mrkV y.h1.length (n + 40)], y.s2, y.h2, y.l2, ⟨b3, 0, d3⟩, y.h3 ++ [⟨a2, n2, c2⟩], y.l3 ++ [l2], ⟨b4, 0, d4⟩, y.h4 ++ [⟨aw, n2, cw⟩]⟩ (hy.chain _ _ _ _ _ _ _ _) rfl rfl
          try dsimp only [putsH, setH, List.cons_append, List.nil_append] at H34
          exact ⟨_, ⟨rfl, rfl⟩, H34.pick' [0] rfl rfl⟩
set_option maxRecDepth 100000 in
theorem bset_tr (kb N : Nat) (a : Option Addr) (n c : Nat) (l : List Key) (hN : N ≤ 1073741824) (hn : n ≤ 1073741824) : Tr Tryz.prog 35 [.pointer (some ⟨kb, 0, none⟩), .slice a n c] [] [bookH kb N, slH encKey 2 41 a n c l] (fun v m => v = .tuple #[] ∧ m = [bookH kb (N + 1)]) := by
  intro w0 S0 H0
  obtain ⟨y, hy, H1⟩ := bookH.open_ H0 0 rfl rfl
  try dsimp only [putsH, setH, List.cons_append, List.nil_append] at H1
  have hb1 := hy.b1
  have hb2 := hy.b2
  have hb3 := hy.b3
  have he4 := hy.e4
  have he3 := hy.e3
  have hl := (slH_len H0 1 rfl).1
  refine enterR Tryz.func35 rfl Tryz.ntmps35 rfl ?_
  intro g0
  refine seq_ ?_
  refine region_ ?_
  refine wl_valE (v := .pointer (some ⟨kb, 0, none⟩)) rfl (rf_move rfl) rfl ?_
  refine wl_valE (v := .pointer (some ⟨kb, 0, none⟩)) rfl (rf_nilCheckP rfl rfl) rfl ?_
  refine wl_valE (v := .pointer (some ⟨kb, 1, none⟩)) rfl (rf_fieldAddr Tryz.underlying39 rfl ti37 rfl rfl) rfl ?_
  refine wl_valE (v := .slice y.s2.a y.h2.length y.s2.c) rfl (rf_load Tryz.underlying37 rfl rfl rfl ((H1.blk 0 rfl).cell rfl)) rfl ?_
  refine wl_valE (v := .int .i64 ((y.h2.length : Nat) : Int)) rfl (rf_len_slice Tryz.underlying37 rfl rfl) rfl ?_
  refine wl_valE (v := .int .i64 ((y.h2.length : Nat) : Int)) rfl (rf_assign rfl) rfl ?_
  refine wl_nil ?_
  refine thn ?_
  refine seq_ ?_
  refine seq_ ?_
  refine region_ ?_
  refine wl_valE (v := .int .i64 (0 : Int)) rfl (rf_assign rfl) rfl ?_
  refine wl_nil ?_
  refine thn ?_
  refine block_ ?_
  refine loop_ (fun qk_ qf_ qw_ => ∃ (g : Nat → Value) (j : Nat), qf_ = upds g [(0, .pointer (some ⟨kb, 0, none⟩)), (1, .slice a n c), (4, .int .i64 ((y.h2.length : Nat) : Int)), (5, .int .i64 ((j : Nat) : Int))] ∧ qk_ = n - j ∧ (j ≤ n) ∧ St w0 S0 [] qw_ [blkH kb #[.slice y.s1.a y.h1.length y.s1.c, .slice y.s2.a y.h2.length y.s2.c, .slice y.s3.a y.h3.length y.s3.c, .slice y.s4.a y.h4.length y.s4.c] 39, slH encKey 2 41 a n c (mrkK y.h2.length j ++ l.drop j), slH encSv 1 81 y.s1.a y.h1.length y.s1.c y.h1, slH encSv 1 85 y.s2.a y.h2.length y.s2.c y.h2, slH encSv 1 81 y.s3.a y.h3.length y.s3.c y.h3, slH encSv 1 81 y.s4.a y.h4.length y.s4.c y.h4, ssH encVer 5 71 y.h1 y.l1, ssH encKey 2 41 y.h2 y.l2, ssH encVer 5 71 y.h3 y.l3, ssH encVer 5 71 y.h4 y.l3]) (n - 0) ?_ ?_
  · refine ⟨_, 0, upds_self ⟨rfl, rfl, rfl, rfl, trivial⟩, rfl, Nat.zero_le _, H1.pick' [0, 1, 2, 3, 4, 5, 6, 7, 8, 9] rfl rfl⟩
  · rintro lk0 _ wl0 ⟨gl0, j, rfl, hlk0, hj, HL0⟩
    refine seq_ ?_
    refine seq_ ?_
    refine region_ ?_
    refine wl_valE (v := .int .i64 ((j : Nat) : Int)) rfl (rf_move rfl) rfl ?_
    refine wl_valE (v := .slice a n c) rfl (rf_move rfl) rfl ?_
    refine wl_valE (v := .int .i64 ((n : Nat) : Int)) rfl (rf_len_slice Tryz.underlying85 rfl rfl) rfl ?_
    refine wl_valE (v := .bool (decide (((j : Nat) : Int) < ((n : Nat) : Int)))) rfl (rf_lss rfl rfl rfl rfl) rfl ?_
    refine wl_nil ?_
    refine thn ?_
    refine cond_ (t := decide (((j : Nat) : Int) < ((n : Nat) : Int))) rfl rfl (fun c16 => ?_) (fun c16 => ?_)
    · have c16p := of_decide_eq_true c16
      refine skip_ ?_
      refine thn ?_
      refine seq_ ?_
      refine block_ ?_
      refine region_ ?_
      refine wl_valE (v := .slice a n c) rfl (rf_move rfl) rfl ?_
      refine wl_valE (v := .int .i64 ((j : Nat) : Int)) rfl (rf_move rfl) rfl ?_
      refine wl_valE (v := .int .i64 ((y.h2.length : Nat) : Int)) rfl (rf_move rfl) rfl ?_
      refine wl_valE (v := .int .i64 ((-1 : Int) - ((y.h2.length : Nat) : Int))) rfl (rf_sub rfl rfl rfl rfl (IntWalk.i64_in _ (by omega))) rfl ?_
      refine wl_valE (v := .int .i64 ((j : Nat) : Int)) rfl (rf_move rfl) rfl ?_
      refine wl_valE (v := .agg #[.int .i64 ((-1 : Int) - ((y.h2.length : Nat) : Int)), .int .i64 ((j : Nat) : Int)]) rfl (rf_build (offs := [(0, [.int .i64 ((-1 : Int) - ((y.h2.length : Nat) : Int))]), (1, [.int .i64 ((j : Nat) : Int)])]) (places := #[(0, 1), (1, 1)]) Tryz.underlying41 ti41 (fun w => by kernel_rfl) (.cons rfl rfl rfl rfl rfl rfl (.cons rfl rfl rfl rfl rfl rfl .nil))) rfl ?_
      refine wl_valE (v := .pointer (some ⟨ab a, ao a + j * 2, none⟩)) rfl (rf_indexAddrH Tryz.underlying85 ti41 rfl rfl rfl rfl (by omega) (by omega) (HL0.rdO 1 slH_rd)) rfl ?_
      have hn3 := slH_len HL0 1 rfl
      obtain ⟨x2, hx2⟩ : ∃ q_, (mrkK y.h2.length j ++ l.drop j)[j]? = some q_ := ⟨_, List.getElem?_eq_getElem (by omega)⟩
      refine wl_storeElH HL0 1 (enc := encKey) (i := j) (j := 0) (q := (⟨((-1 : Int) - ((y.h2.length : Nat) : Int)), ((j : Nat) : Int)⟩ : Key)) (u := .agg #[.int .i64 ((-1 : Int) - ((y.h2.length : Nat) : Int)), .int .i64 ((j : Nat) : Int)]) (cs := [.int .i64 ((-1 : Int) - ((y.h2.length : Nat) : Int)), .int .i64 ((j : Nat) : Int)]) rfl rfl encKey_len ti41 rfl rfl rfl rfl rfl rfl oneAll hx2 (leb rfl) rfl ?_
      intro w4 H4
      have hx4 : ((mrkK y.h2.length j ++ l.drop j).set j (⟨((-1 : Int) - ((y.h2.length : Nat) : Int)), ((j : Nat) : Int)⟩ : Key))[j]? = some (⟨((-1 : Int) - ((y.h2.length : Nat) : Int)), ((j : Nat) : Int)⟩ : Key) := List.getElem?_set_self (List.getElem?_eq_some_iff.1 hx2).1
      have hn4 := slH_len H4 1 rfl
      have hrw5 : (mrkK y.h2.length j ++ l.drop j).set j (⟨((-1 : Int) - ((y.h2.length : Nat) : Int)), ((j : Nat) : Int)⟩ : Key) = mrkK y.h2.length (j + 1) ++ l.drop (j + 1) := mrkK_set (by omega)
      rw [hrw5] at H4
      refine wl_nil ?_
      refine bln ?_
      refine thn ?_
      refine region_ ?_
      refine wl_valE (v := .int .i64 ((j : Nat) : Int)) rfl (rf_move rfl) rfl ?_
      refine wl_valE (v := .int .i64 ((j + 1 : Nat) : Int)) rfl (rf_add rfl rfl rfl rfl (IntWalk.i64_in _ (by omega))) rfl ?_
      refine wl_valE (v := .int .i64 ((j + 1 : Nat) : Int)) rfl (rf_assign rfl) rfl ?_
      refine wl_nil ?_
      refine thn ?_
      refine ⟨n - (j + 1), _, rfl, (by omega), _, j + 1, upds_self ⟨rfl, rfl, rfl, rfl, trivial⟩, rfl, by omega, H4.pick' [0, 1, 2, 3, 4, 5, 6, 7, 8, 9] rfl rfl⟩
    · have c16p := of_decide_eq_false c16
      refine exit_ ?_
      refine thx (thx (blx ?_))
      refine thn ?_
      refine seq_ ?_
      refine region_ ?_
      refine wl_valE (v := .slice a n c) rfl (rf_move rfl) rfl ?_
      refine wl_valE (v := .slice a n c) rfl (rf_assign rfl) rfl ?_
      refine wl_nil ?_
      refine thn ?_
      refine seq_ ?_
      refine seq_ ?_
      refine region_ ?_
      refine wl_valE (v := .slice a n c) rfl (rf_move rfl) rfl ?_
      refine wl_valE (v := .int .i64 ((n : Nat) : Int)) rfl (rf_len_slice Tryz.underlying85 rfl rfl) rfl ?_
      refine wl_valE (v := .int .i64 ((n : Nat) : Int)) rfl (rf_assign rfl) rfl ?_
      refine wl_nil ?_
      refine thn ?_
      refine block_ ?_
      obtain rfl : n = j := by omega
      have hrw6 : mrkK y.h2.length n ++ l.drop n = mrkK y.h2.length (n + 0) := by rw [drop_all (by omega), List.append_nil]; rfl
      rw [hrw6] at HL0
      refine loop_ (fun qk_ qf_ qw_ => ∃ (g : Nat → Value) (q : Nat) (wa : Option Addr) (wc : Nat), qf_ = upds g [(0, .pointer (some ⟨kb, 0, none⟩)), (1, .slice a n c), (4, .int .i64 ((y.h2.length : Nat) : Int)), (6, .slice wa (n + q) wc), (7, .int .i64 ((n + q : Nat) : Int))] ∧ qk_ = 40 - q ∧ (q ≤ 40) ∧ St w0 S0 [] qw_ [blkH kb #[.slice y.s1.a y.h1.length y.s1.c, .slice y.s2.a y.h2.length y.s2.c, .slice y.s3.a y.h3.length y.s3.c, .slice y.s4.a y.h4.length y.s4.c] 39, slH encKey 2 41 wa (n + q) wc (mrkK y.h2.length (n + q)), slH encSv 1 81 y.s1.a y.h1.length y.s1.c y.h1, slH encSv 1 85 y.s2.a y.h2.length y.s2.c y.h2, slH encSv 1 81 y.s3.a y.h3.length y.s3.c y.h3, slH encSv 1 81 y.s4.a y.h4.length y.s4.c y.h4, ssH encVer 5 71 y.h1 y.l1, ssH encKey 2 41 y.h2 y.l2, ssH encVer 5 71 y.h3 y.l3, ssH encVer 5 71 y.h4 y.l3]) (40 - 0) ?_ ?_
      · refine ⟨_, 0, a, c, upds_self ⟨rfl, rfl, rfl, rfl, rfl, trivial⟩, rfl, Nat.zero_le _, HL0.pick' [0, 1, 2, 3, 4, 5, 6, 7, 8, 9] rfl rfl⟩
      · rintro lk1 _ wl1 ⟨gl1, q, wa, wc, rfl, hlk1, hq, HL1⟩
        refine seq_ ?_
        refine seq_ ?_
        refine region_ ?_
        refine wl_valE (v := .int .i64 ((n + q : Nat) : Int)) rfl (rf_move rfl) rfl ?_
        refine wl_valE (v := .slice a n c) rfl (rf_move rfl) rfl ?_
        refine wl_valE (v := .int .i64 ((n : Nat) : Int)) rfl (rf_len_slice Tryz.underlying85 rfl rfl) rfl ?_
        refine wl_valE (v := .int .i64 ((n + 40 : Nat) : Int)) rfl (rf_add rfl rfl rfl rfl (IntWalk.i64_in _ (by omega))) rfl ?_
        refine wl_valE (v := .bool (decide (((n + q : Nat) : Int) < ((n + 40 : Nat) : Int)))) rfl (rf_lss rfl rfl rfl rfl) rfl ?_
        refine wl_nil ?_
        refine thn ?_
        refine cond_ (t := decide (((n + q : Nat) : Int) < ((n + 40 : Nat) : Int))) rfl rfl (fun c33 => ?_) (fun c33 => ?_)
        · have c33p := of_decide_eq_true c33
          refine skip_ ?_
          refine thn ?_
          refine seq_ ?_
          refine block_ ?_
          refine region_ ?_
          refine wl_valE (v := .slice wa (n + q) wc) rfl (rf_move rfl) rfl ?_
          refine wl_valE (v := .int .i64 ((y.h2.length : Nat) : Int)) rfl (rf_move rfl) rfl ?_
          refine wl_valE (v := .int .i64 ((-1 : Int) - ((y.h2.length : Nat) : Int))) rfl (rf_sub rfl rfl rfl rfl (IntWalk.i64_in _ (by omega))) rfl ?_
          refine wl_valE (v := .int .i64 ((n + q : Nat) : Int)) rfl (rf_move rfl) rfl ?_
          refine wl_valE (v := .agg #[.int .i64 ((-1 : Int) - ((y.h2.length : Nat) : Int)), .int .i64 ((n + q : Nat) : Int)]) rfl (rf_build (offs := [(0, [.int .i64 ((-1 : Int) - ((y.h2.length : Nat) : Int))]), (1, [.int .i64 ((n + q : Nat) : Int)])]) (places := #[(0, 1), (1, 1)]) Tryz.underlying41 ti41 (fun w => by kernel_rfl) (.cons rfl rfl rfl rfl rfl rfl (.cons rfl rfl rfl rfl rfl rfl .nil))) rfl ?_
          refine wl_buildSliceH (enc := encKey) HL1 [mkK y.h2.length (n + q)] encKey_len Tryz.underlying85 ti41 rfl rfl rfl (.cons rfl rfl rfl rfl rfl rfl .nil) ?_
          intro a7 w8 H8
          refine wl_appendH (enc := encKey) (N := n + (q + 1)) H8 1 rfl rfl encKey_len encKey_one Tryz.underlying85 ti41 rfl rfl rfl rfl rfl (H8.rdO 10 slH_rd) (by omega) (by omega) (by omega) ?_
          intro a9 c9 w9 hc9 hd9 H9
          have hrw10 : (mrkK y.h2.length (n + q)) ++ ([mkK y.h2.length (n + q)]) = mrkK y.h2.length (n + (q + 1)) := mrkK_succ _ _
          rw [hrw10] at H9
          refine wl_valE (v := .slice a9 (n + (q + 1)) c9) rfl (rf_assign rfl) rfl ?_
          refine wl_nil ?_
          refine bln ?_
          refine thn ?_
          refine region_ ?_
          refine wl_valE (v := .int .i64 ((n + q : Nat) : Int)) rfl (rf_move rfl) rfl ?_
          refine wl_valE (v := .int .i64 ((n + (q + 1) : Nat) : Int)) rfl (rf_add rfl rfl rfl rfl (by rw [IntWalk.i64_in _ (by omega)]; omega)) rfl ?_
          refine wl_valE (v := .int .i64 ((n + (q + 1) : Nat) : Int)) rfl (rf_assign rfl) rfl ?_
          refine wl_nil ?_
          refine thn ?_
          refine ⟨40 - (q + 1), _, rfl, (by omega), _, q + 1, a9, c9, upds_self ⟨rfl, rfl, rfl, rfl, rfl, trivial⟩, rfl, by omega, H9.pick' [0, 1, 2, 3, 4, 5, 6, 7, 8, 9] rfl rfl⟩
        · have c33p := of_decide_eq_false c33
          refine exit_ ?_
          refine thx (thx (blx ?_))
          refine thn ?_
          obtain rfl : q = 40 := by omega
          refine region_ ?_
          refine wl_valE (v := .pointer (some ⟨kb, 0, none⟩)) rfl (rf_move rfl) rfl ?_
          refine wl_valE (v := .pointer (some ⟨kb, 0, none⟩)) rfl (rf_move rfl) rfl ?_
          refine wl_valE (v := .pointer (some ⟨kb, 0, none⟩)) rfl (rf_nilCheckP rfl rfl) rfl ?_
          refine wl_valE (v := .pointer (some ⟨kb, 1, none⟩)) rfl (rf_fieldAddr Tryz.underlying39 rfl ti37 rfl rfl) rfl ?_
          refine wl_valE (v := .slice y.s2.a y.h2.length y.s2.c) rfl (rf_load Tryz.underlying37 rfl rfl rfl ((HL1.blk 0 rfl).cell rfl)) rfl ?_
          refine wl_valE (v := .slice wa (n + 40) wc) rfl (rf_move rfl) rfl ?_
          refine wl_buildSliceH (enc := encSv) HL1 [(⟨wa, n + 40, wc⟩ : Sv)] encSv_len Tryz.underlying37 ti85 rfl rfl rfl (.cons rfl rfl rfl rfl rfl rfl .nil) ?_
          intro a11 w12 H12
          refine wl_appendH (enc := encSv) (N := (y.h2 ++ [(⟨wa, n + 40, wc⟩ : Sv)]).length) H12 3 rfl rfl encSv_len encSv_one Tryz.underlying37 ti85 rfl rfl rfl rfl rfl (H12.rdO 10 slH_rd) (by simp) (by simp; omega) (by simp; omega) ?_
          intro b1 d1 w13 hc13 hd13 H13
          refine wl_valE (v := .pointer (some ⟨kb, 0, none⟩)) rfl (rf_nilCheckP rfl rfl) rfl ?_
          refine wl_valE (v := .pointer (some ⟨kb, 1, none⟩)) rfl (rf_fieldAddr Tryz.underlying39 rfl ti37 rfl rfl) rfl ?_
          refine wl_storeH H13 0 (v := .slice b1 ((y.h2 ++ [(⟨wa, n + 40, wc⟩ : Sv)]).length) d1) (A' := #[.slice y.s1.a y.h1.length y.s1.c, .slice b1 ((y.h2 ++ [(⟨wa, n + 40, wc⟩ : Sv)]).length) d1, .slice y.s3.a y.h3.length y.s3.c, .slice y.s4.a y.h4.length y.s4.c]) rfl rfl ti37 rfl rfl rfl rfl rfl (ltb rfl) rfl ?_
          intro w14 H14
          refine wl_nil ?_
          refine fin_ ?_
          refine fin0 Tryz.results35 ?_
          have H15 := H14.ssPush (t := (⟨wa, n + 40, wc⟩ : Sv)) 7 1 rfl rfl rfl (hy.e2)
          try dsimp only [putsH, setH, List.cons_append, List.nil_append] at H15
          try dsimp only [putsH, setH, List.cons_append, List.nil_append] at H15
          have H16 := bookH.close_ (kb := kb) (N := N + 1) H15 [0, 2, 3, 4, 5, 6, 7, 8, 9] ⟨y.s1, y.h1, y.l1, ⟨b1, 0, d1⟩, y.h2 ++ [⟨wa, n + 40, wc⟩], y.l2 ++ [mrkK y.h2.length (n + 40)], y.s3, y.h3, y.l3, y.s4, y.h4⟩ (hy.set _ _ _) rfl rfl
          try dsimp only [putsH, setH, List.cons_append, List.nil_append] at H16
          exact ⟨_, ⟨rfl, rfl⟩, H16.pick' [0] rfl rfl⟩
end Go.Proofs.YtojcddlpkfhodaaGreat.W
