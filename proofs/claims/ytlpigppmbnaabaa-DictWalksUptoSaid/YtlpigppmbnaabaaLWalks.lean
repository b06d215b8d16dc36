import Derived.Test.YtlpigppmbnaabaaH2
import Derived.KernelRfl
namespace Go.Proofs.Ytlpigppmbnaabaa.W
open Go Go.Wk
set_option linter.unusedVariables false
set_option linter.unusedSimpArgs false
set_option maxRecDepth 100000 in
set_option maxHeartbeats 4000000 in
theorem walks_tr (a : Option Addr) (n c : Nat) (l0 : List Key) (a2 : Option Addr) (n2 c2 : Nat) (l1 : List Key) (hn : n ≤ 1048576) (hn2 : n2 ≤ 1048576) : Tr Try.prog 4 [.slice a n c, .slice a2 n2 c2] [rdH encKey 2 a n c l0, rdH encKey 2 a2 n2 c2 l1] [] (fun v m => v = .bool true) := by
  intro w0 S0 H0
  have HM := H0.addMks
  dsimp only [List.cons_append, List.nil_append] at HM
  refine enterM Try.func4 rfl Try.ntmps4 rfl ?_
  intro g0
  refine seq_ ?_
  refine region_ ?_
  refine wl_boxH HM (v := .slice a2 n2 c2) rfl rfl ?_
  intro b3 w2 H2
  refine wl_allocH H2 ti4 ?_
  intro bres w4 H4
  refine wl_nil ?_
  refine thn ?_
  refine wrD rfl ?_
  refine seq_ ?_
  refine region_ ?_
  refine wl_tr H4 rfl [] (newd_tr (3 : Int) (by decide)) rfl .nil (rf_call Try.call5 rfl rfl) rfl ?_
  rintro _ w5 _ ⟨bd, rfl, rfl⟩ H5
  refine wl_valE (v := .tuple #[.pointer (some ⟨bd, 0, none⟩), .int .i64 0]) rfl (rf_move rfl) rfl ?_
  refine wl_valE (v := .pointer (some ⟨bd, 0, none⟩)) rfl (rf_extract rfl rfl rfl) rfl ?_
  refine wl_valE (v := .int .i64 0) rfl (rf_extract rfl rfl rfl) rfl ?_
  refine wl_allocH H5 ti23 ?_
  intro b5 w7 H7
  dsimp only [putsH, setH, List.cons_append, List.nil_append] at H7
  refine wl_storeH H7 4 (v := .pointer (some ⟨bd, 0, none⟩)) (A' := #[.pointer (some ⟨bd, 0, none⟩)]) rfl rfl ti23 rfl rfl rfl rfl rfl (ltb rfl) rfl ?_
  intro w8 H8
  refine wl_valE (v := .int .i64 0) rfl (rf_assign rfl) rfl ?_
  refine wl_nil ?_
  refine thn ?_
  refine wrD rfl ?_
  refine seq_ ?_
  refine seq_ ?_
  refine region_ ?_
  refine wl_valE (v := .int .i64 0) rfl (rf_move rfl) rfl ?_
  refine wl_valE (v := .bool false) rfl (rf_neq rfl rfl rfl rfl) (congrArg Value.bool (by decide)) ?_
  refine wl_valE (v := .bool false) rfl (rf_move rfl) rfl ?_
  refine wl_guardT rfl rfl rfl rfl ?_
  refine wl_valE (v := .pointer (some ⟨bd, 0, none⟩)) rfl (rf_load Try.underlying23 rfl rfl rfl ((H8.blk 4 rfl).cell rfl)) rfl ?_
  refine wl_guardT rfl rfl rfl rfl ?_
  refine wl_valE (v := .bool false) rfl (rf_eqlPN Try.underlying23 rfl rfl rfl rfl) rfl ?_
  refine wl_valE (v := .bool false) rfl (rf_pickF rfl rfl rfl rfl) rfl ?_
  refine wl_nil ?_
  refine thn ?_
  refine wrD rfl ?_
  refine condF rfl rfl ?_
  refine skip_ ?_
  refine thn ?_
  refine wrD rfl ?_
  refine seq_ ?_
  refine region_ ?_
  refine wl_allocH H8 ti39 ?_
  intro b7 w10 H10
  refine wl_nil ?_
  refine thn ?_
  refine wrD rfl ?_
  refine seq_ ?_
  refine seq_ ?_
  refine region_ ?_
  refine wl_valE (v := .int .i64 (0 : Int)) rfl (rf_assign rfl) rfl ?_
  refine wl_nil ?_
  refine thn ?_
  refine wrD rfl ?_
  refine block_ ?_
  have H11 := H10.addNil encKV 4 41 (α := (Key × Int))
  refine loop_ (fun qk_ qf_ qw_ => ∃ (g : Nat → Value) (i m : Nat) (l : List (Key × Int)) (wa : Option Addr) (wc : Nat), qf_ = upds g [(0, .slice a n c), (3, .pointer (some ⟨b3, 0, none⟩)), (4, .pointer (some ⟨bres, 0, none⟩)), (5, .pointer (some ⟨b5, 0, none⟩)), (7, .pointer (some ⟨b7, 0, none⟩)), (8, .int .i64 ((i : Nat) : Int))] ∧ qk_ = n - i ∧ (i ≤ n ∧ (0 < i → 0 < l.length) ∧ m = l.length) ∧ St w0 S0 [rdH encKey 2 a n c l0, rdH encKey 2 a2 n2 c2 l1] qw_ [mksH [], blkH b3 #[.slice a2 n2 c2] 22, blkH bres #[.bool false] 4, dicH bd ((3 : Int).toNat) l (2 * i), blkH b5 #[.pointer (some ⟨bd, 0, none⟩)] 23, blkH b7 #[.slice wa m wc] 39, slH encKV 4 41 wa m wc l]) (n - 0) ?_ ?_
  · refine ⟨_, 0, 0, [], none, 0, upds_self ⟨rfl, rfl, rfl, rfl, rfl, rfl, trivial⟩, rfl, ⟨Nat.zero_le _, fun h => by omega, rfl⟩, H11.pick' [0, 1, 2, 3, 4, 5, 6] rfl rfl⟩
  · rintro lk0 _ wl0 ⟨gl0, i, m, l, wa, wc, rfl, hlk0, ⟨hi, hil, hml⟩, HL0⟩
    refine seq_ ?_
    refine seq_ ?_
    refine region_ ?_
    refine wl_valE (v := .int .i64 ((i : Nat) : Int)) rfl (rf_move rfl) rfl ?_
    refine wl_valE (v := .slice a n c) rfl (rf_move rfl) rfl ?_
    refine wl_valE (v := .int .i64 ((n : Nat) : Int)) rfl (rf_len_slice Try.underlying22 rfl rfl) rfl ?_
    refine wl_valE (v := .bool (decide (((i : Nat) : Int) < ((n : Nat) : Int)))) rfl (rf_lss rfl rfl rfl rfl) rfl ?_
    refine wl_nil ?_
    refine thn ?_
    refine wrD rfl ?_
    refine cond_ (t := decide (((i : Nat) : Int) < ((n : Nat) : Int))) rfl rfl (fun c38 => ?_) (fun c38 => ?_)
    · have c38p := of_decide_eq_true c38
      refine skip_ ?_
      refine thn ?_
      refine wrD rfl ?_
      refine seq_ ?_
      refine block_ ?_
      refine seq_ ?_
      obtain ⟨hnd, hlN⟩ := dic_nodup HL0 3 rfl
      have hn12 := rd_len (HL0.rdR 0 Le.rfl)
      obtain ⟨xk, hxk⟩ : ∃ q_, l0[i]? = some q_ := ⟨_, List.getElem?_eq_getElem (by omega)⟩
      refine region_h (S := (fun wq => St w0 S0 [rdH encKey 2 a n c l0, rdH encKey 2 a2 n2 c2 l1] wq [blkH b5 #[.pointer (some ⟨bd, 0, none⟩)] 23])) mixedP ?_
      intro w13 hk13
      have H13 := HL0.keep hk13
      have hS13 : St w0 S0 [rdH encKey 2 a n c l0, rdH encKey 2 a2 n2 c2 l1] w13 [blkH b5 #[.pointer (some ⟨bd, 0, none⟩)] 23] := H13.pick' [4] rfl rfl
      refine wh_take (i := 0) (v := .pointer (some ⟨bd, 0, none⟩)) rfl (by kernel_rfl) (by kernel_rfl) (by kernel_rfl) hS13 rfl (fun wq hq => rf_load Try.underlying23 rfl rfl rfl ((hq.blk 0 rfl).cell rfl)) rfl ?_
      refine wh_take (i := 1) (v := .slice a n c) rfl (by kernel_rfl) (by kernel_rfl) (by kernel_rfl) hS13 rfl (fun wq hq => rf_move rfl) rfl ?_
      refine wh_take (i := 2) (v := .int .i64 ((i : Nat) : Int)) rfl (by kernel_rfl) (by kernel_rfl) (by kernel_rfl) hS13 rfl (fun wq hq => rf_move rfl) rfl ?_
      refine wh_take (i := 3) (v := .pointer (some ⟨ab a, ao a + i * 2, none⟩)) rfl (by kernel_rfl) (by kernel_rfl) (by kernel_rfl) hS13 rfl (fun wq hq => rf_indexAddrH Try.underlying22 ti28 rfl rfl rfl rfl (by omega) (by omega) (hq.rdR 0 Le.rfl)) rfl ?_
      refine wh_take (i := 4) (v := .agg #[.int .i64 xk.table, .int .i64 xk.row]) rfl (by kernel_rfl) (by kernel_rfl) (by kernel_rfl) hS13 rfl (fun wq hq => rf_loadAgg (cs := [.int .i64 xk.table, .int .i64 xk.row]) Try.underlying28 rfl ti28 rfl rfl (el_sub' (rd_el (hq.rdR 0 Le.rfl) hxk) 0 2 rfl) rfl) rfl ?_
      refine wh_take (i := 5) (v := .int .i64 ((i : Nat) : Int)) rfl (by kernel_rfl) (by kernel_rfl) (by kernel_rfl) hS13 rfl (fun wq hq => rf_move rfl) rfl ?_
      refine wh_one (i := 6) (by kernel_rfl) rfl ?_
      refine wl_tr H13 rfl [3] (put_tr xk ((i : Nat) : Int) (by omega)) rfl .nil (rf_call Try.call6 rfl rfl) rfl ?_
      rintro _ w14 _ ⟨rfl, rfl⟩ H14
      refine wl_nil ?_
      have hS15 : St w0 S0 [rdH encKey 2 a n c l0, rdH encKey 2 a2 n2 c2 l1] w14 [blkH b5 #[.pointer (some ⟨bd, 0, none⟩)] 23] := H14.pick' [4] rfl rfl
      refine wh_back hS15 ?_
      refine wh_take (i := 7) (v := .tuple #[.int .i64 ((getP l xk).getD 0), .bool ((getP l xk).isSome)]) rfl (by kernel_rfl) (by kernel_rfl) (by kernel_rfl) hS15 rfl (fun wq hq => rf_move rfl) rfl ?_
      refine wh_take (i := 8) (v := .int .i64 ((getP l xk).getD 0)) rfl (by kernel_rfl) (by kernel_rfl) (by kernel_rfl) hS15 rfl (fun wq hq => rf_extract rfl rfl rfl) rfl ?_
      refine wh_take (i := 9) (v := .bool ((getP l xk).isSome)) rfl (by kernel_rfl) (by kernel_rfl) (by kernel_rfl) hS15 rfl (fun wq hq => rf_extract rfl rfl rfl) rfl ?_
      refine wh_take (i := 10) (v := .int .i64 ((getP l xk).getD 0)) rfl (by kernel_rfl) (by kernel_rfl) (by kernel_rfl) hS15 rfl (fun wq hq => rf_assign rfl) rfl ?_
      refine wh_take (i := 11) (v := .bool ((getP l xk).isSome)) rfl (by kernel_rfl) (by kernel_rfl) (by kernel_rfl) hS15 rfl (fun wq hq => rf_assign rfl) rfl ?_
      refine wh_done (by kernel_rfl) ?_
      refine thn ?_
      refine wrD rfl ?_
      refine seq_ ?_
      refine seq_ ?_
      refine region_ ?_
      refine wl_valE (v := .bool ((getP l xk).isSome)) rfl (rf_move rfl) rfl ?_
      refine wl_nil ?_
      refine thn ?_
      refine wrD rfl ?_
      refine cond_ (t := (getP l xk).isSome) rfl rfl (fun c51 => ?_) (fun c51 => ?_)
      · refine seq_ ?_
        refine region_h (S := (fun wq => St w0 S0 [rdH encKey 2 a n c l0, rdH encKey 2 a2 n2 c2 l1] wq [blkH b5 #[.pointer (some ⟨bd, 0, none⟩)] 23])) mixedP ?_
        intro w16 hk16
        have H16 := H14.keep hk16
        have hS16 : St w0 S0 [rdH encKey 2 a n c l0, rdH encKey 2 a2 n2 c2 l1] w16 [blkH b5 #[.pointer (some ⟨bd, 0, none⟩)] 23] := H16.pick' [4] rfl rfl
        refine wh_take (i := 0) (v := .pointer (some ⟨bd, 0, none⟩)) rfl (by kernel_rfl) (by kernel_rfl) (by kernel_rfl) hS16 rfl (fun wq hq => rf_load Try.underlying23 rfl rfl rfl ((hq.blk 0 rfl).cell rfl)) rfl ?_
        refine wh_take (i := 1) (v := .slice a n c) rfl (by kernel_rfl) (by kernel_rfl) (by kernel_rfl) hS16 rfl (fun wq hq => rf_move rfl) rfl ?_
        refine wh_take (i := 2) (v := .int .i64 ((i : Nat) : Int)) rfl (by kernel_rfl) (by kernel_rfl) (by kernel_rfl) hS16 rfl (fun wq hq => rf_move rfl) rfl ?_
        refine wh_take (i := 3) (v := .pointer (some ⟨ab a, ao a + i * 2, none⟩)) rfl (by kernel_rfl) (by kernel_rfl) (by kernel_rfl) hS16 rfl (fun wq hq => rf_indexAddrH Try.underlying22 ti28 rfl rfl rfl rfl (by omega) (by omega) (hq.rdR 0 Le.rfl)) rfl ?_
        refine wh_take (i := 4) (v := .agg #[.int .i64 xk.table, .int .i64 xk.row]) rfl (by kernel_rfl) (by kernel_rfl) (by kernel_rfl) hS16 rfl (fun wq hq => rf_loadAgg (cs := [.int .i64 xk.table, .int .i64 xk.row]) Try.underlying28 rfl ti28 rfl rfl (el_sub' (rd_el (hq.rdR 0 Le.rfl) hxk) 0 2 rfl) rfl) rfl ?_
        refine wh_one (i := 5) (by kernel_rfl) rfl ?_
        refine wl_tr H16 rfl [3] (take_tr xk (by omega)) rfl .nil (rf_call Try.call11 rfl rfl) rfl ?_
        rintro _ w17 _ ⟨rfl, rfl⟩ H17
        refine wl_nil ?_
        have hS18 : St w0 S0 [rdH encKey 2 a n c l0, rdH encKey 2 a2 n2 c2 l1] w17 [blkH b5 #[.pointer (some ⟨bd, 0, none⟩)] 23] := H17.pick' [4] rfl rfl
        refine wh_back hS18 ?_
        refine wh_done (by kernel_rfl) ?_
        refine thn ?_
        refine wrD rfl ?_
        refine seq_ ?_
        refine region_h (S := (fun wq => St w0 S0 [rdH encKey 2 a n c l0, rdH encKey 2 a2 n2 c2 l1] wq [blkH b5 #[.pointer (some ⟨bd, 0, none⟩)] 23])) mixedP ?_
        intro w19 hk19
        have H19 := H17.keep hk19
        have hS19 : St w0 S0 [rdH encKey 2 a n c l0, rdH encKey 2 a2 n2 c2 l1] w19 [blkH b5 #[.pointer (some ⟨bd, 0, none⟩)] 23] := H19.pick' [4] rfl rfl
        refine wh_take (i := 0) (v := .pointer (some ⟨bd, 0, none⟩)) rfl (by kernel_rfl) (by kernel_rfl) (by kernel_rfl) hS19 rfl (fun wq hq => rf_load Try.underlying23 rfl rfl rfl ((hq.blk 0 rfl).cell rfl)) rfl ?_
        refine wh_take (i := 1) (v := .slice a n c) rfl (by kernel_rfl) (by kernel_rfl) (by kernel_rfl) hS19 rfl (fun wq hq => rf_move rfl) rfl ?_
        refine wh_take (i := 2) (v := .int .i64 ((i : Nat) : Int)) rfl (by kernel_rfl) (by kernel_rfl) (by kernel_rfl) hS19 rfl (fun wq hq => rf_move rfl) rfl ?_
        refine wh_take (i := 3) (v := .pointer (some ⟨ab a, ao a + i * 2, none⟩)) rfl (by kernel_rfl) (by kernel_rfl) (by kernel_rfl) hS19 rfl (fun wq hq => rf_indexAddrH Try.underlying22 ti28 rfl rfl rfl rfl (by omega) (by omega) (hq.rdR 0 Le.rfl)) rfl ?_
        refine wh_take (i := 4) (v := .agg #[.int .i64 xk.table, .int .i64 xk.row]) rfl (by kernel_rfl) (by kernel_rfl) (by kernel_rfl) hS19 rfl (fun wq hq => rf_loadAgg (cs := [.int .i64 xk.table, .int .i64 xk.row]) Try.underlying28 rfl ti28 rfl rfl (el_sub' (rd_el (hq.rdR 0 Le.rfl) hxk) 0 2 rfl) rfl) rfl ?_
        refine wh_take (i := 5) (v := .int .i64 ((i : Nat) : Int)) rfl (by kernel_rfl) (by kernel_rfl) (by kernel_rfl) hS19 rfl (fun wq hq => rf_move rfl) rfl ?_
        refine wh_one (i := 6) (by kernel_rfl) rfl ?_
        refine wl_tr H19 rfl [3] (put_tr xk ((i : Nat) : Int) (by omega)) rfl .nil (rf_call Try.call6 rfl rfl) rfl ?_
        rintro _ w20 _ ⟨rfl, rfl⟩ H20
        have hrw21 : putP (delP (putP l xk ((i : Nat) : Int)) xk) xk ((i : Nat) : Int) = delP l xk ++ [(xk, ((i : Nat) : Int))] := putP_again _ c51
        rw [hrw21] at H20
        refine wl_nil ?_
        have hS22 : St w0 S0 [rdH encKey 2 a n c l0, rdH encKey 2 a2 n2 c2 l1] w20 [blkH b5 #[.pointer (some ⟨bd, 0, none⟩)] 23] := H20.pick' [4] rfl rfl
        refine wh_back hS22 ?_
        refine wh_done (by kernel_rfl) ?_
        refine thn ?_
        refine wrD rfl ?_
        refine seq_ ?_
        refine region_ ?_
        refine wl_valE (v := .slice none 0 0) rfl (rf_assign rfl) rfl ?_
        refine wl_nil ?_
        refine thn ?_
        refine wrD rfl ?_
        refine seq_ ?_
        refine seq_ ?_
        refine region_ ?_
        refine wl_valE (v := .int .i64 (0 : Int)) rfl (rf_assign rfl) rfl ?_
        refine wl_nil ?_
        refine thn ?_
        refine wrD rfl ?_
        refine block_ ?_
        have H23 := H20.addNil encKV 4 41 (α := (Key × Int))
        refine loop_ (fun qk_ qf_ qw_ => ∃ (g : Nat → Value) (j fm : Nat) (fl : List (Key × Int)) (fa : Option Addr) (fc : Nat), qf_ = upds g [(0, .slice a n c), (3, .pointer (some ⟨b3, 0, none⟩)), (4, .pointer (some ⟨bres, 0, none⟩)), (5, .pointer (some ⟨b5, 0, none⟩)), (7, .pointer (some ⟨b7, 0, none⟩)), (8, .int .i64 ((i : Nat) : Int)), (11, .slice fa fm fc), (12, .int .i64 ((j : Nat) : Int))] ∧ qk_ = m - j ∧ (j ≤ m ∧ fm = fl.length ∧ fm ≤ j) ∧ (fl ++ delP (l.drop j) xk = delP l xk) ∧ St w0 S0 [rdH encKey 2 a n c l0, rdH encKey 2 a2 n2 c2 l1] qw_ [mksH [], blkH b3 #[.slice a2 n2 c2] 22, blkH bres #[.bool false] 4, dicH bd ((3 : Int).toNat) (delP l xk ++ [(xk, ((i : Nat) : Int))]) (((2 * i) + 1) + 1), blkH b5 #[.pointer (some ⟨bd, 0, none⟩)] 23, blkH b7 #[.slice wa m wc] 39, slH encKV 4 41 wa m wc l, slH encKV 4 41 fa fm fc fl]) (m - 0) ?_ ?_
        · refine ⟨_, 0, 0, [], none, 0, upds_self ⟨rfl, rfl, rfl, rfl, rfl, rfl, rfl, rfl, trivial⟩, rfl, ⟨Nat.zero_le _, rfl, Nat.le_refl _⟩, rfl, H23.pick' [0, 1, 2, 3, 4, 5, 6, 7] rfl rfl⟩
        · rintro lk1 _ wl1 ⟨gl1, j, fm, fl, fa, fc, rfl, hlk1, ⟨hj, hfm, hfj⟩, hfl, HL1⟩
          refine seq_ ?_
          refine seq_ ?_
          refine region_ ?_
          refine wl_valE (v := .int .i64 ((j : Nat) : Int)) rfl (rf_move rfl) rfl ?_
          refine wl_valE (v := .slice wa m wc) rfl (rf_load Try.underlying39 rfl rfl rfl ((HL1.blk 5 rfl).cell rfl)) rfl ?_
          refine wl_valE (v := .int .i64 ((m : Nat) : Int)) rfl (rf_len_slice Try.underlying39 rfl rfl) rfl ?_
          refine wl_valE (v := .bool (decide (((j : Nat) : Int) < ((m : Nat) : Int)))) rfl (rf_lss rfl rfl rfl rfl) rfl ?_
          refine wl_nil ?_
          refine thn ?_
          refine wrD rfl ?_
          refine cond_ (t := decide (((j : Nat) : Int) < ((m : Nat) : Int))) rfl rfl (fun c68 => ?_) (fun c68 => ?_)
          · have c68p := of_decide_eq_true c68
            refine skip_ ?_
            refine thn ?_
            refine wrD rfl ?_
            refine seq_ ?_
            refine block_ ?_
            refine seq_ ?_
            have hn24 := slH_len HL1 6 rfl
            obtain ⟨xw, hxw⟩ : ∃ q_, l[j]? = some q_ := ⟨_, List.getElem?_eq_getElem (by omega)⟩
            refine region_q mixedP (by kernel_rfl) ?_
            refine qt_valE (v := .slice wa m wc) rfl (fun wq hq => rf_load Try.underlying39 rfl rfl rfl (((HL1.keep hq).blk 5 rfl).cell rfl)) rfl ?_
            refine qt_valE (v := .int .i64 ((j : Nat) : Int)) rfl (fun wq hq => rf_move rfl) rfl ?_
            refine qt_valE (v := .pointer (some ⟨ab wa, ao wa + j * 4, none⟩)) rfl (fun wq hq => rf_indexAddrH Try.underlying39 ti41 rfl rfl rfl rfl (by omega) (by omega) ((HL1.keep hq).rdO 6 slH_rd)) rfl ?_
            refine qt_valE (v := .pointer (some ⟨ab wa, ao wa + j * 4, none⟩)) rfl (fun wq hq => rf_fieldAddr Try.underlying41 rfl ti28 rfl rfl) rfl ?_
            refine qt_valE (v := .agg #[.int .i64 xw.1.table, .int .i64 xw.1.row]) rfl (fun wq hq => rf_loadAgg (cs := [.int .i64 xw.1.table, .int .i64 xw.1.row]) Try.underlying28 rfl ti28 rfl rfl (el_sub' (rd_el ((HL1.keep hq).rdO 6 slH_rd) hxw) 0 2 rfl) rfl) rfl ?_
            refine qt_valE (v := .slice a n c) rfl (fun wq hq => rf_move rfl) rfl ?_
            refine qt_valE (v := .int .i64 ((i : Nat) : Int)) rfl (fun wq hq => rf_move rfl) rfl ?_
            refine qt_valE (v := .pointer (some ⟨ab a, ao a + i * 2, none⟩)) rfl (fun wq hq => rf_indexAddrH Try.underlying22 ti28 rfl rfl rfl rfl (by omega) (by omega) ((HL1.keep hq).rdR 0 Le.rfl)) rfl ?_
            refine qt_valE (v := .agg #[.int .i64 xk.table, .int .i64 xk.row]) rfl (fun wq hq => rf_loadAgg (cs := [.int .i64 xk.table, .int .i64 xk.row]) Try.underlying28 rfl ti28 rfl rfl (el_sub' (rd_el ((HL1.keep hq).rdR 0 Le.rfl) hxk) 0 2 rfl) rfl) rfl ?_
            refine qt_valE (v := .bool (!decide (xw.1 = xk))) rfl (fun wq hq => rf_neqS (by kernel_rfl) (eqKey xw.1 xk _) rfl rfl rfl rfl) rfl ?_
            refine qt_nil ?_
            intro w25 hk25
            have H25 := HL1.keep hk25
            refine thn ?_
            refine wrD rfl ?_
            refine cond_ (t := !decide (xw.1 = xk)) rfl rfl (fun c80 => ?_) (fun c80 => ?_)
            · have c80p := of_decide_eq_false (bnotT c80)
              refine region_ ?_
              refine wl_valE (v := .slice fa fm fc) rfl (rf_move rfl) rfl ?_
              refine wl_valE (v := .slice wa m wc) rfl (rf_load Try.underlying39 rfl rfl rfl ((H25.blk 5 rfl).cell rfl)) rfl ?_
              refine wl_valE (v := .int .i64 ((j : Nat) : Int)) rfl (rf_move rfl) rfl ?_
              refine wl_valE (v := .pointer (some ⟨ab wa, ao wa + j * 4, none⟩)) rfl (rf_indexAddrH Try.underlying39 ti41 rfl rfl rfl rfl (by omega) (by omega) (H25.rdO 6 slH_rd)) rfl ?_
              refine wl_valE (v := .agg #[.int .i64 xw.1.table, .int .i64 xw.1.row, .int .i64 xw.2, .int .i64 0]) rfl (rf_loadAgg (cs := [.int .i64 xw.1.table, .int .i64 xw.1.row, .int .i64 xw.2, .int .i64 0]) Try.underlying41 rfl ti41 rfl rfl (el_sub' (rd_el (H25.rdO 6 slH_rd) hxw) 0 4 rfl) rfl) rfl ?_
              refine wl_buildSliceH (enc := encKV) H25 [xw] encKV_len Try.underlying39 ti41 rfl rfl rfl (.cons rfl rfl rfl rfl rfl rfl .nil) ?_
              intro a26 w27 H27
              refine wl_appendH (enc := encKV) (N := fm + 1) H27 7 rfl rfl encKV_len encKV_one Try.underlying39 ti41 rfl rfl rfl rfl rfl (H27.rdO 8 slH_rd) rfl (by omega) (by omega) ?_
              intro a28 c28 w28 hc28 hd28 H28
              refine wl_valE (v := .slice a28 (fm + 1) c28) rfl (rf_assign rfl) rfl ?_
              refine wl_nil ?_
              refine bln ?_
              refine thn ?_
              refine wrD rfl ?_
              refine region_ ?_
              refine wl_valE (v := .int .i64 ((j : Nat) : Int)) rfl (rf_move rfl) rfl ?_
              refine wl_valE (v := .int .i64 ((j + 1 : Nat) : Int)) rfl (rf_add rfl rfl rfl rfl (IntWalk.i64_in _ (by omega))) rfl ?_
              refine wl_valE (v := .int .i64 ((j + 1 : Nat) : Int)) rfl (rf_assign rfl) rfl ?_
              refine wl_nil ?_
              refine thn ?_
              refine ⟨m - (j + 1), _, rfl, (by omega), _, j + 1, fm + 1, fl ++ ([xw]), a28, c28, upds_self ⟨rfl, rfl, rfl, rfl, rfl, rfl, rfl, rfl, trivial⟩, rfl, ⟨by omega, by simp; omega, by omega⟩, by rw [← hfl, drop_at hxw, del_cons, if_neg (by simpa using c80)]; simp, H28.pick' [0, 1, 2, 3, 4, 5, 6, 7] rfl rfl⟩
            · have c80p := of_decide_eq_true (bnotF c80)
              refine skip_ ?_
              refine bln ?_
              refine thn ?_
              refine wrD rfl ?_
              refine region_ ?_
              refine wl_valE (v := .int .i64 ((j : Nat) : Int)) rfl (rf_move rfl) rfl ?_
              refine wl_valE (v := .int .i64 ((j + 1 : Nat) : Int)) rfl (rf_add rfl rfl rfl rfl (IntWalk.i64_in _ (by omega))) rfl ?_
              refine wl_valE (v := .int .i64 ((j + 1 : Nat) : Int)) rfl (rf_assign rfl) rfl ?_
              refine wl_nil ?_
              refine thn ?_
              refine ⟨m - (j + 1), _, rfl, (by omega), _, j + 1, fm, fl, fa, fc, upds_self ⟨rfl, rfl, rfl, rfl, rfl, rfl, rfl, rfl, trivial⟩, rfl, ⟨by omega, by omega, by omega⟩, by rw [← hfl, drop_at hxw, del_cons, if_pos (by simpa using c80)], H25.pick' [0, 1, 2, 3, 4, 5, 6, 7] rfl rfl⟩
          · have c68p := of_decide_eq_false c68
            refine exit_ ?_
            refine thx (thx (blx ?_))
            refine thn ?_
            refine wrD rfl ?_
            rw [drop_all (by omega)] at hfl
            have hfl2 : fl = delP l xk := by rw [← hfl]; simp [delP]
            subst hfl2
            refine region_ ?_
            refine wl_valE (v := .slice fa fm fc) rfl (rf_move rfl) rfl ?_
            refine wl_storeH HL1 5 (v := .slice fa fm fc) (A' := #[.slice fa fm fc]) rfl rfl ti39 rfl rfl rfl rfl rfl (ltb rfl) rfl ?_
            intro w29 H29
            refine wl_nil ?_
            refine thn ?_
            refine wrD rfl ?_
            refine region_v 9 (fun wq => St w0 S0 [rdH encKey 2 a n c l0, rdH encKey 2 a2 n2 c2 l1] wq [blkH b7 #[.slice fa fm fc] 39]) mixedP (by kernel_rfl) ?_
            intro w30 hk30
            have H30 := H29.keep hk30
            have hS30 : St w0 S0 [rdH encKey 2 a n c l0, rdH encKey 2 a2 n2 c2 l1] w30 [blkH b7 #[.slice fa fm fc] 39] := H30.pick' [5] rfl rfl
            refine vh_take (i := 0) (v := .slice fa fm fc) rfl rfl (by kernel_rfl) (by kernel_rfl) (by kernel_rfl) hS30 rfl (fun wq hq => rf_load Try.underlying39 rfl rfl rfl ((hq.blk 0 rfl).cell rfl)) rfl ?_
            refine vh_take (i := 1) (v := .slice a n c) rfl rfl (by kernel_rfl) (by kernel_rfl) (by kernel_rfl) hS30 rfl (fun wq hq => rf_move rfl) rfl ?_
            refine vh_take (i := 2) (v := .int .i64 ((i : Nat) : Int)) rfl rfl (by kernel_rfl) (by kernel_rfl) (by kernel_rfl) hS30 rfl (fun wq hq => rf_move rfl) rfl ?_
            refine vh_take (i := 3) (v := .pointer (some ⟨ab a, ao a + i * 2, none⟩)) rfl rfl (by kernel_rfl) (by kernel_rfl) (by kernel_rfl) hS30 rfl (fun wq hq => rf_indexAddrH Try.underlying22 ti28 rfl rfl rfl rfl (by omega) (by omega) (hq.rdR 0 Le.rfl)) rfl ?_
            refine vh_take (i := 4) (v := .agg #[.int .i64 xk.table, .int .i64 xk.row]) rfl rfl (by kernel_rfl) (by kernel_rfl) (by kernel_rfl) hS30 rfl (fun wq hq => rf_loadAgg (cs := [.int .i64 xk.table, .int .i64 xk.row]) Try.underlying28 rfl ti28 rfl rfl (el_sub' (rd_el (hq.rdR 0 Le.rfl) hxk) 0 2 rfl) rfl) rfl ?_
            refine vh_take (i := 5) (v := .int .i64 ((i : Nat) : Int)) rfl rfl (by kernel_rfl) (by kernel_rfl) (by kernel_rfl) hS30 rfl (fun wq hq => rf_move rfl) rfl ?_
            refine vh_take (i := 6) (v := .agg #[.int .i64 xk.table, .int .i64 xk.row, .int .i64 ((i : Nat) : Int), .int .i64 (0 : Int)]) rfl rfl (by kernel_rfl) (by kernel_rfl) (by kernel_rfl) hS30 rfl (fun wq hq => rf_build (offs := [(0, [.int .i64 xk.table, .int .i64 xk.row]), (2, [.int .i64 ((i : Nat) : Int)])]) (places := #[(0, 2), (2, 1), (3, 1)]) Try.underlying41 ti41 (fun w => by kernel_rfl) (.cons rfl rfl rfl rfl rfl rfl (.cons rfl rfl rfl rfl rfl rfl .nil))) rfl ?_
            refine vh_one (i := 7) (by kernel_rfl) rfl rfl ?_
            refine wl_buildSliceH (enc := encKV) H30 [(xk, ((i : Nat) : Int))] encKV_len Try.underlying39 ti41 rfl rfl rfl (.cons rfl rfl rfl rfl rfl rfl .nil) ?_
            intro a31 w32 H32
            refine wl_nil ?_
            have hS33 : St w0 S0 [rdH encKey 2 a n c l0, rdH encKey 2 a2 n2 c2 l1] w32 [blkH b7 #[.slice fa fm fc] 39] := H32.pick' [5] rfl rfl
            refine vh_back hS33 ?_
            refine vh_one (i := 8) (by kernel_rfl) rfl rfl ?_
            refine wl_appendH (enc := encKV) (N := fm + 1) H32 7 rfl rfl encKV_len encKV_one Try.underlying39 ti41 rfl rfl rfl rfl rfl (H32.rdO 8 slH_rd) rfl (by omega) (by omega) ?_
            intro a34 c34 w34 hc34 hd34 H34
            refine wl_nil ?_
            have hS35 : St w0 S0 [rdH encKey 2 a n c l0, rdH encKey 2 a2 n2 c2 l1] w34 [blkH b7 #[.slice fa fm fc] 39] := H34.pick' [5] rfl rfl
            refine vh_back hS35 ?_
            refine vh_last (by kernel_rfl) (by kernel_rfl) rfl ?_
            refine wl_storeH H34 5 (v := .slice a34 (fm + 1) c34) (A' := #[.slice a34 (fm + 1) c34]) rfl rfl ti39 rfl rfl rfl rfl rfl (ltb rfl) rfl ?_
            intro w36 H36
            dsimp only [putsH, setH, List.cons_append, List.nil_append] at H36
            refine wl_nil ?_
            refine vh_end ?_
            refine bln ?_
            refine thn ?_
            refine wrD rfl ?_
            refine region_ ?_
            refine wl_valE (v := .int .i64 ((i : Nat) : Int)) rfl (rf_move rfl) rfl ?_
            refine wl_valE (v := .int .i64 ((i + 1 : Nat) : Int)) rfl (rf_add rfl rfl rfl rfl (IntWalk.i64_in _ (by omega))) rfl ?_
            refine wl_valE (v := .int .i64 ((i + 1 : Nat) : Int)) rfl (rf_assign rfl) rfl ?_
            refine wl_nil ?_
            refine thn ?_
            have H37 : St w0 S0 [rdH encKey 2 a n c l0, rdH encKey 2 a2 n2 c2 l1] w36 (setH _ 3 (dicH bd ((3 : Int).toNat) (delP l xk ++ [(xk, ((i : Nat) : Int))]) (2 * (i + 1)))) := H36.le 3 (dic_le (by omega)) rfl
            refine ⟨n - (i + 1), _, rfl, (by omega), _, i + 1, fm + 1, (delP l xk ++ [(xk, ((i : Nat) : Int))]), a34, c34, upds_self ⟨rfl, rfl, rfl, rfl, rfl, rfl, trivial⟩, rfl, ⟨by omega, fun _ => by simp, by simp; omega⟩, H37.pick' [0, 1, 2, 3, 4, 5, 7] rfl rfl⟩
      · have hrw38 : putP l xk ((i : Nat) : Int) = l ++ [(xk, ((i : Nat) : Int))] := putP_new _ c51
        rw [hrw38] at H14
        refine skip_ ?_
        refine thn ?_
        refine wrD rfl ?_
        refine region_v 9 (fun wq => St w0 S0 [rdH encKey 2 a n c l0, rdH encKey 2 a2 n2 c2 l1] wq [blkH b7 #[.slice wa m wc] 39]) mixedP (by kernel_rfl) ?_
        intro w39 hk39
        have H39 := H14.keep hk39
        have hS39 : St w0 S0 [rdH encKey 2 a n c l0, rdH encKey 2 a2 n2 c2 l1] w39 [blkH b7 #[.slice wa m wc] 39] := H39.pick' [5] rfl rfl
        refine vh_take (i := 0) (v := .slice wa m wc) rfl rfl (by kernel_rfl) (by kernel_rfl) (by kernel_rfl) hS39 rfl (fun wq hq => rf_load Try.underlying39 rfl rfl rfl ((hq.blk 0 rfl).cell rfl)) rfl ?_
        refine vh_take (i := 1) (v := .slice a n c) rfl rfl (by kernel_rfl) (by kernel_rfl) (by kernel_rfl) hS39 rfl (fun wq hq => rf_move rfl) rfl ?_
        refine vh_take (i := 2) (v := .int .i64 ((i : Nat) : Int)) rfl rfl (by kernel_rfl) (by kernel_rfl) (by kernel_rfl) hS39 rfl (fun wq hq => rf_move rfl) rfl ?_
        refine vh_take (i := 3) (v := .pointer (some ⟨ab a, ao a + i * 2, none⟩)) rfl rfl (by kernel_rfl) (by kernel_rfl) (by kernel_rfl) hS39 rfl (fun wq hq => rf_indexAddrH Try.underlying22 ti28 rfl rfl rfl rfl (by omega) (by omega) (hq.rdR 0 Le.rfl)) rfl ?_
        refine vh_take (i := 4) (v := .agg #[.int .i64 xk.table, .int .i64 xk.row]) rfl rfl (by kernel_rfl) (by kernel_rfl) (by kernel_rfl) hS39 rfl (fun wq hq => rf_loadAgg (cs := [.int .i64 xk.table, .int .i64 xk.row]) Try.underlying28 rfl ti28 rfl rfl (el_sub' (rd_el (hq.rdR 0 Le.rfl) hxk) 0 2 rfl) rfl) rfl ?_
        refine vh_take (i := 5) (v := .int .i64 ((i : Nat) : Int)) rfl rfl (by kernel_rfl) (by kernel_rfl) (by kernel_rfl) hS39 rfl (fun wq hq => rf_move rfl) rfl ?_
        refine vh_take (i := 6) (v := .agg #[.int .i64 xk.table, .int .i64 xk.row, .int .i64 ((i : Nat) : Int), .int .i64 (0 : Int)]) rfl rfl (by kernel_rfl) (by kernel_rfl) (by kernel_rfl) hS39 rfl (fun wq hq => rf_build (offs := [(0, [.int .i64 xk.table, .int .i64 xk.row]), (2, [.int .i64 ((i : Nat) : Int)])]) (places := #[(0, 2), (2, 1), (3, 1)]) Try.underlying41 ti41 (fun w => by kernel_rfl) (.cons rfl rfl rfl rfl rfl rfl (.cons rfl rfl rfl rfl rfl rfl .nil))) rfl ?_
        refine vh_one (i := 7) (by kernel_rfl) rfl rfl ?_
        refine wl_buildSliceH (enc := encKV) H39 [(xk, ((i : Nat) : Int))] encKV_len Try.underlying39 ti41 rfl rfl rfl (.cons rfl rfl rfl rfl rfl rfl .nil) ?_
        intro a40 w41 H41
        refine wl_nil ?_
        have hS42 : St w0 S0 [rdH encKey 2 a n c l0, rdH encKey 2 a2 n2 c2 l1] w41 [blkH b7 #[.slice wa m wc] 39] := H41.pick' [5] rfl rfl
        refine vh_back hS42 ?_
        refine vh_one (i := 8) (by kernel_rfl) rfl rfl ?_
        refine wl_appendH (enc := encKV) (N := m + 1) H41 6 rfl rfl encKV_len encKV_one Try.underlying39 ti41 rfl rfl rfl rfl rfl (H41.rdO 7 slH_rd) rfl (by omega) (by omega) ?_
        intro a43 c43 w43 hc43 hd43 H43
        refine wl_nil ?_
        have hS44 : St w0 S0 [rdH encKey 2 a n c l0, rdH encKey 2 a2 n2 c2 l1] w43 [blkH b7 #[.slice wa m wc] 39] := H43.pick' [5] rfl rfl
        refine vh_back hS44 ?_
        refine vh_last (by kernel_rfl) (by kernel_rfl) rfl ?_
        refine wl_storeH H43 5 (v := .slice a43 (m + 1) c43) (A' := #[.slice a43 (m + 1) c43]) rfl rfl ti39 rfl rfl rfl rfl rfl (ltb rfl) rfl ?_
        intro w45 H45
        dsimp only [putsH, setH, List.cons_append, List.nil_append] at H45
        refine wl_nil ?_
        refine vh_end ?_
        refine bln ?_
        refine thn ?_
        refine wrD rfl ?_
        refine region_ ?_
        refine wl_valE (v := .int .i64 ((i : Nat) : Int)) rfl (rf_move rfl) rfl ?_
        refine wl_valE (v := .int .i64 ((i + 1 : Nat) : Int)) rfl (rf_add rfl rfl rfl rfl (IntWalk.i64_in _ (by omega))) rfl ?_
        refine wl_valE (v := .int .i64 ((i + 1 : Nat) : Int)) rfl (rf_assign rfl) rfl ?_
        refine wl_nil ?_
        refine thn ?_
        have H46 : St w0 S0 [rdH encKey 2 a n c l0, rdH encKey 2 a2 n2 c2 l1] w45 (setH _ 3 (dicH bd ((3 : Int).toNat) (l ++ [(xk, ((i : Nat) : Int))]) (2 * (i + 1)))) := H45.le 3 (dic_le (by omega)) rfl
        refine ⟨n - (i + 1), _, rfl, (by omega), _, i + 1, m + 1, (l ++ [(xk, ((i : Nat) : Int))]), a43, c43, upds_self ⟨rfl, rfl, rfl, rfl, rfl, rfl, trivial⟩, rfl, ⟨by omega, fun _ => by simp, by simp; omega⟩, H46.pick' [0, 1, 2, 3, 4, 5, 6] rfl rfl⟩
    · have c38p := of_decide_eq_false c38
      refine exit_ ?_
      refine thx (thx (blx ?_))
      refine thn ?_
      refine wrD rfl ?_
      refine seq_ ?_
      obtain rfl : n = i := by omega
      obtain ⟨hnd, hlN⟩ := dic_nodup HL0 3 rfl
      refine region_ ?_
      refine wl_valE (v := .pointer (some ⟨bd, 0, none⟩)) rfl (rf_load Try.underlying23 rfl rfl rfl ((HL0.blk 4 rfl).cell rfl)) rfl ?_
      refine wl_tr HL0 rfl [] (each_tr (0 : Int) (by omega)) rfl (.own 3 rfl Le.rfl .nil) (rf_call Try.call8 rfl rfl) rfl ?_
      rintro _ w47 _ ⟨tb, ea, ec, ER, hER, rfl, rfl⟩ H47
      refine wl_allocH H47 ti34 ?_
      intro b13 w49 H49
      refine wl_storeH H49 9 (v := .func (.func 16) #[] #[.pointer (some ⟨tb, 0, none⟩)]) (A' := #[.func (.func 16) #[] #[.pointer (some ⟨tb, 0, none⟩)]]) rfl rfl ti34 rfl rfl rfl rfl rfl (ltb rfl) rfl ?_
      intro w50 H50
      refine wl_nil ?_
      refine thn ?_
      refine wrD rfl ?_
      refine seq_ ?_
      refine seq_ ?_
      have hER2 : ER.map kvp = l := hER.trans (if_pos rfl)
      have hEl : ER.length = l.length := by rw [← hER2, List.length_map]
      refine region_q mixedP (by kernel_rfl) ?_
      refine qt_valE (v := .slice a n c) rfl (fun wq hq => rf_move rfl) rfl ?_
      refine qt_valE (v := .int .i64 ((n : Nat) : Int)) rfl (fun wq hq => rf_len_slice Try.underlying22 rfl rfl) rfl ?_
      refine qt_valE (v := .bool (decide ((0 : Int) < ((n : Nat) : Int)))) rfl (fun wq hq => rf_gtr rfl rfl rfl rfl) rfl ?_
      refine qt_valE (v := .bool (decide ((0 : Int) < ((n : Nat) : Int)))) rfl (fun wq hq => rf_move rfl) rfl ?_
      refine qt_split (decide ((0 : Int) < ((n : Nat) : Int))) (fun u21_3 => ?_) (fun u21_3 => ?_)
      · have u21_3p := of_decide_eq_true u21_3
        refine qt_guardT rfl rfl rfl u21_3 ?_
        refine qt_valE (v := .slice wa m wc) rfl (fun wq hq => rf_load Try.underlying39 rfl rfl rfl (((H50.keep hq).blk 5 rfl).cell rfl)) rfl ?_
        refine qt_guardT rfl rfl rfl u21_3 ?_
        refine qt_valE (v := .int .i64 ((m : Nat) : Int)) rfl (fun wq hq => rf_len_slice Try.underlying39 rfl rfl) rfl ?_
        refine qt_guardT rfl rfl rfl u21_3 ?_
        refine qt_valE (v := .bool (decide (((m : Nat) : Int) = (0 : Int)))) rfl (fun wq hq => rf_eql rfl rfl rfl rfl) rfl ?_
        refine qt_valE (v := .bool (decide (((m : Nat) : Int) = (0 : Int)))) rfl (fun wq hq => rf_pickT rfl rfl rfl u21_3) rfl ?_
        refine qt_valE (v := .bool (decide (((m : Nat) : Int) = (0 : Int)))) rfl (fun wq hq => rf_move rfl) rfl ?_
        refine qt_guardT rfl rfl rfl (by simp; omega) ?_
        refine qt_valE (v := .pointer (some ⟨bd, 0, none⟩)) rfl (fun wq hq => rf_load Try.underlying23 rfl rfl rfl (((H50.keep hq).blk 4 rfl).cell rfl)) rfl ?_
        refine qt_guardT rfl rfl rfl (by simp; omega) ?_
        refine qt_ret (v := .int .i64 ((l.length : Nat) : Int)) rfl (fun wq hq => ((len_tr).quiet (H50.keep hq) (.own 3 rfl Le.rfl .nil) (by rintro _ _ ⟨rfl, rfl⟩; exact rfl)).mono (fun _ _ h => ⟨h.1, hq.trans h.2⟩)) (fun wq hq => rf_call Try.call10 rfl rfl) ?_
        refine qt_guardT rfl rfl rfl (by simp; omega) ?_
        refine qt_valE (v := .slice wa m wc) rfl (fun wq hq => rf_load Try.underlying39 rfl rfl rfl (((H50.keep hq).blk 5 rfl).cell rfl)) rfl ?_
        refine qt_guardT rfl rfl rfl (by simp; omega) ?_
        refine qt_valE (v := .int .i64 ((m : Nat) : Int)) rfl (fun wq hq => rf_len_slice Try.underlying39 rfl rfl) rfl ?_
        refine qt_guardT rfl rfl rfl (by simp; omega) ?_
        refine qt_valE (v := .bool (decide (((l.length : Nat) : Int) ≠ ((m : Nat) : Int)))) rfl (fun wq hq => rf_neq rfl rfl rfl rfl) rfl ?_
        refine qt_valE (v := .bool (decide (((l.length : Nat) : Int) ≠ ((m : Nat) : Int)))) rfl (fun wq hq => rf_pickF rfl rfl rfl (by simp; omega)) rfl ?_
        refine qt_nil ?_
        intro w51 hk51
        have H51 := H50.keep hk51
        refine thn ?_
        refine wrD rfl ?_
        refine condF' rfl rfl (t := decide (((l.length : Nat) : Int) ≠ ((m : Nat) : Int))) ((by simp; omega)) ?_
        refine skip_ ?_
        refine thn ?_
        refine wrD rfl ?_
        refine seq_ ?_
        refine region_ ?_
        refine wl_allocH H51 ti3 ?_
        intro bn w53 H53
        dsimp only [putsH, setH, List.cons_append, List.nil_append] at H53
        refine wl_storeH H53 10 (v := .int .i64 (0 : Int)) (A' := #[.int .i64 (0 : Int)]) rfl rfl ti3 rfl rfl rfl rfl rfl (ltb rfl) rfl ?_
        intro w54 H54
        refine wl_nil ?_
        refine thn ?_
        refine wrD rfl ?_
        refine seq_ ?_
        refine seq_ ?_
        refine region_ ?_
        refine wl_valE (v := .func (.func 16) #[] #[.pointer (some ⟨tb, 0, none⟩)]) rfl (rf_load Try.underlying34 rfl rfl rfl ((H54.blk 9 rfl).cell rfl)) rfl ?_
        refine wl_nil ?_
        refine thn ?_
        refine wrD rfl ?_
        refine block_ ?_
        refine rangeO (Ds := []) H54 0 rfl rfl rfl rfl rfl rfl (by exact Try.call16) (each_it tb ea ec ER (by omega)) (fun _ _ => rfl) (fun Df0 lpf0 j qw_ => ∃ (l2 : List (Key × Int)) (N2 : Nat), (N2 ≤ 2097152 + 1048576 * j) ∧ St w0 S0 [rdH encKey 2 a n c l0, rdH encKey 2 a2 n2 c2 l1] qw_ [mksH (Df0 :: []), blkH b3 #[.slice a2 n2 c2] 22, blkH bres #[.bool false] 4, dicH bd ((3 : Int).toNat) l2 N2, blkH b5 #[.pointer (some ⟨bd, 0, none⟩)] 23, blkH b7 #[.slice wa m wc] 39, slH encKV 4 41 wa m wc l, blkH tb #[.slice ea ER.length ec] 52, slH encSlotI 4 50 ea ER.length ec ER, blkH b13 #[.func (.func 16) #[] #[.pointer (some ⟨tb, 0, none⟩)]] 34, blkH bn #[.int .i64 ((j : Nat) : Int)] 3, anyH lpf0]) (fun Df0 lpf0 qe_ qw_ => False) ?_ ?_ ?_ ?_ ?_ ?_ ?_
        · rintro Df0 lpf0 j WA WB ⟨l2, N2, hN2, HA⟩ hkA
          exact ⟨l2, N2, hN2, HA.anyKp 11 rfl rfl hkA⟩
        · exact fun _ _ _ _ _ h _ => h
        · rintro Df0 lpf0 j Wf0 ⟨l2, N2, hN2, HRf0⟩
          exact ⟨HRf0.blk 7 rfl, HRf0.rdO 8 slH_rd⟩
        · intro Df0 lpf0 Wf0 Hf0
          dsimp only [putsH, setH, List.cons_append, List.nil_append] at Hf0
          exact ⟨l, 2 * n, by omega, Hf0.pick' [0, 1, 2, 3, 4, 5, 6, 7, 8, 9, 10, 11] rfl rfl⟩
        · rintro Df0 lpf0 j xr Wf0 rbf0 hxr ⟨l2, N2, hN2, HAf0⟩ hrbf0 hrdf0
          have HRf0 := HAf0.anyLoop 11 rfl rfl hrbf0 hrdf0
          dsimp only [setH] at HRf0
          have hjlxr := (List.getElem?_eq_some_iff.1 hxr).1
          have hljxr : l[j]? = some (xr.key, xr.val) := by rw [← hER2, List.getElem?_map, hxr]; rfl
          refine seq_ ?_
          refine region_ ?_
          refine wl_allocH HRf0 ti28 ?_
          intro bk w56 H56
          refine wl_storeAggH H56 12 (o := 0) (cs := [.int .i64 xr.key.table, .int .i64 xr.key.row]) (A' := #[.int .i64 xr.key.table, .int .i64 xr.key.row]) rfl rfl ti28 rfl rfl rfl rfl rfl oneAll (leb rfl) rfl ?_
          intro w57 H57
          refine wl_nil ?_
          refine thn ?_
          refine wrD rfl ?_
          refine region_ ?_
          refine wl_valE (v := .int .i64 xr.val) rfl (rf_assign rfl) rfl ?_
          refine wl_nil ?_
          refine apn ⟨(H57.loopBlk 11 rfl).1, fun W2f0 rb2f0 hk2f0 hb2f0 hd2f0 => ?_⟩
          have H2f0 := H57.loopTurn 11 rfl rfl hk2f0 hb2f0 hd2f0
          dsimp only [setH, putsH, List.cons_append, List.nil_append] at H2f0
          refine block_ ?_
          refine seq_ ?_
          refine seq_ ?_
          refine region_q mixedP (by kernel_rfl) ?_
          refine qt_valE (v := .int .i64 ((j : Nat) : Int)) rfl (fun wq hq => rf_load Try.underlying3 rfl rfl rfl (((H2f0.keep hq).blk 10 rfl).cell rfl)) rfl ?_
          refine qt_valE (v := .slice wa m wc) rfl (fun wq hq => rf_load Try.underlying39 rfl rfl rfl (((H2f0.keep hq).blk 5 rfl).cell rfl)) rfl ?_
          refine qt_valE (v := .int .i64 ((m : Nat) : Int)) rfl (fun wq hq => rf_len_slice Try.underlying39 rfl rfl) rfl ?_
          refine qt_valE (v := .bool (decide (((m : Nat) : Int) ≤ ((j : Nat) : Int)))) rfl (fun wq hq => rf_geq rfl rfl rfl rfl) rfl ?_
          refine qt_valE (v := .bool (decide (((m : Nat) : Int) ≤ ((j : Nat) : Int)))) rfl (fun wq hq => rf_move rfl) rfl ?_
          refine qt_guardT rfl rfl rfl (by simp; omega) ?_
          refine qt_valE (v := .agg #[.int .i64 xr.key.table, .int .i64 xr.key.row]) rfl (fun wq hq => rf_loadBlk Try.underlying28 rfl ti28 rfl rfl ((H2f0.keep hq).blk 12 rfl) (leb rfl)) rfl ?_
          refine qt_guardT rfl rfl rfl (by simp; omega) ?_
          refine qt_valE (v := .slice wa m wc) rfl (fun wq hq => rf_load Try.underlying39 rfl rfl rfl (((H2f0.keep hq).blk 5 rfl).cell rfl)) rfl ?_
          refine qt_guardT rfl rfl rfl (by simp; omega) ?_
          refine qt_valE (v := .int .i64 ((j : Nat) : Int)) rfl (fun wq hq => rf_load Try.underlying3 rfl rfl rfl (((H2f0.keep hq).blk 10 rfl).cell rfl)) rfl ?_
          refine qt_guardT rfl rfl rfl (by simp; omega) ?_
          refine qt_valE (v := .pointer (some ⟨ab wa, ao wa + j * 4, none⟩)) rfl (fun wq hq => rf_indexAddrH Try.underlying39 ti41 rfl rfl rfl rfl (by omega) (by omega) ((H2f0.keep hq).rdO 6 slH_rd)) rfl ?_
          refine qt_guardT rfl rfl rfl (by simp; omega) ?_
          refine qt_valE (v := .pointer (some ⟨ab wa, ao wa + j * 4, none⟩)) rfl (fun wq hq => rf_fieldAddr Try.underlying41 rfl ti28 rfl rfl) rfl ?_
          refine qt_guardT rfl rfl rfl (by simp; omega) ?_
          refine qt_valE (v := .agg #[.int .i64 xr.key.table, .int .i64 xr.key.row]) rfl (fun wq hq => rf_loadAgg (cs := [.int .i64 xr.key.table, .int .i64 xr.key.row]) Try.underlying28 rfl ti28 rfl rfl (el_sub' (rd_el ((H2f0.keep hq).rdO 6 slH_rd) hljxr) 0 2 rfl) rfl) rfl ?_
          refine qt_guardT rfl rfl rfl (by simp; omega) ?_
          refine qt_valE (v := .bool (!decide (xr.key = xr.key))) rfl (fun wq hq => rf_neqS (by kernel_rfl) (eqKey xr.key xr.key _) rfl rfl rfl rfl) rfl ?_
          refine qt_valE (v := .bool (!decide (xr.key = xr.key))) rfl (fun wq hq => rf_pickF rfl rfl rfl (by simp; omega)) rfl ?_
          refine qt_valE (v := .bool (!decide (xr.key = xr.key))) rfl (fun wq hq => rf_move rfl) rfl ?_
          refine qt_guardT rfl rfl rfl (by simp) ?_
          refine qt_valE (v := .int .i64 xr.val) rfl (fun wq hq => rf_move rfl) rfl ?_
          refine qt_guardT rfl rfl rfl (by simp) ?_
          refine qt_valE (v := .slice wa m wc) rfl (fun wq hq => rf_load Try.underlying39 rfl rfl rfl (((H2f0.keep hq).blk 5 rfl).cell rfl)) rfl ?_
          refine qt_guardT rfl rfl rfl (by simp) ?_
          refine qt_valE (v := .int .i64 ((j : Nat) : Int)) rfl (fun wq hq => rf_load Try.underlying3 rfl rfl rfl (((H2f0.keep hq).blk 10 rfl).cell rfl)) rfl ?_
          refine qt_guardT rfl rfl rfl (by simp) ?_
          refine qt_valE (v := .pointer (some ⟨ab wa, ao wa + j * 4, none⟩)) rfl (fun wq hq => rf_indexAddrH Try.underlying39 ti41 rfl rfl rfl rfl (by omega) (by omega) ((H2f0.keep hq).rdO 6 slH_rd)) rfl ?_
          refine qt_guardT rfl rfl rfl (by simp) ?_
          refine qt_valE (v := .pointer (some ⟨ab wa, ao wa + j * 4 + 2, none⟩)) rfl (fun wq hq => rf_fieldAddr Try.underlying41 rfl ti2 rfl rfl) rfl ?_
          refine qt_guardT rfl rfl rfl (by simp) ?_
          refine qt_valE (v := .int .i64 xr.val) rfl (fun wq hq => rf_load Try.underlying2 rfl rfl rfl (rd_el ((H2f0.keep hq).rdO 6 slH_rd) hljxr 2 _ rfl)) rfl ?_
          refine qt_guardT rfl rfl rfl (by simp) ?_
          refine qt_valE (v := .bool (decide (xr.val ≠ xr.val))) rfl (fun wq hq => rf_neq rfl rfl rfl rfl) rfl ?_
          refine qt_valE (v := .bool (decide (xr.val ≠ xr.val))) rfl (fun wq hq => rf_pickF rfl rfl rfl (by simp)) rfl ?_
          refine qt_nil ?_
          intro w58 hk58
          have H58 := H2f0.keep hk58
          refine thn ?_
          refine wrD rfl ?_
          refine condF' rfl rfl (t := decide (xr.val ≠ xr.val)) ((by simp)) ?_
          refine skip_ ?_
          refine thn ?_
          refine wrD rfl ?_
          refine seq_ ?_
          refine seq_ ?_
          refine region_ ?_
          refine wl_valE (v := .int .i64 ((j : Nat) : Int)) rfl (rf_load Try.underlying3 rfl rfl rfl ((H58.blk 10 rfl).cell rfl)) rfl ?_
          refine wl_valE (v := .bool (decide (((j : Nat) : Int) < (3 : Int)))) rfl (rf_lss rfl rfl rfl rfl) rfl ?_
          refine wl_nil ?_
          refine thn ?_
          refine wrD rfl ?_
          refine cond_ (t := decide (((j : Nat) : Int) < (3 : Int))) rfl rfl (fun c141 => ?_) (fun c141 => ?_)
          · have c141p := of_decide_eq_true c141
            refine seq_ ?_
            refine region_ ?_
            refine wl_allocH H58 ti3 ?_
            intro bm w60 H60
            refine wl_storeH H60 13 (v := .int .i64 (0 : Int)) (A' := #[.int .i64 (0 : Int)]) rfl rfl ti3 rfl rfl rfl rfl rfl (ltb rfl) rfl ?_
            intro w61 H61
            refine wl_nil ?_
            refine thn ?_
            refine wrD rfl ?_
            refine seq_ ?_
            refine seq_ ?_
            refine region_ ?_
            refine wl_valE (v := .func (.func 16) #[] #[.pointer (some ⟨tb, 0, none⟩)]) rfl (rf_load Try.underlying34 rfl rfl rfl ((H61.blk 9 rfl).cell rfl)) rfl ?_
            refine wl_nil ?_
            refine thn ?_
            refine wrD rfl ?_
            refine block_ ?_
            refine rangeI H61 11 rfl rfl rfl rfl (by exact Try.call16) (each_it tb ea ec ER (by omega)) (fun _ _ => rfl) (fun lpf1 j2 qw_ => St w0 S0 [rdH encKey 2 a n c l0, rdH encKey 2 a2 n2 c2 l1] qw_ [mksH (Df0 :: []), blkH b3 #[.slice a2 n2 c2] 22, blkH bres #[.bool false] 4, dicH bd ((3 : Int).toNat) l2 N2, blkH b5 #[.pointer (some ⟨bd, 0, none⟩)] 23, blkH b7 #[.slice wa m wc] 39, slH encKV 4 41 wa m wc l, blkH tb #[.slice ea ER.length ec] 52, slH encSlotI 4 50 ea ER.length ec ER, blkH b13 #[.func (.func 16) #[] #[.pointer (some ⟨tb, 0, none⟩)]] 34, blkH bn #[.int .i64 ((j : Nat) : Int)] 3, loopH lpf0 Df0 rb2f0, blkH bk #[.int .i64 xr.key.table, .int .i64 xr.key.row] 28, blkH bm #[.int .i64 ((j2 : Nat) : Int)] 3, anyH lpf1]) (fun lpf1 qe_ qw_ => False) ?_ ?_ ?_ ?_ ?_ ?_ ?_
            · rintro lpf1 j2 WA WB HA hkA
              exact HA.anyKp 14 rfl rfl hkA
            · exact fun _ _ _ _ h _ => h
            · rintro lpf1 j2 Wf1 HRf1
              exact ⟨HRf1.blk 7 rfl, HRf1.rdO 8 slH_rd⟩
            · intro lpf1 Wf1 Hf1
              dsimp only [putsH, setH, List.cons_append, List.nil_append] at Hf1
              exact Hf1.pick' [0, 1, 2, 3, 4, 5, 6, 7, 8, 9, 10, 11, 12, 13, 14] rfl rfl
            · rintro lpf1 j2 xs Wf1 rbf1 hxs HAf1 hrbf1 hrdf1
              have HRf1 := HAf1.anyLoop 14 rfl rfl hrbf1 hrdf1
              dsimp only [setH] at HRf1
              have hjlxs := (List.getElem?_eq_some_iff.1 hxs).1
              have hljxs : l[j2]? = some (xs.key, xs.val) := by rw [← hER2, List.getElem?_map, hxs]; rfl
              refine seq_ ?_
              refine region_ ?_
              refine wl_allocH HRf1 ti28 ?_
              intro bk2 w63 H63
              refine wl_storeAggH H63 15 (o := 0) (cs := [.int .i64 xs.key.table, .int .i64 xs.key.row]) (A' := #[.int .i64 xs.key.table, .int .i64 xs.key.row]) rfl rfl ti28 rfl rfl rfl rfl rfl oneAll (leb rfl) rfl ?_
              intro w64 H64
              refine wl_nil ?_
              refine thn ?_
              refine wrD rfl ?_
              refine region_ ?_
              refine wl_valE (v := .int .i64 xs.val) rfl (rf_assign rfl) rfl ?_
              refine wl_nil ?_
              refine apn ⟨(H64.loopBlk 14 rfl).1, fun W2f1 rb2f1 hk2f1 hb2f1 hd2f1 => ?_⟩
              have H2f1 := H64.loopTurn 14 rfl rfl hk2f1 hb2f1 hd2f1
              dsimp only [setH, putsH, List.cons_append, List.nil_append] at H2f1
              refine block_ ?_
              refine seq_ ?_
              refine seq_ ?_
              refine region_q mixedP (by kernel_rfl) ?_
              refine qt_valE (v := .int .i64 ((j2 : Nat) : Int)) rfl (fun wq hq => rf_load Try.underlying3 rfl rfl rfl (((H2f1.keep hq).blk 13 rfl).cell rfl)) rfl ?_
              refine qt_valE (v := .slice wa m wc) rfl (fun wq hq => rf_load Try.underlying39 rfl rfl rfl (((H2f1.keep hq).blk 5 rfl).cell rfl)) rfl ?_
              refine qt_valE (v := .int .i64 ((m : Nat) : Int)) rfl (fun wq hq => rf_len_slice Try.underlying39 rfl rfl) rfl ?_
              refine qt_valE (v := .bool (decide (((m : Nat) : Int) ≤ ((j2 : Nat) : Int)))) rfl (fun wq hq => rf_geq rfl rfl rfl rfl) rfl ?_
              refine qt_valE (v := .bool (decide (((m : Nat) : Int) ≤ ((j2 : Nat) : Int)))) rfl (fun wq hq => rf_move rfl) rfl ?_
              refine qt_guardT rfl rfl rfl (by simp; omega) ?_
              refine qt_valE (v := .agg #[.int .i64 xs.key.table, .int .i64 xs.key.row]) rfl (fun wq hq => rf_loadBlk Try.underlying28 rfl ti28 rfl rfl ((H2f1.keep hq).blk 15 rfl) (leb rfl)) rfl ?_
              refine qt_guardT rfl rfl rfl (by simp; omega) ?_
              refine qt_valE (v := .slice wa m wc) rfl (fun wq hq => rf_load Try.underlying39 rfl rfl rfl (((H2f1.keep hq).blk 5 rfl).cell rfl)) rfl ?_
              refine qt_guardT rfl rfl rfl (by simp; omega) ?_
              refine qt_valE (v := .int .i64 ((j2 : Nat) : Int)) rfl (fun wq hq => rf_load Try.underlying3 rfl rfl rfl (((H2f1.keep hq).blk 13 rfl).cell rfl)) rfl ?_
              refine qt_guardT rfl rfl rfl (by simp; omega) ?_
              refine qt_valE (v := .pointer (some ⟨ab wa, ao wa + j2 * 4, none⟩)) rfl (fun wq hq => rf_indexAddrH Try.underlying39 ti41 rfl rfl rfl rfl (by omega) (by omega) ((H2f1.keep hq).rdO 6 slH_rd)) rfl ?_
              refine qt_guardT rfl rfl rfl (by simp; omega) ?_
              refine qt_valE (v := .pointer (some ⟨ab wa, ao wa + j2 * 4, none⟩)) rfl (fun wq hq => rf_fieldAddr Try.underlying41 rfl ti28 rfl rfl) rfl ?_
              refine qt_guardT rfl rfl rfl (by simp; omega) ?_
              refine qt_valE (v := .agg #[.int .i64 xs.key.table, .int .i64 xs.key.row]) rfl (fun wq hq => rf_loadAgg (cs := [.int .i64 xs.key.table, .int .i64 xs.key.row]) Try.underlying28 rfl ti28 rfl rfl (el_sub' (rd_el ((H2f1.keep hq).rdO 6 slH_rd) hljxs) 0 2 rfl) rfl) rfl ?_
              refine qt_guardT rfl rfl rfl (by simp; omega) ?_
              refine qt_valE (v := .bool (!decide (xs.key = xs.key))) rfl (fun wq hq => rf_neqS (by kernel_rfl) (eqKey xs.key xs.key _) rfl rfl rfl rfl) rfl ?_
              refine qt_valE (v := .bool (!decide (xs.key = xs.key))) rfl (fun wq hq => rf_pickF rfl rfl rfl (by simp; omega)) rfl ?_
              refine qt_valE (v := .bool (!decide (xs.key = xs.key))) rfl (fun wq hq => rf_move rfl) rfl ?_
              refine qt_guardT rfl rfl rfl (by simp) ?_
              refine qt_valE (v := .int .i64 xs.val) rfl (fun wq hq => rf_move rfl) rfl ?_
              refine qt_guardT rfl rfl rfl (by simp) ?_
              refine qt_valE (v := .slice wa m wc) rfl (fun wq hq => rf_load Try.underlying39 rfl rfl rfl (((H2f1.keep hq).blk 5 rfl).cell rfl)) rfl ?_
              refine qt_guardT rfl rfl rfl (by simp) ?_
              refine qt_valE (v := .int .i64 ((j2 : Nat) : Int)) rfl (fun wq hq => rf_load Try.underlying3 rfl rfl rfl (((H2f1.keep hq).blk 13 rfl).cell rfl)) rfl ?_
              refine qt_guardT rfl rfl rfl (by simp) ?_
              refine qt_valE (v := .pointer (some ⟨ab wa, ao wa + j2 * 4, none⟩)) rfl (fun wq hq => rf_indexAddrH Try.underlying39 ti41 rfl rfl rfl rfl (by omega) (by omega) ((H2f1.keep hq).rdO 6 slH_rd)) rfl ?_
              refine qt_guardT rfl rfl rfl (by simp) ?_
              refine qt_valE (v := .pointer (some ⟨ab wa, ao wa + j2 * 4 + 2, none⟩)) rfl (fun wq hq => rf_fieldAddr Try.underlying41 rfl ti2 rfl rfl) rfl ?_
              refine qt_guardT rfl rfl rfl (by simp) ?_
              refine qt_valE (v := .int .i64 xs.val) rfl (fun wq hq => rf_load Try.underlying2 rfl rfl rfl (rd_el ((H2f1.keep hq).rdO 6 slH_rd) hljxs 2 _ rfl)) rfl ?_
              refine qt_guardT rfl rfl rfl (by simp) ?_
              refine qt_valE (v := .bool (decide (xs.val ≠ xs.val))) rfl (fun wq hq => rf_neq rfl rfl rfl rfl) rfl ?_
              refine qt_valE (v := .bool (decide (xs.val ≠ xs.val))) rfl (fun wq hq => rf_pickF rfl rfl rfl (by simp)) rfl ?_
              refine qt_nil ?_
              intro w65 hk65
              have H65 := H2f1.keep hk65
              refine thn ?_
              refine wrD rfl ?_
              refine condF' rfl rfl (t := decide (xs.val ≠ xs.val)) ((by simp)) ?_
              refine skip_ ?_
              refine thn ?_
              refine wrD rfl ?_
              refine region_ ?_
              refine wl_valE (v := .int .i64 ((j2 : Nat) : Int)) rfl (rf_load Try.underlying3 rfl rfl rfl ((H65.blk 13 rfl).cell rfl)) rfl ?_
              refine wl_valE (v := .int .i64 ((j2 + 1 : Nat) : Int)) rfl (rf_add rfl rfl rfl rfl (IntWalk.i64_in _ (by omega))) rfl ?_
              refine wl_storeH H65 13 (v := .int .i64 ((j2 + 1 : Nat) : Int)) (A' := #[.int .i64 ((j2 + 1 : Nat) : Int)]) rfl rfl ti3 rfl rfl rfl rfl rfl (ltb rfl) rfl ?_
              intro w66 H66
              refine wl_nil ?_
              refine bln ?_
              refine rb_n H66 14 rfl ?_
              have H67 := H66.le 14 loopH_any rfl
              exact H67.pick' [0, 1, 2, 3, 4, 5, 6, 7, 8, 9, 10, 11, 12, 13, 14] rfl rfl
            · rintro lpf1 Wf1 HDf1
              refine bln ?_
              refine thn ?_
              refine wrD rfl ?_
              refine seq_ ?_
              refine region_ ?_
              refine wl_valE (v := .int .i64 ((ER.length : Nat) : Int)) rfl (rf_load Try.underlying3 rfl rfl rfl ((HDf1.blk 13 rfl).cell rfl)) rfl ?_
              refine wl_valE (v := .slice wa m wc) rfl (rf_load Try.underlying39 rfl rfl rfl ((HDf1.blk 5 rfl).cell rfl)) rfl ?_
              refine wl_valE (v := .int .i64 ((m : Nat) : Int)) rfl (rf_len_slice Try.underlying39 rfl rfl) rfl ?_
              refine wl_valE (v := .bool (decide (((ER.length : Nat) : Int) ≠ ((m : Nat) : Int)))) rfl (rf_neq rfl rfl rfl rfl) rfl ?_
              refine wl_nil ?_
              refine thn ?_
              refine wrD rfl ?_
              refine condF' rfl rfl (t := decide (((ER.length : Nat) : Int) ≠ ((m : Nat) : Int))) ((by simp; omega)) ?_
              refine skip_ ?_
              refine thn ?_
              refine wrD rfl ?_
              refine seq_ ?_
              refine region_ ?_
              refine wl_valE (v := .pointer (some ⟨bd, 0, none⟩)) rfl (rf_load Try.underlying23 rfl rfl rfl ((HDf1.blk 4 rfl).cell rfl)) rfl ?_
              refine wl_valE (v := .agg #[.int .i64 xr.key.table, .int .i64 xr.key.row]) rfl (rf_loadBlk Try.underlying28 rfl ti28 rfl rfl (HDf1.blk 12 rfl) (leb rfl)) rfl ?_
              refine wl_tr HDf1 rfl [3] (take_tr xr.key (by omega)) rfl .nil (rf_call Try.call11 rfl rfl) rfl ?_
              rintro _ w68 _ ⟨rfl, rfl⟩ H68
              refine wl_nil ?_
              refine thn ?_
              refine wrD rfl ?_
              refine seq_ ?_
              refine seq_ ?_
              refine region_ ?_
              refine wl_valE (v := .int .i64 (0 : Int)) rfl (rf_assign rfl) rfl ?_
              refine wl_nil ?_
              refine thn ?_
              refine wrD rfl ?_
              refine block_ ?_
              refine loop_ (fun qk_ qf_ qw_ => ∃ (g : Nat → Value) (i2 : Nat) (l3 : List (Key × Int)) (N3 : Nat), qf_ = upds g [(3, .pointer (some ⟨b3, 0, none⟩)), (4, .pointer (some ⟨bres, 0, none⟩)), (5, .pointer (some ⟨b5, 0, none⟩)), (7, .pointer (some ⟨b7, 0, none⟩)), (13, .pointer (some ⟨b13, 0, none⟩)), (14, .pointer (some ⟨bn, 0, none⟩)), (20, .int .i64 ((i2 : Nat) : Int)), (115, .func (.func 16) #[] #[.pointer (some ⟨tb, 0, none⟩)]), (116, .agg #[.int .i64 xr.key.table, .int .i64 xr.key.row]), (117, .int .i64 xr.val)] ∧ qk_ = n2 - i2 ∧ (i2 ≤ n2 ∧ N3 = N2 + i2) ∧ St w0 S0 [rdH encKey 2 a n c l0, rdH encKey 2 a2 n2 c2 l1] qw_ [mksH (Df0 :: []), blkH b3 #[.slice a2 n2 c2] 22, blkH bres #[.bool false] 4, dicH bd ((3 : Int).toNat) l3 N3, blkH b5 #[.pointer (some ⟨bd, 0, none⟩)] 23, blkH b7 #[.slice wa m wc] 39, slH encKV 4 41 wa m wc l, blkH tb #[.slice ea ER.length ec] 52, slH encSlotI 4 50 ea ER.length ec ER, blkH b13 #[.func (.func 16) #[] #[.pointer (some ⟨tb, 0, none⟩)]] 34, blkH bn #[.int .i64 ((j : Nat) : Int)] 3, loopH lpf0 Df0 rb2f0, blkH bk #[.int .i64 xr.key.table, .int .i64 xr.key.row] 28, blkH bm #[.int .i64 ((ER.length : Nat) : Int)] 3, anyH lpf1]) (n2 - 0) ?_ ?_
              · refine ⟨_, 0, (delP l2 xr.key), N2, upds_self ⟨rfl, rfl, rfl, rfl, rfl, rfl, rfl, rfl, rfl, rfl, trivial⟩, rfl, ⟨Nat.zero_le _, rfl⟩, H68.pick' [0, 1, 2, 3, 4, 5, 6, 7, 8, 9, 10, 11, 12, 13, 14] rfl rfl⟩
              · rintro lk2 _ wl2 ⟨gl2, i2, l3, N3, rfl, hlk2, ⟨hi2, hN3⟩, HL2⟩
                refine seq_ ?_
                refine seq_ ?_
                refine region_ ?_
                refine wl_valE (v := .int .i64 ((i2 : Nat) : Int)) rfl (rf_move rfl) rfl ?_
                refine wl_valE (v := .slice a2 n2 c2) rfl (rf_load Try.underlying22 rfl rfl rfl ((HL2.blk 1 rfl).cell rfl)) rfl ?_
                refine wl_valE (v := .int .i64 ((n2 : Nat) : Int)) rfl (rf_len_slice Try.underlying22 rfl rfl) rfl ?_
                refine wl_valE (v := .bool (decide (((i2 : Nat) : Int) < ((n2 : Nat) : Int)))) rfl (rf_lss rfl rfl rfl rfl) rfl ?_
                refine wl_valE (v := .bool (decide (((i2 : Nat) : Int) < ((n2 : Nat) : Int)))) rfl (rf_move rfl) rfl ?_
                refine wl_split (decide (((i2 : Nat) : Int) < ((n2 : Nat) : Int))) (fun u41_4 => ?_) (fun u41_4 => ?_)
                · have u41_4p := of_decide_eq_true u41_4
                  refine wl_guardT rfl rfl rfl u41_4 ?_
                  refine wl_valE (v := .int .i64 ((j : Nat) : Int)) rfl (rf_load Try.underlying3 rfl rfl rfl ((HL2.blk 10 rfl).cell rfl)) rfl ?_
                  refine wl_guardT rfl rfl rfl u41_4 ?_
                  refine wl_valE (v := .bool (decide (((j : Nat) : Int) < (3 : Int)))) rfl (rf_lss rfl rfl rfl rfl) rfl ?_
                  refine wl_valE (v := .bool (decide (((j : Nat) : Int) < (3 : Int)))) rfl (rf_pickT rfl rfl rfl u41_4) rfl ?_
                  refine wl_nil ?_
                  refine thn ?_
                  refine wrD rfl ?_
                  refine cond_ (t := decide (((j : Nat) : Int) < (3 : Int))) rfl rfl (fun c183 => ?_) (fun c183 => ?_)
                  · have c183p := of_decide_eq_true c183
                    refine skip_ ?_
                    refine thn ?_
                    refine wrD rfl ?_
                    refine seq_ ?_
                    refine block_ ?_
                    refine region_h (S := (fun wq => St w0 S0 [rdH encKey 2 a n c l0, rdH encKey 2 a2 n2 c2 l1] wq [blkH b3 #[.slice a2 n2 c2] 22, blkH b5 #[.pointer (some ⟨bd, 0, none⟩)] 23])) mixedP ?_
                    intro w69 hk69
                    have H69 := HL2.keep hk69
                    have hS69 : St w0 S0 [rdH encKey 2 a n c l0, rdH encKey 2 a2 n2 c2 l1] w69 [blkH b3 #[.slice a2 n2 c2] 22, blkH b5 #[.pointer (some ⟨bd, 0, none⟩)] 23] := H69.pick' [1, 4] rfl rfl
                    refine wh_take (i := 0) (v := .pointer (some ⟨bd, 0, none⟩)) rfl (by kernel_rfl) (by kernel_rfl) (by kernel_rfl) hS69 rfl (fun wq hq => rf_load Try.underlying23 rfl rfl rfl ((hq.blk 1 rfl).cell rfl)) rfl ?_
                    refine wh_take (i := 1) (v := .slice a2 n2 c2) rfl (by kernel_rfl) (by kernel_rfl) (by kernel_rfl) hS69 rfl (fun wq hq => rf_load Try.underlying22 rfl rfl rfl ((hq.blk 0 rfl).cell rfl)) rfl ?_
                    refine wh_take (i := 2) (v := .int .i64 ((i2 : Nat) : Int)) rfl (by kernel_rfl) (by kernel_rfl) (by kernel_rfl) hS69 rfl (fun wq hq => rf_move rfl) rfl ?_
                    refine wh_take (i := 3) (v := .pointer (some ⟨ab a2, ao a2 + i2 * 2, none⟩)) rfl (by kernel_rfl) (by kernel_rfl) (by kernel_rfl) hS69 rfl (fun wq hq => rf_indexAddrH Try.underlying22 ti28 rfl rfl rfl rfl (by omega) (by omega) (hq.rdR 1 Le.rfl)) rfl ?_
                    have hn71 := rd_len (H69.rdR 1 Le.rfl)
                    obtain ⟨x70, hx70⟩ : ∃ q_, l1[i2]? = some q_ := ⟨_, List.getElem?_eq_getElem (by omega)⟩
                    refine wh_take (i := 4) (v := .agg #[.int .i64 x70.table, .int .i64 x70.row]) rfl (by kernel_rfl) (by kernel_rfl) (by kernel_rfl) hS69 rfl (fun wq hq => rf_loadAgg (cs := [.int .i64 x70.table, .int .i64 x70.row]) Try.underlying28 rfl ti28 rfl rfl (el_sub' (rd_el (hq.rdR 1 Le.rfl) hx70) 0 2 rfl) rfl) rfl ?_
                    refine wh_take (i := 5) (v := .int .i64 ((i2 : Nat) : Int)) rfl (by kernel_rfl) (by kernel_rfl) (by kernel_rfl) hS69 rfl (fun wq hq => rf_move rfl) rfl ?_
                    refine wh_take (i := 6) (v := .int .i64 ((-1 : Int) - ((i2 : Nat) : Int))) rfl (by kernel_rfl) (by kernel_rfl) (by kernel_rfl) hS69 rfl (fun wq hq => rf_sub rfl rfl rfl rfl (IntWalk.i64_in _ (by omega))) rfl ?_
                    refine wh_one (i := 7) (by kernel_rfl) rfl ?_
                    refine wl_tr H69 rfl [3] (put_tr x70 ((-1 : Int) - ((i2 : Nat) : Int)) (by omega)) rfl .nil (rf_call Try.call6 rfl rfl) rfl ?_
                    rintro _ w72 _ ⟨rfl, rfl⟩ H72
                    refine wl_nil ?_
                    have hS73 : St w0 S0 [rdH encKey 2 a n c l0, rdH encKey 2 a2 n2 c2 l1] w72 [blkH b3 #[.slice a2 n2 c2] 22, blkH b5 #[.pointer (some ⟨bd, 0, none⟩)] 23] := H72.pick' [1, 4] rfl rfl
                    refine wh_back hS73 ?_
                    refine wh_done (by kernel_rfl) ?_
                    refine bln ?_
                    refine thn ?_
                    refine wrD rfl ?_
                    refine region_ ?_
                    refine wl_valE (v := .int .i64 ((i2 : Nat) : Int)) rfl (rf_move rfl) rfl ?_
                    refine wl_valE (v := .int .i64 ((i2 + 1 : Nat) : Int)) rfl (rf_add rfl rfl rfl rfl (IntWalk.i64_in _ (by omega))) rfl ?_
                    refine wl_valE (v := .int .i64 ((i2 + 1 : Nat) : Int)) rfl (rf_assign rfl) rfl ?_
                    refine wl_nil ?_
                    refine thn ?_
                    refine ⟨n2 - (i2 + 1), _, rfl, (by omega), _, i2 + 1, (putP l3 x70 ((-1 : Int) - ((i2 : Nat) : Int))), (N3 + 1), upds_self ⟨rfl, rfl, rfl, rfl, rfl, rfl, rfl, rfl, rfl, rfl, trivial⟩, rfl, ⟨by omega, by omega⟩, H72.pick' [0, 1, 2, 3, 4, 5, 6, 7, 8, 9, 10, 11, 12, 13, 14] rfl rfl⟩
                  · have c183p := of_decide_eq_false c183
                    refine exit_ ?_
                    refine thx (thx (blx ?_))
                    refine thn ?_
                    refine wrD rfl ?_
                    refine region_ ?_
                    refine wl_valE (v := .int .i64 ((j : Nat) : Int)) rfl (rf_load Try.underlying3 rfl rfl rfl ((HL2.blk 10 rfl).cell rfl)) rfl ?_
                    refine wl_valE (v := .int .i64 ((j + 1 : Nat) : Int)) rfl (rf_add rfl rfl rfl rfl (IntWalk.i64_in _ (by omega))) rfl ?_
                    refine wl_storeH HL2 10 (v := .int .i64 ((j + 1 : Nat) : Int)) (A' := #[.int .i64 ((j + 1 : Nat) : Int)]) rfl rfl ti3 rfl rfl rfl rfl rfl (ltb rfl) rfl ?_
                    intro w74 H74
                    refine wl_nil ?_
                    refine bln ?_
                    refine rb_n H74 11 rfl ?_
                    have H75 := H74.le 11 loopH_any rfl
                    exact ⟨(l3), (N3), by omega, H75.pick' [0, 1, 2, 3, 4, 5, 6, 7, 8, 9, 10, 11] rfl rfl⟩
                · have u41_4p := of_decide_eq_false u41_4
                  refine wl_guardF rfl rfl rfl u41_4 ?_
                  refine wl_guardF rfl rfl rfl u41_4 ?_
                  refine wl_valE (v := .bool false) rfl (rf_pickF rfl rfl rfl u41_4) rfl ?_
                  refine wl_nil ?_
                  refine thn ?_
                  refine wrD rfl ?_
                  refine condF rfl rfl ?_
                  refine exit_ ?_
                  refine thx (thx (blx ?_))
                  refine thn ?_
                  refine wrD rfl ?_
                  refine region_ ?_
                  refine wl_valE (v := .int .i64 ((j : Nat) : Int)) rfl (rf_load Try.underlying3 rfl rfl rfl ((HL2.blk 10 rfl).cell rfl)) rfl ?_
                  refine wl_valE (v := .int .i64 ((j + 1 : Nat) : Int)) rfl (rf_add rfl rfl rfl rfl (IntWalk.i64_in _ (by omega))) rfl ?_
                  refine wl_storeH HL2 10 (v := .int .i64 ((j + 1 : Nat) : Int)) (A' := #[.int .i64 ((j + 1 : Nat) : Int)]) rfl rfl ti3 rfl rfl rfl rfl rfl (ltb rfl) rfl ?_
                  intro w76 H76
                  refine wl_nil ?_
                  refine bln ?_
                  refine rb_n H76 11 rfl ?_
                  have H77 := H76.le 11 loopH_any rfl
                  exact ⟨(l3), (N3), by omega, H77.pick' [0, 1, 2, 3, 4, 5, 6, 7, 8, 9, 10, 11] rfl rfl⟩
            · exact fun _ _ _ h _ => h.elim
          · have c141p := of_decide_eq_false c141
            refine skip_ ?_
            refine thn ?_
            refine wrD rfl ?_
            refine seq_ ?_
            refine region_ ?_
            refine wl_valE (v := .pointer (some ⟨bd, 0, none⟩)) rfl (rf_load Try.underlying23 rfl rfl rfl ((H58.blk 4 rfl).cell rfl)) rfl ?_
            refine wl_valE (v := .agg #[.int .i64 xr.key.table, .int .i64 xr.key.row]) rfl (rf_loadBlk Try.underlying28 rfl ti28 rfl rfl (H58.blk 12 rfl) (leb rfl)) rfl ?_
            refine wl_tr H58 rfl [3] (take_tr xr.key (by omega)) rfl .nil (rf_call Try.call11 rfl rfl) rfl ?_
            rintro _ w78 _ ⟨rfl, rfl⟩ H78
            refine wl_nil ?_
            refine thn ?_
            refine wrD rfl ?_
            refine seq_ ?_
            refine seq_ ?_
            refine region_ ?_
            refine wl_valE (v := .int .i64 (0 : Int)) rfl (rf_assign rfl) rfl ?_
            refine wl_nil ?_
            refine thn ?_
            refine wrD rfl ?_
            refine block_ ?_
            refine loop_ (fun qk_ qf_ qw_ => ∃ (g : Nat → Value) (i2 : Nat) (l3 : List (Key × Int)) (N3 : Nat), qf_ = upds g [(3, .pointer (some ⟨b3, 0, none⟩)), (4, .pointer (some ⟨bres, 0, none⟩)), (5, .pointer (some ⟨b5, 0, none⟩)), (7, .pointer (some ⟨b7, 0, none⟩)), (13, .pointer (some ⟨b13, 0, none⟩)), (14, .pointer (some ⟨bn, 0, none⟩)), (20, .int .i64 ((i2 : Nat) : Int)), (115, .func (.func 16) #[] #[.pointer (some ⟨tb, 0, none⟩)]), (116, .agg #[.int .i64 xr.key.table, .int .i64 xr.key.row]), (117, .int .i64 xr.val)] ∧ qk_ = n2 - i2 ∧ (i2 ≤ n2 ∧ N3 = N2 + i2) ∧ St w0 S0 [rdH encKey 2 a n c l0, rdH encKey 2 a2 n2 c2 l1] qw_ [mksH (Df0 :: []), blkH b3 #[.slice a2 n2 c2] 22, blkH bres #[.bool false] 4, dicH bd ((3 : Int).toNat) l3 N3, blkH b5 #[.pointer (some ⟨bd, 0, none⟩)] 23, blkH b7 #[.slice wa m wc] 39, slH encKV 4 41 wa m wc l, blkH tb #[.slice ea ER.length ec] 52, slH encSlotI 4 50 ea ER.length ec ER, blkH b13 #[.func (.func 16) #[] #[.pointer (some ⟨tb, 0, none⟩)]] 34, blkH bn #[.int .i64 ((j : Nat) : Int)] 3, loopH lpf0 Df0 rb2f0, blkH bk #[.int .i64 xr.key.table, .int .i64 xr.key.row] 28]) (n2 - 0) ?_ ?_
            · refine ⟨_, 0, (delP l2 xr.key), N2, upds_self ⟨rfl, rfl, rfl, rfl, rfl, rfl, rfl, rfl, rfl, rfl, trivial⟩, rfl, ⟨Nat.zero_le _, rfl⟩, H78.pick' [0, 1, 2, 3, 4, 5, 6, 7, 8, 9, 10, 11, 12] rfl rfl⟩
            · rintro lk2_1 _ wl2_1 ⟨gl2_1, i2, l3, N3, rfl, hlk2_1, ⟨hi2, hN3⟩, HL2_1⟩
              refine seq_ ?_
              refine seq_ ?_
              refine region_ ?_
              refine wl_valE (v := .int .i64 ((i2 : Nat) : Int)) rfl (rf_move rfl) rfl ?_
              refine wl_valE (v := .slice a2 n2 c2) rfl (rf_load Try.underlying22 rfl rfl rfl ((HL2_1.blk 1 rfl).cell rfl)) rfl ?_
              refine wl_valE (v := .int .i64 ((n2 : Nat) : Int)) rfl (rf_len_slice Try.underlying22 rfl rfl) rfl ?_
              refine wl_valE (v := .bool (decide (((i2 : Nat) : Int) < ((n2 : Nat) : Int)))) rfl (rf_lss rfl rfl rfl rfl) rfl ?_
              refine wl_valE (v := .bool (decide (((i2 : Nat) : Int) < ((n2 : Nat) : Int)))) rfl (rf_move rfl) rfl ?_
              refine wl_split (decide (((i2 : Nat) : Int) < ((n2 : Nat) : Int))) (fun u41_4 => ?_) (fun u41_4 => ?_)
              · have u41_4p := of_decide_eq_true u41_4
                refine wl_guardT rfl rfl rfl u41_4 ?_
                refine wl_valE (v := .int .i64 ((j : Nat) : Int)) rfl (rf_load Try.underlying3 rfl rfl rfl ((HL2_1.blk 10 rfl).cell rfl)) rfl ?_
                refine wl_guardT rfl rfl rfl u41_4 ?_
                refine wl_valE (v := .bool (decide (((j : Nat) : Int) < (3 : Int)))) rfl (rf_lss rfl rfl rfl rfl) rfl ?_
                refine wl_valE (v := .bool (decide (((j : Nat) : Int) < (3 : Int)))) rfl (rf_pickT rfl rfl rfl u41_4) rfl ?_
                refine wl_nil ?_
                refine thn ?_
                refine wrD rfl ?_
                refine cond_ (t := decide (((j : Nat) : Int) < (3 : Int))) rfl rfl (fun c183 => ?_) (fun c183 => ?_)
                · have c183p := of_decide_eq_true c183
                  refine skip_ ?_
                  refine thn ?_
                  refine wrD rfl ?_
                  refine seq_ ?_
                  refine block_ ?_
                  refine region_h (S := (fun wq => St w0 S0 [rdH encKey 2 a n c l0, rdH encKey 2 a2 n2 c2 l1] wq [blkH b3 #[.slice a2 n2 c2] 22, blkH b5 #[.pointer (some ⟨bd, 0, none⟩)] 23])) mixedP ?_
                  intro w79 hk79
                  have H79 := HL2_1.keep hk79
                  have hS79 : St w0 S0 [rdH encKey 2 a n c l0, rdH encKey 2 a2 n2 c2 l1] w79 [blkH b3 #[.slice a2 n2 c2] 22, blkH b5 #[.pointer (some ⟨bd, 0, none⟩)] 23] := H79.pick' [1, 4] rfl rfl
                  refine wh_take (i := 0) (v := .pointer (some ⟨bd, 0, none⟩)) rfl (by kernel_rfl) (by kernel_rfl) (by kernel_rfl) hS79 rfl (fun wq hq => rf_load Try.underlying23 rfl rfl rfl ((hq.blk 1 rfl).cell rfl)) rfl ?_
                  refine wh_take (i := 1) (v := .slice a2 n2 c2) rfl (by kernel_rfl) (by kernel_rfl) (by kernel_rfl) hS79 rfl (fun wq hq => rf_load Try.underlying22 rfl rfl rfl ((hq.blk 0 rfl).cell rfl)) rfl ?_
                  refine wh_take (i := 2) (v := .int .i64 ((i2 : Nat) : Int)) rfl (by kernel_rfl) (by kernel_rfl) (by kernel_rfl) hS79 rfl (fun wq hq => rf_move rfl) rfl ?_
                  refine wh_take (i := 3) (v := .pointer (some ⟨ab a2, ao a2 + i2 * 2, none⟩)) rfl (by kernel_rfl) (by kernel_rfl) (by kernel_rfl) hS79 rfl (fun wq hq => rf_indexAddrH Try.underlying22 ti28 rfl rfl rfl rfl (by omega) (by omega) (hq.rdR 1 Le.rfl)) rfl ?_
                  have hn81 := rd_len (H79.rdR 1 Le.rfl)
                  obtain ⟨x80, hx80⟩ : ∃ q_, l1[i2]? = some q_ := ⟨_, List.getElem?_eq_getElem (by omega)⟩
                  refine wh_take (i := 4) (v := .agg #[.int .i64 x80.table, .int .i64 x80.row]) rfl (by kernel_rfl) (by kernel_rfl) (by kernel_rfl) hS79 rfl (fun wq hq => rf_loadAgg (cs := [.int .i64 x80.table, .int .i64 x80.row]) Try.underlying28 rfl ti28 rfl rfl (el_sub' (rd_el (hq.rdR 1 Le.rfl) hx80) 0 2 rfl) rfl) rfl ?_
                  refine wh_take (i := 5) (v := .int .i64 ((i2 : Nat) : Int)) rfl (by kernel_rfl) (by kernel_rfl) (by kernel_rfl) hS79 rfl (fun wq hq => rf_move rfl) rfl ?_
                  refine wh_take (i := 6) (v := .int .i64 ((-1 : Int) - ((i2 : Nat) : Int))) rfl (by kernel_rfl) (by kernel_rfl) (by kernel_rfl) hS79 rfl (fun wq hq => rf_sub rfl rfl rfl rfl (IntWalk.i64_in _ (by omega))) rfl ?_
                  refine wh_one (i := 7) (by kernel_rfl) rfl ?_
                  refine wl_tr H79 rfl [3] (put_tr x80 ((-1 : Int) - ((i2 : Nat) : Int)) (by omega)) rfl .nil (rf_call Try.call6 rfl rfl) rfl ?_
                  rintro _ w82 _ ⟨rfl, rfl⟩ H82
                  refine wl_nil ?_
                  have hS83 : St w0 S0 [rdH encKey 2 a n c l0, rdH encKey 2 a2 n2 c2 l1] w82 [blkH b3 #[.slice a2 n2 c2] 22, blkH b5 #[.pointer (some ⟨bd, 0, none⟩)] 23] := H82.pick' [1, 4] rfl rfl
                  refine wh_back hS83 ?_
                  refine wh_done (by kernel_rfl) ?_
                  refine bln ?_
                  refine thn ?_
                  refine wrD rfl ?_
                  refine region_ ?_
                  refine wl_valE (v := .int .i64 ((i2 : Nat) : Int)) rfl (rf_move rfl) rfl ?_
                  refine wl_valE (v := .int .i64 ((i2 + 1 : Nat) : Int)) rfl (rf_add rfl rfl rfl rfl (IntWalk.i64_in _ (by omega))) rfl ?_
                  refine wl_valE (v := .int .i64 ((i2 + 1 : Nat) : Int)) rfl (rf_assign rfl) rfl ?_
                  refine wl_nil ?_
                  refine thn ?_
                  refine ⟨n2 - (i2 + 1), _, rfl, (by omega), _, i2 + 1, (putP l3 x80 ((-1 : Int) - ((i2 : Nat) : Int))), (N3 + 1), upds_self ⟨rfl, rfl, rfl, rfl, rfl, rfl, rfl, rfl, rfl, rfl, trivial⟩, rfl, ⟨by omega, by omega⟩, H82.pick' [0, 1, 2, 3, 4, 5, 6, 7, 8, 9, 10, 11, 12] rfl rfl⟩
                · have c183p := of_decide_eq_false c183
                  refine exit_ ?_
                  refine thx (thx (blx ?_))
                  refine thn ?_
                  refine wrD rfl ?_
                  refine region_ ?_
                  refine wl_valE (v := .int .i64 ((j : Nat) : Int)) rfl (rf_load Try.underlying3 rfl rfl rfl ((HL2_1.blk 10 rfl).cell rfl)) rfl ?_
                  refine wl_valE (v := .int .i64 ((j + 1 : Nat) : Int)) rfl (rf_add rfl rfl rfl rfl (IntWalk.i64_in _ (by omega))) rfl ?_
                  refine wl_storeH HL2_1 10 (v := .int .i64 ((j + 1 : Nat) : Int)) (A' := #[.int .i64 ((j + 1 : Nat) : Int)]) rfl rfl ti3 rfl rfl rfl rfl rfl (ltb rfl) rfl ?_
                  intro w84 H84
                  refine wl_nil ?_
                  refine bln ?_
                  refine rb_n H84 11 rfl ?_
                  have H85 := H84.le 11 loopH_any rfl
                  exact ⟨(l3), (N3), by omega, H85.pick' [0, 1, 2, 3, 4, 5, 6, 7, 8, 9, 10, 11] rfl rfl⟩
              · have u41_4p := of_decide_eq_false u41_4
                refine wl_guardF rfl rfl rfl u41_4 ?_
                refine wl_guardF rfl rfl rfl u41_4 ?_
                refine wl_valE (v := .bool false) rfl (rf_pickF rfl rfl rfl u41_4) rfl ?_
                refine wl_nil ?_
                refine thn ?_
                refine wrD rfl ?_
                refine condF rfl rfl ?_
                refine exit_ ?_
                refine thx (thx (blx ?_))
                refine thn ?_
                refine wrD rfl ?_
                refine region_ ?_
                refine wl_valE (v := .int .i64 ((j : Nat) : Int)) rfl (rf_load Try.underlying3 rfl rfl rfl ((HL2_1.blk 10 rfl).cell rfl)) rfl ?_
                refine wl_valE (v := .int .i64 ((j + 1 : Nat) : Int)) rfl (rf_add rfl rfl rfl rfl (IntWalk.i64_in _ (by omega))) rfl ?_
                refine wl_storeH HL2_1 10 (v := .int .i64 ((j + 1 : Nat) : Int)) (A' := #[.int .i64 ((j + 1 : Nat) : Int)]) rfl rfl ti3 rfl rfl rfl rfl rfl (ltb rfl) rfl ?_
                intro w86 H86
                refine wl_nil ?_
                refine bln ?_
                refine rb_n H86 11 rfl ?_
                have H87 := H86.le 11 loopH_any rfl
                exact ⟨(l3), (N3), by omega, H87.pick' [0, 1, 2, 3, 4, 5, 6, 7, 8, 9, 10, 11] rfl rfl⟩
        · rintro Df0 lpf0 Wf0 ⟨l2, N2, hN2, HDf0⟩
          refine bln ?_
          refine thn ?_
          refine wrD rfl ?_
          refine seq_ ?_
          refine seq_ ?_
          refine region_ ?_
          refine wl_valE (v := .int .i64 ((ER.length : Nat) : Int)) rfl (rf_load Try.underlying3 rfl rfl rfl ((HDf0.blk 10 rfl).cell rfl)) rfl ?_
          refine wl_valE (v := .slice wa m wc) rfl (rf_load Try.underlying39 rfl rfl rfl ((HDf0.blk 5 rfl).cell rfl)) rfl ?_
          refine wl_valE (v := .int .i64 ((m : Nat) : Int)) rfl (rf_len_slice Try.underlying39 rfl rfl) rfl ?_
          refine wl_valE (v := .bool (decide (((ER.length : Nat) : Int) ≠ ((m : Nat) : Int)))) rfl (rf_neq rfl rfl rfl rfl) rfl ?_
          refine wl_nil ?_
          refine thn ?_
          refine wrD rfl ?_
          refine condF' rfl rfl (t := decide (((ER.length : Nat) : Int) ≠ ((m : Nat) : Int))) ((by simp; omega)) ?_
          refine skip_ ?_
          refine thn ?_
          refine wrD rfl ?_
          refine seq_ ?_
          refine region_ ?_
          refine wl_valE (v := .pointer (some ⟨bd, 0, none⟩)) rfl (rf_load Try.underlying23 rfl rfl rfl ((HDf0.blk 4 rfl).cell rfl)) rfl ?_
          refine wl_tr HDf0 rfl [3] (clear_tr) rfl .nil (rf_call Try.call12 rfl rfl) rfl ?_
          rintro _ w88 _ ⟨rfl, rfl⟩ H88
          refine wl_nil ?_
          refine thn ?_
          refine wrD rfl ?_
          refine seq_ ?_
          refine region_ ?_
          refine wl_storeH H88 10 (v := .int .i64 (0 : Int)) (A' := #[.int .i64 (0 : Int)]) rfl rfl ti3 rfl rfl rfl rfl rfl (ltb rfl) rfl ?_
          intro w89 H89
          refine wl_nil ?_
          refine thn ?_
          refine wrD rfl ?_
          refine seq_ ?_
          refine seq_ ?_
          refine region_ ?_
          refine wl_valE (v := .func (.func 16) #[] #[.pointer (some ⟨tb, 0, none⟩)]) rfl (rf_load Try.underlying34 rfl rfl rfl ((H89.blk 9 rfl).cell rfl)) rfl ?_
          refine wl_nil ?_
          refine thn ?_
          refine wrD rfl ?_
          refine block_ ?_
          refine rangeO (Ds := Df0 :: []) H89 0 rfl rfl rfl rfl rfl rfl (by exact Try.call16) (each_it tb ea ec ER (by omega)) (fun _ _ => rfl) (fun Df2 lpf2 j qw_ => St w0 S0 [rdH encKey 2 a n c l0, rdH encKey 2 a2 n2 c2 l1] qw_ [mksH (Df2 :: Df0 :: []), blkH b3 #[.slice a2 n2 c2] 22, blkH bres #[.bool false] 4, dicH bd ((3 : Int).toNat) ([]) N2, blkH b5 #[.pointer (some ⟨bd, 0, none⟩)] 23, blkH b7 #[.slice wa m wc] 39, slH encKV 4 41 wa m wc l, blkH tb #[.slice ea ER.length ec] 52, slH encSlotI 4 50 ea ER.length ec ER, blkH b13 #[.func (.func 16) #[] #[.pointer (some ⟨tb, 0, none⟩)]] 34, blkH bn #[.int .i64 ((j : Nat) : Int)] 3, anyH lpf0, anyH lpf2]) (fun Df2 lpf2 qe_ qw_ => False) ?_ ?_ ?_ ?_ ?_ ?_ ?_
          · rintro Df2 lpf2 j WA WB HA hkA
            exact HA.anyKp 12 rfl rfl hkA
          · exact fun _ _ _ _ _ h _ => h
          · rintro Df2 lpf2 j Wf2 HRf2
            exact ⟨HRf2.blk 7 rfl, HRf2.rdO 8 slH_rd⟩
          · intro Df2 lpf2 Wf2 Hf2
            dsimp only [putsH, setH, List.cons_append, List.nil_append] at Hf2
            exact Hf2.pick' [0, 1, 2, 3, 4, 5, 6, 7, 8, 9, 10, 11, 12] rfl rfl
          · rintro Df2 lpf2 j xr Wf2 rbf2 hxr HAf2 hrbf2 hrdf2
            have HRf2 := HAf2.anyLoop 12 rfl rfl hrbf2 hrdf2
            dsimp only [setH] at HRf2
            have hjlxr := (List.getElem?_eq_some_iff.1 hxr).1
            have hljxr : l[j]? = some (xr.key, xr.val) := by rw [← hER2, List.getElem?_map, hxr]; rfl
            refine seq_ ?_
            refine region_ ?_
            refine wl_allocH HRf2 ti28 ?_
            intro bk3 w91 H91
            refine wl_storeAggH H91 13 (o := 0) (cs := [.int .i64 xr.key.table, .int .i64 xr.key.row]) (A' := #[.int .i64 xr.key.table, .int .i64 xr.key.row]) rfl rfl ti28 rfl rfl rfl rfl rfl oneAll (leb rfl) rfl ?_
            intro w92 H92
            refine wl_nil ?_
            refine thn ?_
            refine wrD rfl ?_
            refine region_ ?_
            refine wl_valE (v := .int .i64 xr.val) rfl (rf_assign rfl) rfl ?_
            refine wl_nil ?_
            refine apn ⟨(H92.loopBlk 12 rfl).1, fun W2f2 rb2f2 hk2f2 hb2f2 hd2f2 => ?_⟩
            have H2f2 := H92.loopTurn 12 rfl rfl hk2f2 hb2f2 hd2f2
            dsimp only [setH, putsH, List.cons_append, List.nil_append] at H2f2
            refine block_ ?_
            refine seq_ ?_
            refine seq_ ?_
            refine region_q mixedP (by kernel_rfl) ?_
            refine qt_valE (v := .int .i64 ((j : Nat) : Int)) rfl (fun wq hq => rf_load Try.underlying3 rfl rfl rfl (((H2f2.keep hq).blk 10 rfl).cell rfl)) rfl ?_
            refine qt_valE (v := .slice wa m wc) rfl (fun wq hq => rf_load Try.underlying39 rfl rfl rfl (((H2f2.keep hq).blk 5 rfl).cell rfl)) rfl ?_
            refine qt_valE (v := .int .i64 ((m : Nat) : Int)) rfl (fun wq hq => rf_len_slice Try.underlying39 rfl rfl) rfl ?_
            refine qt_valE (v := .bool (decide (((m : Nat) : Int) ≤ ((j : Nat) : Int)))) rfl (fun wq hq => rf_geq rfl rfl rfl rfl) rfl ?_
            refine qt_valE (v := .bool (decide (((m : Nat) : Int) ≤ ((j : Nat) : Int)))) rfl (fun wq hq => rf_move rfl) rfl ?_
            refine qt_guardT rfl rfl rfl (by simp; omega) ?_
            refine qt_valE (v := .agg #[.int .i64 xr.key.table, .int .i64 xr.key.row]) rfl (fun wq hq => rf_loadBlk Try.underlying28 rfl ti28 rfl rfl ((H2f2.keep hq).blk 13 rfl) (leb rfl)) rfl ?_
            refine qt_guardT rfl rfl rfl (by simp; omega) ?_
            refine qt_valE (v := .slice wa m wc) rfl (fun wq hq => rf_load Try.underlying39 rfl rfl rfl (((H2f2.keep hq).blk 5 rfl).cell rfl)) rfl ?_
            refine qt_guardT rfl rfl rfl (by simp; omega) ?_
            refine qt_valE (v := .int .i64 ((j : Nat) : Int)) rfl (fun wq hq => rf_load Try.underlying3 rfl rfl rfl (((H2f2.keep hq).blk 10 rfl).cell rfl)) rfl ?_
            refine qt_guardT rfl rfl rfl (by simp; omega) ?_
            refine qt_valE (v := .pointer (some ⟨ab wa, ao wa + j * 4, none⟩)) rfl (fun wq hq => rf_indexAddrH Try.underlying39 ti41 rfl rfl rfl rfl (by omega) (by omega) ((H2f2.keep hq).rdO 6 slH_rd)) rfl ?_
            refine qt_guardT rfl rfl rfl (by simp; omega) ?_
            refine qt_valE (v := .pointer (some ⟨ab wa, ao wa + j * 4, none⟩)) rfl (fun wq hq => rf_fieldAddr Try.underlying41 rfl ti28 rfl rfl) rfl ?_
            refine qt_guardT rfl rfl rfl (by simp; omega) ?_
            refine qt_valE (v := .agg #[.int .i64 xr.key.table, .int .i64 xr.key.row]) rfl (fun wq hq => rf_loadAgg (cs := [.int .i64 xr.key.table, .int .i64 xr.key.row]) Try.underlying28 rfl ti28 rfl rfl (el_sub' (rd_el ((H2f2.keep hq).rdO 6 slH_rd) hljxr) 0 2 rfl) rfl) rfl ?_
            refine qt_guardT rfl rfl rfl (by simp; omega) ?_
            refine qt_valE (v := .bool (!decide (xr.key = xr.key))) rfl (fun wq hq => rf_neqS (by kernel_rfl) (eqKey xr.key xr.key _) rfl rfl rfl rfl) rfl ?_
            refine qt_valE (v := .bool (!decide (xr.key = xr.key))) rfl (fun wq hq => rf_pickF rfl rfl rfl (by simp; omega)) rfl ?_
            refine qt_valE (v := .bool (!decide (xr.key = xr.key))) rfl (fun wq hq => rf_move rfl) rfl ?_
            refine qt_guardT rfl rfl rfl (by simp) ?_
            refine qt_valE (v := .int .i64 xr.val) rfl (fun wq hq => rf_move rfl) rfl ?_
            refine qt_guardT rfl rfl rfl (by simp) ?_
            refine qt_valE (v := .slice wa m wc) rfl (fun wq hq => rf_load Try.underlying39 rfl rfl rfl (((H2f2.keep hq).blk 5 rfl).cell rfl)) rfl ?_
            refine qt_guardT rfl rfl rfl (by simp) ?_
            refine qt_valE (v := .int .i64 ((j : Nat) : Int)) rfl (fun wq hq => rf_load Try.underlying3 rfl rfl rfl (((H2f2.keep hq).blk 10 rfl).cell rfl)) rfl ?_
            refine qt_guardT rfl rfl rfl (by simp) ?_
            refine qt_valE (v := .pointer (some ⟨ab wa, ao wa + j * 4, none⟩)) rfl (fun wq hq => rf_indexAddrH Try.underlying39 ti41 rfl rfl rfl rfl (by omega) (by omega) ((H2f2.keep hq).rdO 6 slH_rd)) rfl ?_
            refine qt_guardT rfl rfl rfl (by simp) ?_
            refine qt_valE (v := .pointer (some ⟨ab wa, ao wa + j * 4 + 2, none⟩)) rfl (fun wq hq => rf_fieldAddr Try.underlying41 rfl ti2 rfl rfl) rfl ?_
            refine qt_guardT rfl rfl rfl (by simp) ?_
            refine qt_valE (v := .int .i64 xr.val) rfl (fun wq hq => rf_load Try.underlying2 rfl rfl rfl (rd_el ((H2f2.keep hq).rdO 6 slH_rd) hljxr 2 _ rfl)) rfl ?_
            refine qt_guardT rfl rfl rfl (by simp) ?_
            refine qt_valE (v := .bool (decide (xr.val ≠ xr.val))) rfl (fun wq hq => rf_neq rfl rfl rfl rfl) rfl ?_
            refine qt_valE (v := .bool (decide (xr.val ≠ xr.val))) rfl (fun wq hq => rf_pickF rfl rfl rfl (by simp)) rfl ?_
            refine qt_nil ?_
            intro w93 hk93
            have H93 := H2f2.keep hk93
            refine thn ?_
            refine wrD rfl ?_
            refine condF' rfl rfl (t := decide (xr.val ≠ xr.val)) ((by simp)) ?_
            refine skip_ ?_
            refine thn ?_
            refine wrD rfl ?_
            refine region_ ?_
            refine wl_valE (v := .int .i64 ((j : Nat) : Int)) rfl (rf_load Try.underlying3 rfl rfl rfl ((H93.blk 10 rfl).cell rfl)) rfl ?_
            refine wl_valE (v := .int .i64 ((j + 1 : Nat) : Int)) rfl (rf_add rfl rfl rfl rfl (IntWalk.i64_in _ (by omega))) rfl ?_
            refine wl_storeH H93 10 (v := .int .i64 ((j + 1 : Nat) : Int)) (A' := #[.int .i64 ((j + 1 : Nat) : Int)]) rfl rfl ti3 rfl rfl rfl rfl rfl (ltb rfl) rfl ?_
            intro w94 H94
            refine wl_nil ?_
            refine bln ?_
            refine rb_n H94 12 rfl ?_
            have H95 := H94.le 12 loopH_any rfl
            exact H95.pick' [0, 1, 2, 3, 4, 5, 6, 7, 8, 9, 10, 11, 12] rfl rfl
          · rintro Df2 lpf2 Wf2 HDf2
            refine bln ?_
            refine thn ?_
            refine wrD rfl ?_
            refine seq_ ?_
            refine seq_ ?_
            refine region_ ?_
            refine wl_valE (v := .pointer (some ⟨bd, 0, none⟩)) rfl (rf_load Try.underlying23 rfl rfl rfl ((HDf2.blk 4 rfl).cell rfl)) rfl ?_
            refine wl_tr HDf2 rfl [] (each_tr (0 : Int) (by omega)) rfl (.own 3 rfl Le.rfl .nil) (rf_call Try.call8 rfl rfl) rfl ?_
            rintro _ w96 _ ⟨tb3, ea3, ec3, ER3, hER3, rfl, rfl⟩ H96
            refine wl_nil ?_
            refine thn ?_
            refine wrD rfl ?_
            refine block_ ?_
            have hE3 := er_nil hER3 (.inr rfl)
            refine rangeO (Ds := Df2 :: Df0 :: []) H96 0 rfl rfl rfl rfl rfl rfl (by exact Try.call16) (each_it tb3 ea3 ec3 ER3 (by rw [hE3]; simp)) (fun _ _ => rfl) (fun Df3 lpf3 j qw_ => St w0 S0 [rdH encKey 2 a n c l0, rdH encKey 2 a2 n2 c2 l1] qw_ [mksH (Df3 :: Df2 :: Df0 :: []), blkH b3 #[.slice a2 n2 c2] 22, blkH bres #[.bool false] 4, dicH bd ((3 : Int).toNat) ([]) N2, blkH b5 #[.pointer (some ⟨bd, 0, none⟩)] 23, blkH b7 #[.slice wa m wc] 39, slH encKV 4 41 wa m wc l, blkH tb #[.slice ea ER.length ec] 52, slH encSlotI 4 50 ea ER.length ec ER, blkH b13 #[.func (.func 16) #[] #[.pointer (some ⟨tb, 0, none⟩)]] 34, blkH bn #[.int .i64 ((ER.length : Nat) : Int)] 3, anyH lpf0, anyH lpf2, blkH tb3 #[.slice ea3 ER3.length ec3] 52, slH encSlotI 4 50 ea3 ER3.length ec3 ER3, anyH lpf3]) (fun Df3 lpf3 qe_ qw_ => False) ?_ ?_ ?_ ?_ ?_ ?_ ?_
            · rintro Df3 lpf3 j WA WB HA hkA
              exact HA.anyKp 15 rfl rfl hkA
            · exact fun _ _ _ _ _ h _ => h
            · rintro Df3 lpf3 j Wf3 HRf3
              exact ⟨HRf3.blk 13 rfl, HRf3.rdO 14 slH_rd⟩
            · intro Df3 lpf3 Wf3 Hf3
              dsimp only [putsH, setH, List.cons_append, List.nil_append] at Hf3
              exact Hf3.pick' [0, 1, 2, 3, 4, 5, 6, 7, 8, 9, 10, 11, 12, 13, 14, 15] rfl rfl
            · rintro Df3 lpf3 j x9 Wf3 rbf3 hx9 HAf3 hrbf3 hrdf3
              rw [hE3] at hx9; simp at hx9
            · rintro Df3 lpf3 Wf3 HDf3
              refine bln ?_
              refine thn ?_
              refine wrD rfl ?_
              refine seq_ ?_
              refine seq_ ?_
              refine region_ ?_
              refine wl_valE (v := .pointer (some ⟨bd, 0, none⟩)) rfl (rf_load Try.underlying23 rfl rfl rfl ((HDf3.blk 4 rfl).cell rfl)) rfl ?_
              refine wl_tr HDf3 rfl [] (each_tr (1 : Int) (by omega)) rfl (.own 3 rfl Le.rfl .nil) (rf_call Try.call8 rfl rfl) rfl ?_
              rintro _ w97 _ ⟨tb4, ea4, ec4, ER4, hER4, rfl, rfl⟩ H97
              refine wl_nil ?_
              refine thn ?_
              refine wrD rfl ?_
              refine block_ ?_
              have hE4 := er_nil hER4 (.inl (by decide))
              refine rangeO (Ds := Df3 :: Df2 :: Df0 :: []) H97 0 rfl rfl rfl rfl rfl rfl (by exact Try.call16) (each_it tb4 ea4 ec4 ER4 (by rw [hE4]; simp)) (fun _ _ => rfl) (fun Df4 lpf4 j qw_ => St w0 S0 [rdH encKey 2 a n c l0, rdH encKey 2 a2 n2 c2 l1] qw_ [mksH (Df4 :: Df3 :: Df2 :: Df0 :: []), blkH b3 #[.slice a2 n2 c2] 22, blkH bres #[.bool false] 4, dicH bd ((3 : Int).toNat) ([]) N2, blkH b5 #[.pointer (some ⟨bd, 0, none⟩)] 23, blkH b7 #[.slice wa m wc] 39, slH encKV 4 41 wa m wc l, blkH tb #[.slice ea ER.length ec] 52, slH encSlotI 4 50 ea ER.length ec ER, blkH b13 #[.func (.func 16) #[] #[.pointer (some ⟨tb, 0, none⟩)]] 34, blkH bn #[.int .i64 ((ER.length : Nat) : Int)] 3, anyH lpf0, anyH lpf2, blkH tb3 #[.slice ea3 ER3.length ec3] 52, slH encSlotI 4 50 ea3 ER3.length ec3 ER3, anyH lpf3, blkH tb4 #[.slice ea4 ER4.length ec4] 52, slH encSlotI 4 50 ea4 ER4.length ec4 ER4, anyH lpf4]) (fun Df4 lpf4 qe_ qw_ => False) ?_ ?_ ?_ ?_ ?_ ?_ ?_
              · rintro Df4 lpf4 j WA WB HA hkA
                exact HA.anyKp 18 rfl rfl hkA
              · exact fun _ _ _ _ _ h _ => h
              · rintro Df4 lpf4 j Wf4 HRf4
                exact ⟨HRf4.blk 16 rfl, HRf4.rdO 17 slH_rd⟩
              · intro Df4 lpf4 Wf4 Hf4
                dsimp only [putsH, setH, List.cons_append, List.nil_append] at Hf4
                exact Hf4.pick' [0, 1, 2, 3, 4, 5, 6, 7, 8, 9, 10, 11, 12, 13, 14, 15, 16, 17, 18] rfl rfl
              · rintro Df4 lpf4 j x9 Wf4 rbf4 hx9 HAf4 hrbf4 hrdf4
                rw [hE4] at hx9; simp at hx9
              · rintro Df4 lpf4 Wf4 HDf4
                refine bln ?_
                refine thn ?_
                refine wrD rfl ?_
                refine seq_ ?_
                refine seq_ ?_
                refine region_ ?_
                refine wl_valE (v := .pointer (some ⟨bd, 0, none⟩)) rfl (rf_load Try.underlying23 rfl rfl rfl ((HDf4.blk 4 rfl).cell rfl)) rfl ?_
                refine wl_tr HDf4 rfl [] (each_tr (-1 : Int) (by omega)) rfl (.own 3 rfl Le.rfl .nil) (rf_call Try.call8 rfl rfl) rfl ?_
                rintro _ w98 _ ⟨tb5, ea5, ec5, ER5, hER5, rfl, rfl⟩ H98
                refine wl_nil ?_
                refine thn ?_
                refine wrD rfl ?_
                refine block_ ?_
                have hE5 := er_nil hER5 (.inl (by decide))
                refine rangeO (Ds := Df4 :: Df3 :: Df2 :: Df0 :: []) H98 0 rfl rfl rfl rfl rfl rfl (by exact Try.call16) (each_it tb5 ea5 ec5 ER5 (by rw [hE5]; simp)) (fun _ _ => rfl) (fun Df5 lpf5 j qw_ => St w0 S0 [rdH encKey 2 a n c l0, rdH encKey 2 a2 n2 c2 l1] qw_ [mksH (Df5 :: Df4 :: Df3 :: Df2 :: Df0 :: []), blkH b3 #[.slice a2 n2 c2] 22, blkH bres #[.bool false] 4, dicH bd ((3 : Int).toNat) ([]) N2, blkH b5 #[.pointer (some ⟨bd, 0, none⟩)] 23, blkH b7 #[.slice wa m wc] 39, slH encKV 4 41 wa m wc l, blkH tb #[.slice ea ER.length ec] 52, slH encSlotI 4 50 ea ER.length ec ER, blkH b13 #[.func (.func 16) #[] #[.pointer (some ⟨tb, 0, none⟩)]] 34, blkH bn #[.int .i64 ((ER.length : Nat) : Int)] 3, anyH lpf0, anyH lpf2, blkH tb3 #[.slice ea3 ER3.length ec3] 52, slH encSlotI 4 50 ea3 ER3.length ec3 ER3, anyH lpf3, blkH tb4 #[.slice ea4 ER4.length ec4] 52, slH encSlotI 4 50 ea4 ER4.length ec4 ER4, anyH lpf4, blkH tb5 #[.slice ea5 ER5.length ec5] 52, slH encSlotI 4 50 ea5 ER5.length ec5 ER5, anyH lpf5]) (fun Df5 lpf5 qe_ qw_ => False) ?_ ?_ ?_ ?_ ?_ ?_ ?_
                · rintro Df5 lpf5 j WA WB HA hkA
                  exact HA.anyKp 21 rfl rfl hkA
                · exact fun _ _ _ _ _ h _ => h
                · rintro Df5 lpf5 j Wf5 HRf5
                  exact ⟨HRf5.blk 19 rfl, HRf5.rdO 20 slH_rd⟩
                · intro Df5 lpf5 Wf5 Hf5
                  dsimp only [putsH, setH, List.cons_append, List.nil_append] at Hf5
                  exact Hf5.pick' [0, 1, 2, 3, 4, 5, 6, 7, 8, 9, 10, 11, 12, 13, 14, 15, 16, 17, 18, 19, 20, 21] rfl rfl
                · rintro Df5 lpf5 j x9 Wf5 rbf5 hx9 HAf5 hrbf5 hrdf5
                  rw [hE5] at hx9; simp at hx9
                · rintro Df5 lpf5 Wf5 HDf5
                  refine bln ?_
                  refine thn ?_
                  refine wrD rfl ?_
                  refine seq_ ?_
                  refine region_ ?_
                  refine wl_valE (v := .pointer (some ⟨bd, 0, none⟩)) rfl (rf_load Try.underlying23 rfl rfl rfl ((HDf5.blk 4 rfl).cell rfl)) rfl ?_
                  refine wl_valE (v := .agg #[.int .i64 (3 : Int), .int .i64 (0 : Int)]) rfl (rf_build (offs := [(0, [.int .i64 (3 : Int)])]) (places := #[(0, 1), (1, 1)]) Try.underlying28 ti28 (fun w => by kernel_rfl) (.cons rfl rfl rfl rfl rfl rfl .nil)) rfl ?_
                  refine wl_tr HDf5 rfl [3] (put_tr (⟨(3 : Int), (0 : Int)⟩ : Key) (4 : Int) (by omega)) rfl .nil (rf_call Try.call6 rfl rfl) rfl ?_
                  rintro _ w99 _ ⟨rfl, rfl⟩ H99
                  refine wl_nil ?_
                  refine thn ?_
                  refine wrD rfl ?_
                  refine seq_ ?_
                  refine seq_ ?_
                  refine region_ ?_
                  refine wl_valE (v := .pointer (some ⟨bd, 0, none⟩)) rfl (rf_load Try.underlying23 rfl rfl rfl ((H99.blk 4 rfl).cell rfl)) rfl ?_
                  refine wl_tr H99 rfl [] (each_tr (0 : Int) (by omega)) rfl (.own 3 rfl Le.rfl .nil) (rf_call Try.call8 rfl rfl) rfl ?_
                  rintro _ w100 _ ⟨tb9, ea9, ec9, ER9, hER9, rfl, rfl⟩ H100
                  refine wl_nil ?_
                  refine thn ?_
                  refine wrD rfl ?_
                  refine block_ ?_
                  have hE9 : ER9.map kvp = [((⟨(3 : Int), (0 : Int)⟩ : Key), (4 : Int))] := hER9.trans rfl
                  have hE9l : ER9.length = 1 := by have := congrArg List.length hE9; simpa using this
                  refine rangeO (Ds := Df5 :: Df4 :: Df3 :: Df2 :: Df0 :: []) H100 0 rfl rfl rfl rfl rfl rfl (by exact Try.call16) (each_it tb9 ea9 ec9 ER9 (by omega)) (fun _ _ => rfl) (fun Df6 lpf6 j qw_ => St w0 S0 [rdH encKey 2 a n c l0, rdH encKey 2 a2 n2 c2 l1] qw_ [mksH (Df6 :: Df5 :: Df4 :: Df3 :: Df2 :: Df0 :: []), blkH b3 #[.slice a2 n2 c2] 22, blkH bres #[.bool false] 4, dicH bd ((3 : Int).toNat) (putP ([]) (⟨(3 : Int), (0 : Int)⟩ : Key) (4 : Int)) (N2 + 1), blkH b5 #[.pointer (some ⟨bd, 0, none⟩)] 23, blkH b7 #[.slice wa m wc] 39, slH encKV 4 41 wa m wc l, blkH tb #[.slice ea ER.length ec] 52, slH encSlotI 4 50 ea ER.length ec ER, blkH b13 #[.func (.func 16) #[] #[.pointer (some ⟨tb, 0, none⟩)]] 34, blkH bn #[.int .i64 ((ER.length + j : Nat) : Int)] 3, anyH lpf0, anyH lpf2, blkH tb3 #[.slice ea3 ER3.length ec3] 52, slH encSlotI 4 50 ea3 ER3.length ec3 ER3, anyH lpf3, blkH tb4 #[.slice ea4 ER4.length ec4] 52, slH encSlotI 4 50 ea4 ER4.length ec4 ER4, anyH lpf4, blkH tb5 #[.slice ea5 ER5.length ec5] 52, slH encSlotI 4 50 ea5 ER5.length ec5 ER5, anyH lpf5, blkH tb9 #[.slice ea9 ER9.length ec9] 52, slH encSlotI 4 50 ea9 ER9.length ec9 ER9, anyH lpf6]) (fun Df6 lpf6 qe_ qw_ => False) ?_ ?_ ?_ ?_ ?_ ?_ ?_
                  · rintro Df6 lpf6 j WA WB HA hkA
                    exact HA.anyKp 24 rfl rfl hkA
                  · exact fun _ _ _ _ _ h _ => h
                  · rintro Df6 lpf6 j Wf6 HRf6
                    exact ⟨HRf6.blk 22 rfl, HRf6.rdO 23 slH_rd⟩
                  · intro Df6 lpf6 Wf6 Hf6
                    dsimp only [putsH, setH, List.cons_append, List.nil_append] at Hf6
                    exact Hf6.pick' [0, 1, 2, 3, 4, 5, 6, 7, 8, 9, 10, 11, 12, 13, 14, 15, 16, 17, 18, 19, 20, 21, 22, 23, 24] rfl rfl
                  · rintro Df6 lpf6 j x9 Wf6 rbf6 hx9 HAf6 hrbf6 hrdf6
                    have HRf6 := HAf6.anyLoop 24 rfl rfl hrbf6 hrdf6
                    dsimp only [setH] at HRf6
                    have hj9 := (List.getElem?_eq_some_iff.1 hx9).1
                    obtain rfl : j = 0 := by omega
                    have hk9 := one_kvp hE9 hx9
                    have hk91 : x9.key = (⟨(3 : Int), (0 : Int)⟩ : Key) := congrArg Prod.fst hk9
                    have hk92 : x9.val = 4 := congrArg Prod.snd hk9
                    refine seq_ ?_
                    refine region_ ?_
                    refine wl_allocH HRf6 ti28 ?_
                    intro bk4 w102 H102
                    refine wl_storeAggH H102 25 (o := 0) (cs := [.int .i64 x9.key.table, .int .i64 x9.key.row]) (A' := #[.int .i64 x9.key.table, .int .i64 x9.key.row]) rfl rfl ti28 rfl rfl rfl rfl rfl oneAll (leb rfl) rfl ?_
                    intro w103 H103
                    refine wl_nil ?_
                    refine thn ?_
                    refine wrD rfl ?_
                    refine region_ ?_
                    refine wl_valE (v := .int .i64 x9.val) rfl (rf_assign rfl) rfl ?_
                    refine wl_nil ?_
                    refine apn ⟨(H103.loopBlk 24 rfl).1, fun W2f6 rb2f6 hk2f6 hb2f6 hd2f6 => ?_⟩
                    have H2f6 := H103.loopTurn 24 rfl rfl hk2f6 hb2f6 hd2f6
                    dsimp only [setH, putsH, List.cons_append, List.nil_append] at H2f6
                    refine block_ ?_
                    refine seq_ ?_
                    refine seq_ ?_
                    refine region_ ?_
                    refine wl_valE (v := .agg #[.int .i64 x9.key.table, .int .i64 x9.key.row]) rfl (rf_loadBlk Try.underlying28 rfl ti28 rfl rfl (H2f6.blk 25 rfl) (leb rfl)) rfl ?_
                    refine wl_valE (v := .agg #[.int .i64 (3 : Int), .int .i64 (0 : Int)]) rfl (rf_build (offs := [(0, [.int .i64 (3 : Int)])]) (places := #[(0, 1), (1, 1)]) Try.underlying28 ti28 (fun w => by kernel_rfl) (.cons rfl rfl rfl rfl rfl rfl .nil)) rfl ?_
                    refine wl_valE (v := .bool (!decide (x9.key = (⟨(3 : Int), (0 : Int)⟩ : Key)))) rfl (rf_neqS (by kernel_rfl) (eqKey x9.key (⟨(3 : Int), (0 : Int)⟩ : Key) _) rfl rfl rfl rfl) rfl ?_
                    refine wl_valE (v := .bool (!decide (x9.key = (⟨(3 : Int), (0 : Int)⟩ : Key)))) rfl (rf_move rfl) rfl ?_
                    refine wl_guardT rfl rfl rfl (by simp [hk91]) ?_
                    refine wl_valE (v := .int .i64 x9.val) rfl (rf_move rfl) rfl ?_
                    refine wl_guardT rfl rfl rfl (by simp [hk91]) ?_
                    refine wl_valE (v := .bool (decide (x9.val ≠ (4 : Int)))) rfl (rf_neq rfl rfl rfl rfl) rfl ?_
                    refine wl_valE (v := .bool (decide (x9.val ≠ (4 : Int)))) rfl (rf_pickF rfl rfl rfl (by simp [hk91])) rfl ?_
                    refine wl_nil ?_
                    refine thn ?_
                    refine wrD rfl ?_
                    refine condF' rfl rfl (t := decide (x9.val ≠ (4 : Int))) ((by simp [hk92])) ?_
                    refine skip_ ?_
                    refine thn ?_
                    refine wrD rfl ?_
                    refine region_ ?_
                    refine wl_valE (v := .int .i64 ((ER.length + 0 : Nat) : Int)) rfl (rf_load Try.underlying3 rfl rfl rfl ((H2f6.blk 10 rfl).cell rfl)) rfl ?_
                    refine wl_valE (v := .int .i64 ((ER.length + 0 + 1 : Nat) : Int)) rfl (rf_add rfl rfl rfl rfl (IntWalk.i64_in _ (by omega))) rfl ?_
                    refine wl_storeH H2f6 10 (v := .int .i64 ((ER.length + 0 + 1 : Nat) : Int)) (A' := #[.int .i64 ((ER.length + 0 + 1 : Nat) : Int)]) rfl rfl ti3 rfl rfl rfl rfl rfl (ltb rfl) rfl ?_
                    intro w104 H104
                    refine wl_nil ?_
                    refine bln ?_
                    refine rb_n H104 24 rfl ?_
                    have H105 := H104.le 24 loopH_any rfl
                    exact H105.pick' [0, 1, 2, 3, 4, 5, 6, 7, 8, 9, 10, 11, 12, 13, 14, 15, 16, 17, 18, 19, 20, 21, 22, 23, 24] rfl rfl
                  · rintro Df6 lpf6 Wf6 HDf6
                    refine bln ?_
                    refine thn ?_
                    refine wrD rfl ?_
                    refine seq_ ?_
                    refine region_ ?_
                    refine wl_valE (v := .int .i64 ((ER.length + ER9.length : Nat) : Int)) rfl (rf_load Try.underlying3 rfl rfl rfl ((HDf6.blk 10 rfl).cell rfl)) rfl ?_
                    refine wl_valE (v := .slice wa m wc) rfl (rf_load Try.underlying39 rfl rfl rfl ((HDf6.blk 5 rfl).cell rfl)) rfl ?_
                    refine wl_valE (v := .int .i64 ((m : Nat) : Int)) rfl (rf_len_slice Try.underlying39 rfl rfl) rfl ?_
                    refine wl_valE (v := .int .i64 ((m + 1 : Nat) : Int)) rfl (rf_add rfl rfl rfl rfl (IntWalk.i64_in _ (by omega))) rfl ?_
                    refine wl_valE (v := .bool (decide (((ER.length + ER9.length : Nat) : Int) = ((m + 1 : Nat) : Int)))) rfl (rf_eql rfl rfl rfl rfl) rfl ?_
                    refine wl_storeH HDf6 2 (v := .bool (decide (((ER.length + ER9.length : Nat) : Int) = ((m + 1 : Nat) : Int)))) (A' := #[.bool (decide (((ER.length + ER9.length : Nat) : Int) = ((m + 1 : Nat) : Int)))]) rfl rfl ti4 rfl rfl rfl rfl rfl (ltb rfl) rfl ?_
                    intro w106 H106
                    refine wl_nil ?_
                    refine thn ?_
                    refine wrD rfl ?_
                    refine ret_ ?_
                    refine finM (Ds := Df6 :: Df5 :: Df4 :: Df3 :: Df2 :: Df0 :: []) H106 0 rfl rfl rfl (fun w107 H107 => ?_)
                    refine finV1 Try.results4 (.cell rfl Try.underlying4 rfl rfl ((H107.blk 2 rfl).cell rfl)) ?_
                    exact ⟨_, congrArg Value.bool (by simp; omega), H107.pick' [] rfl rfl⟩
                  · exact fun _ _ _ _ h _ => h.elim
                · exact fun _ _ _ _ h _ => h.elim
              · exact fun _ _ _ _ h _ => h.elim
            · exact fun _ _ _ _ h _ => h.elim
          · exact fun _ _ _ _ h _ => h.elim
        · exact fun _ _ _ _ h _ => h.elim
      · have u21_3p := of_decide_eq_false u21_3
        refine qt_guardF rfl rfl rfl u21_3 ?_
        refine qt_guardF rfl rfl rfl u21_3 ?_
        refine qt_guardF rfl rfl rfl u21_3 ?_
        refine qt_valE (v := .bool false) rfl (fun wq hq => rf_pickF rfl rfl rfl u21_3) rfl ?_
        refine qt_valE (v := .bool false) rfl (fun wq hq => rf_move rfl) rfl ?_
        refine qt_guardT rfl rfl rfl rfl ?_
        refine qt_valE (v := .pointer (some ⟨bd, 0, none⟩)) rfl (fun wq hq => rf_load Try.underlying23 rfl rfl rfl (((H50.keep hq).blk 4 rfl).cell rfl)) rfl ?_
        refine qt_guardT rfl rfl rfl rfl ?_
        refine qt_ret (v := .int .i64 ((l.length : Nat) : Int)) rfl (fun wq hq => ((len_tr).quiet (H50.keep hq) (.own 3 rfl Le.rfl .nil) (by rintro _ _ ⟨rfl, rfl⟩; exact rfl)).mono (fun _ _ h => ⟨h.1, hq.trans h.2⟩)) (fun wq hq => rf_call Try.call10 rfl rfl) ?_
        refine qt_guardT rfl rfl rfl rfl ?_
        refine qt_valE (v := .slice wa m wc) rfl (fun wq hq => rf_load Try.underlying39 rfl rfl rfl (((H50.keep hq).blk 5 rfl).cell rfl)) rfl ?_
        refine qt_guardT rfl rfl rfl rfl ?_
        refine qt_valE (v := .int .i64 ((m : Nat) : Int)) rfl (fun wq hq => rf_len_slice Try.underlying39 rfl rfl) rfl ?_
        refine qt_guardT rfl rfl rfl rfl ?_
        refine qt_valE (v := .bool (decide (((l.length : Nat) : Int) ≠ ((m : Nat) : Int)))) rfl (fun wq hq => rf_neq rfl rfl rfl rfl) rfl ?_
        refine qt_valE (v := .bool (decide (((l.length : Nat) : Int) ≠ ((m : Nat) : Int)))) rfl (fun wq hq => rf_pickF rfl rfl rfl rfl) rfl ?_
        refine qt_nil ?_
        intro w108 hk108
        have H108 := H50.keep hk108
        refine thn ?_
        refine wrD rfl ?_
        refine condF' rfl rfl (t := decide (((l.length : Nat) : Int) ≠ ((m : Nat) : Int))) ((by simp; omega)) ?_
        refine skip_ ?_
        refine thn ?_
        refine wrD rfl ?_
        refine seq_ ?_
        refine region_ ?_
        refine wl_allocH H108 ti3 ?_
        intro bn w110 H110
        dsimp only [putsH, setH, List.cons_append, List.nil_append] at H110
        refine wl_storeH H110 10 (v := .int .i64 (0 : Int)) (A' := #[.int .i64 (0 : Int)]) rfl rfl ti3 rfl rfl rfl rfl rfl (ltb rfl) rfl ?_
        intro w111 H111
        refine wl_nil ?_
        refine thn ?_
        refine wrD rfl ?_
        refine seq_ ?_
        refine seq_ ?_
        refine region_ ?_
        refine wl_valE (v := .func (.func 16) #[] #[.pointer (some ⟨tb, 0, none⟩)]) rfl (rf_load Try.underlying34 rfl rfl rfl ((H111.blk 9 rfl).cell rfl)) rfl ?_
        refine wl_nil ?_
        refine thn ?_
        refine wrD rfl ?_
        refine block_ ?_
        refine rangeO (Ds := []) H111 0 rfl rfl rfl rfl rfl rfl (by exact Try.call16) (each_it tb ea ec ER (by omega)) (fun _ _ => rfl) (fun Df0_1 lpf0_1 j qw_ => ∃ (l2 : List (Key × Int)) (N2 : Nat), (N2 ≤ 2097152 + 1048576 * j) ∧ St w0 S0 [rdH encKey 2 a n c l0, rdH encKey 2 a2 n2 c2 l1] qw_ [mksH (Df0_1 :: []), blkH b3 #[.slice a2 n2 c2] 22, blkH bres #[.bool false] 4, dicH bd ((3 : Int).toNat) l2 N2, blkH b5 #[.pointer (some ⟨bd, 0, none⟩)] 23, blkH b7 #[.slice wa m wc] 39, slH encKV 4 41 wa m wc l, blkH tb #[.slice ea ER.length ec] 52, slH encSlotI 4 50 ea ER.length ec ER, blkH b13 #[.func (.func 16) #[] #[.pointer (some ⟨tb, 0, none⟩)]] 34, blkH bn #[.int .i64 ((j : Nat) : Int)] 3, anyH lpf0_1]) (fun Df0_1 lpf0_1 qe_ qw_ => False) ?_ ?_ ?_ ?_ ?_ ?_ ?_
        · rintro Df0_1 lpf0_1 j WA WB ⟨l2, N2, hN2, HA⟩ hkA
          exact ⟨l2, N2, hN2, HA.anyKp 11 rfl rfl hkA⟩
        · exact fun _ _ _ _ _ h _ => h
        · rintro Df0_1 lpf0_1 j Wf0_1 ⟨l2, N2, hN2, HRf0_1⟩
          exact ⟨HRf0_1.blk 7 rfl, HRf0_1.rdO 8 slH_rd⟩
        · intro Df0_1 lpf0_1 Wf0_1 Hf0_1
          dsimp only [putsH, setH, List.cons_append, List.nil_append] at Hf0_1
          exact ⟨l, 2 * n, by omega, Hf0_1.pick' [0, 1, 2, 3, 4, 5, 6, 7, 8, 9, 10, 11] rfl rfl⟩
        · rintro Df0_1 lpf0_1 j xr Wf0_1 rbf0_1 hxr ⟨l2, N2, hN2, HAf0_1⟩ hrbf0_1 hrdf0_1
          have HRf0_1 := HAf0_1.anyLoop 11 rfl rfl hrbf0_1 hrdf0_1
          dsimp only [setH] at HRf0_1
          have hjlxr := (List.getElem?_eq_some_iff.1 hxr).1
          have hljxr : l[j]? = some (xr.key, xr.val) := by rw [← hER2, List.getElem?_map, hxr]; rfl
          refine seq_ ?_
          refine region_ ?_
          refine wl_allocH HRf0_1 ti28 ?_
          intro bk w113 H113
          refine wl_storeAggH H113 12 (o := 0) (cs := [.int .i64 xr.key.table, .int .i64 xr.key.row]) (A' := #[.int .i64 xr.key.table, .int .i64 xr.key.row]) rfl rfl ti28 rfl rfl rfl rfl rfl oneAll (leb rfl) rfl ?_
          intro w114 H114
          refine wl_nil ?_
          refine thn ?_
          refine wrD rfl ?_
          refine region_ ?_
          refine wl_valE (v := .int .i64 xr.val) rfl (rf_assign rfl) rfl ?_
          refine wl_nil ?_
          refine apn ⟨(H114.loopBlk 11 rfl).1, fun W2f0_1 rb2f0_1 hk2f0_1 hb2f0_1 hd2f0_1 => ?_⟩
          have H2f0_1 := H114.loopTurn 11 rfl rfl hk2f0_1 hb2f0_1 hd2f0_1
          dsimp only [setH, putsH, List.cons_append, List.nil_append] at H2f0_1
          refine block_ ?_
          refine seq_ ?_
          refine seq_ ?_
          refine region_q mixedP (by kernel_rfl) ?_
          refine qt_valE (v := .int .i64 ((j : Nat) : Int)) rfl (fun wq hq => rf_load Try.underlying3 rfl rfl rfl (((H2f0_1.keep hq).blk 10 rfl).cell rfl)) rfl ?_
          refine qt_valE (v := .slice wa m wc) rfl (fun wq hq => rf_load Try.underlying39 rfl rfl rfl (((H2f0_1.keep hq).blk 5 rfl).cell rfl)) rfl ?_
          refine qt_valE (v := .int .i64 ((m : Nat) : Int)) rfl (fun wq hq => rf_len_slice Try.underlying39 rfl rfl) rfl ?_
          refine qt_valE (v := .bool (decide (((m : Nat) : Int) ≤ ((j : Nat) : Int)))) rfl (fun wq hq => rf_geq rfl rfl rfl rfl) rfl ?_
          refine qt_valE (v := .bool (decide (((m : Nat) : Int) ≤ ((j : Nat) : Int)))) rfl (fun wq hq => rf_move rfl) rfl ?_
          refine qt_guardT rfl rfl rfl (by simp; omega) ?_
          refine qt_valE (v := .agg #[.int .i64 xr.key.table, .int .i64 xr.key.row]) rfl (fun wq hq => rf_loadBlk Try.underlying28 rfl ti28 rfl rfl ((H2f0_1.keep hq).blk 12 rfl) (leb rfl)) rfl ?_
          refine qt_guardT rfl rfl rfl (by simp; omega) ?_
          refine qt_valE (v := .slice wa m wc) rfl (fun wq hq => rf_load Try.underlying39 rfl rfl rfl (((H2f0_1.keep hq).blk 5 rfl).cell rfl)) rfl ?_
          refine qt_guardT rfl rfl rfl (by simp; omega) ?_
          refine qt_valE (v := .int .i64 ((j : Nat) : Int)) rfl (fun wq hq => rf_load Try.underlying3 rfl rfl rfl (((H2f0_1.keep hq).blk 10 rfl).cell rfl)) rfl ?_
          refine qt_guardT rfl rfl rfl (by simp; omega) ?_
          refine qt_valE (v := .pointer (some ⟨ab wa, ao wa + j * 4, none⟩)) rfl (fun wq hq => rf_indexAddrH Try.underlying39 ti41 rfl rfl rfl rfl (by omega) (by omega) ((H2f0_1.keep hq).rdO 6 slH_rd)) rfl ?_
          refine qt_guardT rfl rfl rfl (by simp; omega) ?_
          refine qt_valE (v := .pointer (some ⟨ab wa, ao wa + j * 4, none⟩)) rfl (fun wq hq => rf_fieldAddr Try.underlying41 rfl ti28 rfl rfl) rfl ?_
          refine qt_guardT rfl rfl rfl (by simp; omega) ?_
          refine qt_valE (v := .agg #[.int .i64 xr.key.table, .int .i64 xr.key.row]) rfl (fun wq hq => rf_loadAgg (cs := [.int .i64 xr.key.table, .int .i64 xr.key.row]) Try.underlying28 rfl ti28 rfl rfl (el_sub' (rd_el ((H2f0_1.keep hq).rdO 6 slH_rd) hljxr) 0 2 rfl) rfl) rfl ?_
          refine qt_guardT rfl rfl rfl (by simp; omega) ?_
          refine qt_valE (v := .bool (!decide (xr.key = xr.key))) rfl (fun wq hq => rf_neqS (by kernel_rfl) (eqKey xr.key xr.key _) rfl rfl rfl rfl) rfl ?_
          refine qt_valE (v := .bool (!decide (xr.key = xr.key))) rfl (fun wq hq => rf_pickF rfl rfl rfl (by simp; omega)) rfl ?_
          refine qt_valE (v := .bool (!decide (xr.key = xr.key))) rfl (fun wq hq => rf_move rfl) rfl ?_
          refine qt_guardT rfl rfl rfl (by simp) ?_
          refine qt_valE (v := .int .i64 xr.val) rfl (fun wq hq => rf_move rfl) rfl ?_
          refine qt_guardT rfl rfl rfl (by simp) ?_
          refine qt_valE (v := .slice wa m wc) rfl (fun wq hq => rf_load Try.underlying39 rfl rfl rfl (((H2f0_1.keep hq).blk 5 rfl).cell rfl)) rfl ?_
          refine qt_guardT rfl rfl rfl (by simp) ?_
          refine qt_valE (v := .int .i64 ((j : Nat) : Int)) rfl (fun wq hq => rf_load Try.underlying3 rfl rfl rfl (((H2f0_1.keep hq).blk 10 rfl).cell rfl)) rfl ?_
          refine qt_guardT rfl rfl rfl (by simp) ?_
          refine qt_valE (v := .pointer (some ⟨ab wa, ao wa + j * 4, none⟩)) rfl (fun wq hq => rf_indexAddrH Try.underlying39 ti41 rfl rfl rfl rfl (by omega) (by omega) ((H2f0_1.keep hq).rdO 6 slH_rd)) rfl ?_
          refine qt_guardT rfl rfl rfl (by simp) ?_
          refine qt_valE (v := .pointer (some ⟨ab wa, ao wa + j * 4 + 2, none⟩)) rfl (fun wq hq => rf_fieldAddr Try.underlying41 rfl ti2 rfl rfl) rfl ?_
          refine qt_guardT rfl rfl rfl (by simp) ?_
          refine qt_valE (v := .int .i64 xr.val) rfl (fun wq hq => rf_load Try.underlying2 rfl rfl rfl (rd_el ((H2f0_1.keep hq).rdO 6 slH_rd) hljxr 2 _ rfl)) rfl ?_
          refine qt_guardT rfl rfl rfl (by simp) ?_
          refine qt_valE (v := .bool (decide (xr.val ≠ xr.val))) rfl (fun wq hq => rf_neq rfl rfl rfl rfl) rfl ?_
          refine qt_valE (v := .bool (decide (xr.val ≠ xr.val))) rfl (fun wq hq => rf_pickF rfl rfl rfl (by simp)) rfl ?_
          refine qt_nil ?_
          intro w115 hk115
          have H115 := H2f0_1.keep hk115
          refine thn ?_
          refine wrD rfl ?_
          refine condF' rfl rfl (t := decide (xr.val ≠ xr.val)) ((by simp)) ?_
          refine skip_ ?_
          refine thn ?_
          refine wrD rfl ?_
          refine seq_ ?_
          refine seq_ ?_
          refine region_ ?_
          refine wl_valE (v := .int .i64 ((j : Nat) : Int)) rfl (rf_load Try.underlying3 rfl rfl rfl ((H115.blk 10 rfl).cell rfl)) rfl ?_
          refine wl_valE (v := .bool (decide (((j : Nat) : Int) < (3 : Int)))) rfl (rf_lss rfl rfl rfl rfl) rfl ?_
          refine wl_nil ?_
          refine thn ?_
          refine wrD rfl ?_
          refine cond_ (t := decide (((j : Nat) : Int) < (3 : Int))) rfl rfl (fun c141 => ?_) (fun c141 => ?_)
          · have c141p := of_decide_eq_true c141
            refine seq_ ?_
            refine region_ ?_
            refine wl_allocH H115 ti3 ?_
            intro bm w117 H117
            refine wl_storeH H117 13 (v := .int .i64 (0 : Int)) (A' := #[.int .i64 (0 : Int)]) rfl rfl ti3 rfl rfl rfl rfl rfl (ltb rfl) rfl ?_
            intro w118 H118
            refine wl_nil ?_
            refine thn ?_
            refine wrD rfl ?_
            refine seq_ ?_
            refine seq_ ?_
            refine region_ ?_
            refine wl_valE (v := .func (.func 16) #[] #[.pointer (some ⟨tb, 0, none⟩)]) rfl (rf_load Try.underlying34 rfl rfl rfl ((H118.blk 9 rfl).cell rfl)) rfl ?_
            refine wl_nil ?_
            refine thn ?_
            refine wrD rfl ?_
            refine block_ ?_
            refine rangeI H118 11 rfl rfl rfl rfl (by exact Try.call16) (each_it tb ea ec ER (by omega)) (fun _ _ => rfl) (fun lpf1_1 j2 qw_ => St w0 S0 [rdH encKey 2 a n c l0, rdH encKey 2 a2 n2 c2 l1] qw_ [mksH (Df0_1 :: []), blkH b3 #[.slice a2 n2 c2] 22, blkH bres #[.bool false] 4, dicH bd ((3 : Int).toNat) l2 N2, blkH b5 #[.pointer (some ⟨bd, 0, none⟩)] 23, blkH b7 #[.slice wa m wc] 39, slH encKV 4 41 wa m wc l, blkH tb #[.slice ea ER.length ec] 52, slH encSlotI 4 50 ea ER.length ec ER, blkH b13 #[.func (.func 16) #[] #[.pointer (some ⟨tb, 0, none⟩)]] 34, blkH bn #[.int .i64 ((j : Nat) : Int)] 3, loopH lpf0_1 Df0_1 rb2f0_1, blkH bk #[.int .i64 xr.key.table, .int .i64 xr.key.row] 28, blkH bm #[.int .i64 ((j2 : Nat) : Int)] 3, anyH lpf1_1]) (fun lpf1_1 qe_ qw_ => False) ?_ ?_ ?_ ?_ ?_ ?_ ?_
            · rintro lpf1_1 j2 WA WB HA hkA
              exact HA.anyKp 14 rfl rfl hkA
            · exact fun _ _ _ _ h _ => h
            · rintro lpf1_1 j2 Wf1_1 HRf1_1
              exact ⟨HRf1_1.blk 7 rfl, HRf1_1.rdO 8 slH_rd⟩
            · intro lpf1_1 Wf1_1 Hf1_1
              dsimp only [putsH, setH, List.cons_append, List.nil_append] at Hf1_1
              exact Hf1_1.pick' [0, 1, 2, 3, 4, 5, 6, 7, 8, 9, 10, 11, 12, 13, 14] rfl rfl
            · rintro lpf1_1 j2 xs Wf1_1 rbf1_1 hxs HAf1_1 hrbf1_1 hrdf1_1
              have HRf1_1 := HAf1_1.anyLoop 14 rfl rfl hrbf1_1 hrdf1_1
              dsimp only [setH] at HRf1_1
              have hjlxs := (List.getElem?_eq_some_iff.1 hxs).1
              have hljxs : l[j2]? = some (xs.key, xs.val) := by rw [← hER2, List.getElem?_map, hxs]; rfl
              refine seq_ ?_
              refine region_ ?_
              refine wl_allocH HRf1_1 ti28 ?_
              intro bk2 w120 H120
              refine wl_storeAggH H120 15 (o := 0) (cs := [.int .i64 xs.key.table, .int .i64 xs.key.row]) (A' := #[.int .i64 xs.key.table, .int .i64 xs.key.row]) rfl rfl ti28 rfl rfl rfl rfl rfl oneAll (leb rfl) rfl ?_
              intro w121 H121
              refine wl_nil ?_
              refine thn ?_
              refine wrD rfl ?_
              refine region_ ?_
              refine wl_valE (v := .int .i64 xs.val) rfl (rf_assign rfl) rfl ?_
              refine wl_nil ?_
              refine apn ⟨(H121.loopBlk 14 rfl).1, fun W2f1_1 rb2f1_1 hk2f1_1 hb2f1_1 hd2f1_1 => ?_⟩
              have H2f1_1 := H121.loopTurn 14 rfl rfl hk2f1_1 hb2f1_1 hd2f1_1
              dsimp only [setH, putsH, List.cons_append, List.nil_append] at H2f1_1
              refine block_ ?_
              refine seq_ ?_
              refine seq_ ?_
              refine region_q mixedP (by kernel_rfl) ?_
              refine qt_valE (v := .int .i64 ((j2 : Nat) : Int)) rfl (fun wq hq => rf_load Try.underlying3 rfl rfl rfl (((H2f1_1.keep hq).blk 13 rfl).cell rfl)) rfl ?_
              refine qt_valE (v := .slice wa m wc) rfl (fun wq hq => rf_load Try.underlying39 rfl rfl rfl (((H2f1_1.keep hq).blk 5 rfl).cell rfl)) rfl ?_
              refine qt_valE (v := .int .i64 ((m : Nat) : Int)) rfl (fun wq hq => rf_len_slice Try.underlying39 rfl rfl) rfl ?_
              refine qt_valE (v := .bool (decide (((m : Nat) : Int) ≤ ((j2 : Nat) : Int)))) rfl (fun wq hq => rf_geq rfl rfl rfl rfl) rfl ?_
              refine qt_valE (v := .bool (decide (((m : Nat) : Int) ≤ ((j2 : Nat) : Int)))) rfl (fun wq hq => rf_move rfl) rfl ?_
              refine qt_guardT rfl rfl rfl (by simp; omega) ?_
              refine qt_valE (v := .agg #[.int .i64 xs.key.table, .int .i64 xs.key.row]) rfl (fun wq hq => rf_loadBlk Try.underlying28 rfl ti28 rfl rfl ((H2f1_1.keep hq).blk 15 rfl) (leb rfl)) rfl ?_
              refine qt_guardT rfl rfl rfl (by simp; omega) ?_
              refine qt_valE (v := .slice wa m wc) rfl (fun wq hq => rf_load Try.underlying39 rfl rfl rfl (((H2f1_1.keep hq).blk 5 rfl).cell rfl)) rfl ?_
              refine qt_guardT rfl rfl rfl (by simp; omega) ?_
              refine qt_valE (v := .int .i64 ((j2 : Nat) : Int)) rfl (fun wq hq => rf_load Try.underlying3 rfl rfl rfl (((H2f1_1.keep hq).blk 13 rfl).cell rfl)) rfl ?_
              refine qt_guardT rfl rfl rfl (by simp; omega) ?_
              refine qt_valE (v := .pointer (some ⟨ab wa, ao wa + j2 * 4, none⟩)) rfl (fun wq hq => rf_indexAddrH Try.underlying39 ti41 rfl rfl rfl rfl (by omega) (by omega) ((H2f1_1.keep hq).rdO 6 slH_rd)) rfl ?_
              refine qt_guardT rfl rfl rfl (by simp; omega) ?_
              refine qt_valE (v := .pointer (some ⟨ab wa, ao wa + j2 * 4, none⟩)) rfl (fun wq hq => rf_fieldAddr Try.underlying41 rfl ti28 rfl rfl) rfl ?_
              refine qt_guardT rfl rfl rfl (by simp; omega) ?_
              refine qt_valE (v := .agg #[.int .i64 xs.key.table, .int .i64 xs.key.row]) rfl (fun wq hq => rf_loadAgg (cs := [.int .i64 xs.key.table, .int .i64 xs.key.row]) Try.underlying28 rfl ti28 rfl rfl (el_sub' (rd_el ((H2f1_1.keep hq).rdO 6 slH_rd) hljxs) 0 2 rfl) rfl) rfl ?_
              refine qt_guardT rfl rfl rfl (by simp; omega) ?_
              refine qt_valE (v := .bool (!decide (xs.key = xs.key))) rfl (fun wq hq => rf_neqS (by kernel_rfl) (eqKey xs.key xs.key _) rfl rfl rfl rfl) rfl ?_
              refine qt_valE (v := .bool (!decide (xs.key = xs.key))) rfl (fun wq hq => rf_pickF rfl rfl rfl (by simp; omega)) rfl ?_
              refine qt_valE (v := .bool (!decide (xs.key = xs.key))) rfl (fun wq hq => rf_move rfl) rfl ?_
              refine qt_guardT rfl rfl rfl (by simp) ?_
              refine qt_valE (v := .int .i64 xs.val) rfl (fun wq hq => rf_move rfl) rfl ?_
              refine qt_guardT rfl rfl rfl (by simp) ?_
              refine qt_valE (v := .slice wa m wc) rfl (fun wq hq => rf_load Try.underlying39 rfl rfl rfl (((H2f1_1.keep hq).blk 5 rfl).cell rfl)) rfl ?_
              refine qt_guardT rfl rfl rfl (by simp) ?_
              refine qt_valE (v := .int .i64 ((j2 : Nat) : Int)) rfl (fun wq hq => rf_load Try.underlying3 rfl rfl rfl (((H2f1_1.keep hq).blk 13 rfl).cell rfl)) rfl ?_
              refine qt_guardT rfl rfl rfl (by simp) ?_
              refine qt_valE (v := .pointer (some ⟨ab wa, ao wa + j2 * 4, none⟩)) rfl (fun wq hq => rf_indexAddrH Try.underlying39 ti41 rfl rfl rfl rfl (by omega) (by omega) ((H2f1_1.keep hq).rdO 6 slH_rd)) rfl ?_
              refine qt_guardT rfl rfl rfl (by simp) ?_
              refine qt_valE (v := .pointer (some ⟨ab wa, ao wa + j2 * 4 + 2, none⟩)) rfl (fun wq hq => rf_fieldAddr Try.underlying41 rfl ti2 rfl rfl) rfl ?_
              refine qt_guardT rfl rfl rfl (by simp) ?_
              refine qt_valE (v := .int .i64 xs.val) rfl (fun wq hq => rf_load Try.underlying2 rfl rfl rfl (rd_el ((H2f1_1.keep hq).rdO 6 slH_rd) hljxs 2 _ rfl)) rfl ?_
              refine qt_guardT rfl rfl rfl (by simp) ?_
              refine qt_valE (v := .bool (decide (xs.val ≠ xs.val))) rfl (fun wq hq => rf_neq rfl rfl rfl rfl) rfl ?_
              refine qt_valE (v := .bool (decide (xs.val ≠ xs.val))) rfl (fun wq hq => rf_pickF rfl rfl rfl (by simp)) rfl ?_
              refine qt_nil ?_
              intro w122 hk122
              have H122 := H2f1_1.keep hk122
              refine thn ?_
              refine wrD rfl ?_
              refine condF' rfl rfl (t := decide (xs.val ≠ xs.val)) ((by simp)) ?_
              refine skip_ ?_
              refine thn ?_
              refine wrD rfl ?_
              refine region_ ?_
              refine wl_valE (v := .int .i64 ((j2 : Nat) : Int)) rfl (rf_load Try.underlying3 rfl rfl rfl ((H122.blk 13 rfl).cell rfl)) rfl ?_
              refine wl_valE (v := .int .i64 ((j2 + 1 : Nat) : Int)) rfl (rf_add rfl rfl rfl rfl (IntWalk.i64_in _ (by omega))) rfl ?_
              refine wl_storeH H122 13 (v := .int .i64 ((j2 + 1 : Nat) : Int)) (A' := #[.int .i64 ((j2 + 1 : Nat) : Int)]) rfl rfl ti3 rfl rfl rfl rfl rfl (ltb rfl) rfl ?_
              intro w123 H123
              refine wl_nil ?_
              refine bln ?_
              refine rb_n H123 14 rfl ?_
              have H124 := H123.le 14 loopH_any rfl
              exact H124.pick' [0, 1, 2, 3, 4, 5, 6, 7, 8, 9, 10, 11, 12, 13, 14] rfl rfl
            · rintro lpf1_1 Wf1_1 HDf1_1
              refine bln ?_
              refine thn ?_
              refine wrD rfl ?_
              refine seq_ ?_
              refine region_ ?_
              refine wl_valE (v := .int .i64 ((ER.length : Nat) : Int)) rfl (rf_load Try.underlying3 rfl rfl rfl ((HDf1_1.blk 13 rfl).cell rfl)) rfl ?_
              refine wl_valE (v := .slice wa m wc) rfl (rf_load Try.underlying39 rfl rfl rfl ((HDf1_1.blk 5 rfl).cell rfl)) rfl ?_
              refine wl_valE (v := .int .i64 ((m : Nat) : Int)) rfl (rf_len_slice Try.underlying39 rfl rfl) rfl ?_
              refine wl_valE (v := .bool (decide (((ER.length : Nat) : Int) ≠ ((m : Nat) : Int)))) rfl (rf_neq rfl rfl rfl rfl) rfl ?_
              refine wl_nil ?_
              refine thn ?_
              refine wrD rfl ?_
              refine condF' rfl rfl (t := decide (((ER.length : Nat) : Int) ≠ ((m : Nat) : Int))) ((by simp; omega)) ?_
              refine skip_ ?_
              refine thn ?_
              refine wrD rfl ?_
              refine seq_ ?_
              refine region_ ?_
              refine wl_valE (v := .pointer (some ⟨bd, 0, none⟩)) rfl (rf_load Try.underlying23 rfl rfl rfl ((HDf1_1.blk 4 rfl).cell rfl)) rfl ?_
              refine wl_valE (v := .agg #[.int .i64 xr.key.table, .int .i64 xr.key.row]) rfl (rf_loadBlk Try.underlying28 rfl ti28 rfl rfl (HDf1_1.blk 12 rfl) (leb rfl)) rfl ?_
              refine wl_tr HDf1_1 rfl [3] (take_tr xr.key (by omega)) rfl .nil (rf_call Try.call11 rfl rfl) rfl ?_
              rintro _ w125 _ ⟨rfl, rfl⟩ H125
              refine wl_nil ?_
              refine thn ?_
              refine wrD rfl ?_
              refine seq_ ?_
              refine seq_ ?_
              refine region_ ?_
              refine wl_valE (v := .int .i64 (0 : Int)) rfl (rf_assign rfl) rfl ?_
              refine wl_nil ?_
              refine thn ?_
              refine wrD rfl ?_
              refine block_ ?_
              refine loop_ (fun qk_ qf_ qw_ => ∃ (g : Nat → Value) (i2 : Nat) (l3 : List (Key × Int)) (N3 : Nat), qf_ = upds g [(3, .pointer (some ⟨b3, 0, none⟩)), (4, .pointer (some ⟨bres, 0, none⟩)), (5, .pointer (some ⟨b5, 0, none⟩)), (7, .pointer (some ⟨b7, 0, none⟩)), (13, .pointer (some ⟨b13, 0, none⟩)), (14, .pointer (some ⟨bn, 0, none⟩)), (20, .int .i64 ((i2 : Nat) : Int)), (115, .func (.func 16) #[] #[.pointer (some ⟨tb, 0, none⟩)]), (116, .agg #[.int .i64 xr.key.table, .int .i64 xr.key.row]), (117, .int .i64 xr.val)] ∧ qk_ = n2 - i2 ∧ (i2 ≤ n2 ∧ N3 = N2 + i2) ∧ St w0 S0 [rdH encKey 2 a n c l0, rdH encKey 2 a2 n2 c2 l1] qw_ [mksH (Df0_1 :: []), blkH b3 #[.slice a2 n2 c2] 22, blkH bres #[.bool false] 4, dicH bd ((3 : Int).toNat) l3 N3, blkH b5 #[.pointer (some ⟨bd, 0, none⟩)] 23, blkH b7 #[.slice wa m wc] 39, slH encKV 4 41 wa m wc l, blkH tb #[.slice ea ER.length ec] 52, slH encSlotI 4 50 ea ER.length ec ER, blkH b13 #[.func (.func 16) #[] #[.pointer (some ⟨tb, 0, none⟩)]] 34, blkH bn #[.int .i64 ((j : Nat) : Int)] 3, loopH lpf0_1 Df0_1 rb2f0_1, blkH bk #[.int .i64 xr.key.table, .int .i64 xr.key.row] 28, blkH bm #[.int .i64 ((ER.length : Nat) : Int)] 3, anyH lpf1_1]) (n2 - 0) ?_ ?_
              · refine ⟨_, 0, (delP l2 xr.key), N2, upds_self ⟨rfl, rfl, rfl, rfl, rfl, rfl, rfl, rfl, rfl, rfl, trivial⟩, rfl, ⟨Nat.zero_le _, rfl⟩, H125.pick' [0, 1, 2, 3, 4, 5, 6, 7, 8, 9, 10, 11, 12, 13, 14] rfl rfl⟩
              · rintro lk2_2 _ wl2_2 ⟨gl2_2, i2, l3, N3, rfl, hlk2_2, ⟨hi2, hN3⟩, HL2_2⟩
                refine seq_ ?_
                refine seq_ ?_
                refine region_ ?_
                refine wl_valE (v := .int .i64 ((i2 : Nat) : Int)) rfl (rf_move rfl) rfl ?_
                refine wl_valE (v := .slice a2 n2 c2) rfl (rf_load Try.underlying22 rfl rfl rfl ((HL2_2.blk 1 rfl).cell rfl)) rfl ?_
                refine wl_valE (v := .int .i64 ((n2 : Nat) : Int)) rfl (rf_len_slice Try.underlying22 rfl rfl) rfl ?_
                refine wl_valE (v := .bool (decide (((i2 : Nat) : Int) < ((n2 : Nat) : Int)))) rfl (rf_lss rfl rfl rfl rfl) rfl ?_
                refine wl_valE (v := .bool (decide (((i2 : Nat) : Int) < ((n2 : Nat) : Int)))) rfl (rf_move rfl) rfl ?_
                refine wl_split (decide (((i2 : Nat) : Int) < ((n2 : Nat) : Int))) (fun u41_4 => ?_) (fun u41_4 => ?_)
                · have u41_4p := of_decide_eq_true u41_4
                  refine wl_guardT rfl rfl rfl u41_4 ?_
                  refine wl_valE (v := .int .i64 ((j : Nat) : Int)) rfl (rf_load Try.underlying3 rfl rfl rfl ((HL2_2.blk 10 rfl).cell rfl)) rfl ?_
                  refine wl_guardT rfl rfl rfl u41_4 ?_
                  refine wl_valE (v := .bool (decide (((j : Nat) : Int) < (3 : Int)))) rfl (rf_lss rfl rfl rfl rfl) rfl ?_
                  refine wl_valE (v := .bool (decide (((j : Nat) : Int) < (3 : Int)))) rfl (rf_pickT rfl rfl rfl u41_4) rfl ?_
                  refine wl_nil ?_
                  refine thn ?_
                  refine wrD rfl ?_
                  refine cond_ (t := decide (((j : Nat) : Int) < (3 : Int))) rfl rfl (fun c183 => ?_) (fun c183 => ?_)
                  · have c183p := of_decide_eq_true c183
                    refine skip_ ?_
                    refine thn ?_
                    refine wrD rfl ?_
                    refine seq_ ?_
                    refine block_ ?_
                    refine region_h (S := (fun wq => St w0 S0 [rdH encKey 2 a n c l0, rdH encKey 2 a2 n2 c2 l1] wq [blkH b3 #[.slice a2 n2 c2] 22, blkH b5 #[.pointer (some ⟨bd, 0, none⟩)] 23])) mixedP ?_
                    intro w126 hk126
                    have H126 := HL2_2.keep hk126
                    have hS126 : St w0 S0 [rdH encKey 2 a n c l0, rdH encKey 2 a2 n2 c2 l1] w126 [blkH b3 #[.slice a2 n2 c2] 22, blkH b5 #[.pointer (some ⟨bd, 0, none⟩)] 23] := H126.pick' [1, 4] rfl rfl
                    refine wh_take (i := 0) (v := .pointer (some ⟨bd, 0, none⟩)) rfl (by kernel_rfl) (by kernel_rfl) (by kernel_rfl) hS126 rfl (fun wq hq => rf_load Try.underlying23 rfl rfl rfl ((hq.blk 1 rfl).cell rfl)) rfl ?_
                    refine wh_take (i := 1) (v := .slice a2 n2 c2) rfl (by kernel_rfl) (by kernel_rfl) (by kernel_rfl) hS126 rfl (fun wq hq => rf_load Try.underlying22 rfl rfl rfl ((hq.blk 0 rfl).cell rfl)) rfl ?_
                    refine wh_take (i := 2) (v := .int .i64 ((i2 : Nat) : Int)) rfl (by kernel_rfl) (by kernel_rfl) (by kernel_rfl) hS126 rfl (fun wq hq => rf_move rfl) rfl ?_
                    refine wh_take (i := 3) (v := .pointer (some ⟨ab a2, ao a2 + i2 * 2, none⟩)) rfl (by kernel_rfl) (by kernel_rfl) (by kernel_rfl) hS126 rfl (fun wq hq => rf_indexAddrH Try.underlying22 ti28 rfl rfl rfl rfl (by omega) (by omega) (hq.rdR 1 Le.rfl)) rfl ?_
                    have hn128 := rd_len (H126.rdR 1 Le.rfl)
                    obtain ⟨x127, hx127⟩ : ∃ q_, l1[i2]? = some q_ := ⟨_, List.getElem?_eq_getElem (by omega)⟩
                    refine wh_take (i := 4) (v := .agg #[.int .i64 x127.table, .int .i64 x127.row]) rfl (by kernel_rfl) (by kernel_rfl) (by kernel_rfl) hS126 rfl (fun wq hq => rf_loadAgg (cs := [.int .i64 x127.table, .int .i64 x127.row]) Try.underlying28 rfl ti28 rfl rfl (el_sub' (rd_el (hq.rdR 1 Le.rfl) hx127) 0 2 rfl) rfl) rfl ?_
                    refine wh_take (i := 5) (v := .int .i64 ((i2 : Nat) : Int)) rfl (by kernel_rfl) (by kernel_rfl) (by kernel_rfl) hS126 rfl (fun wq hq => rf_move rfl) rfl ?_
                    refine wh_take (i := 6) (v := .int .i64 ((-1 : Int) - ((i2 : Nat) : Int))) rfl (by kernel_rfl) (by kernel_rfl) (by kernel_rfl) hS126 rfl (fun wq hq => rf_sub rfl rfl rfl rfl (IntWalk.i64_in _ (by omega))) rfl ?_
                    refine wh_one (i := 7) (by kernel_rfl) rfl ?_
                    refine wl_tr H126 rfl [3] (put_tr x127 ((-1 : Int) - ((i2 : Nat) : Int)) (by omega)) rfl .nil (rf_call Try.call6 rfl rfl) rfl ?_
                    rintro _ w129 _ ⟨rfl, rfl⟩ H129
                    refine wl_nil ?_
                    have hS130 : St w0 S0 [rdH encKey 2 a n c l0, rdH encKey 2 a2 n2 c2 l1] w129 [blkH b3 #[.slice a2 n2 c2] 22, blkH b5 #[.pointer (some ⟨bd, 0, none⟩)] 23] := H129.pick' [1, 4] rfl rfl
                    refine wh_back hS130 ?_
                    refine wh_done (by kernel_rfl) ?_
                    refine bln ?_
                    refine thn ?_
                    refine wrD rfl ?_
                    refine region_ ?_
                    refine wl_valE (v := .int .i64 ((i2 : Nat) : Int)) rfl (rf_move rfl) rfl ?_
                    refine wl_valE (v := .int .i64 ((i2 + 1 : Nat) : Int)) rfl (rf_add rfl rfl rfl rfl (IntWalk.i64_in _ (by omega))) rfl ?_
                    refine wl_valE (v := .int .i64 ((i2 + 1 : Nat) : Int)) rfl (rf_assign rfl) rfl ?_
                    refine wl_nil ?_
                    refine thn ?_
                    refine ⟨n2 - (i2 + 1), _, rfl, (by omega), _, i2 + 1, (putP l3 x127 ((-1 : Int) - ((i2 : Nat) : Int))), (N3 + 1), upds_self ⟨rfl, rfl, rfl, rfl, rfl, rfl, rfl, rfl, rfl, rfl, trivial⟩, rfl, ⟨by omega, by omega⟩, H129.pick' [0, 1, 2, 3, 4, 5, 6, 7, 8, 9, 10, 11, 12, 13, 14] rfl rfl⟩
                  · have c183p := of_decide_eq_false c183
                    refine exit_ ?_
                    refine thx (thx (blx ?_))
                    refine thn ?_
                    refine wrD rfl ?_
                    refine region_ ?_
                    refine wl_valE (v := .int .i64 ((j : Nat) : Int)) rfl (rf_load Try.underlying3 rfl rfl rfl ((HL2_2.blk 10 rfl).cell rfl)) rfl ?_
                    refine wl_valE (v := .int .i64 ((j + 1 : Nat) : Int)) rfl (rf_add rfl rfl rfl rfl (IntWalk.i64_in _ (by omega))) rfl ?_
                    refine wl_storeH HL2_2 10 (v := .int .i64 ((j + 1 : Nat) : Int)) (A' := #[.int .i64 ((j + 1 : Nat) : Int)]) rfl rfl ti3 rfl rfl rfl rfl rfl (ltb rfl) rfl ?_
                    intro w131 H131
                    refine wl_nil ?_
                    refine bln ?_
                    refine rb_n H131 11 rfl ?_
                    have H132 := H131.le 11 loopH_any rfl
                    exact ⟨(l3), (N3), by omega, H132.pick' [0, 1, 2, 3, 4, 5, 6, 7, 8, 9, 10, 11] rfl rfl⟩
                · have u41_4p := of_decide_eq_false u41_4
                  refine wl_guardF rfl rfl rfl u41_4 ?_
                  refine wl_guardF rfl rfl rfl u41_4 ?_
                  refine wl_valE (v := .bool false) rfl (rf_pickF rfl rfl rfl u41_4) rfl ?_
                  refine wl_nil ?_
                  refine thn ?_
                  refine wrD rfl ?_
                  refine condF rfl rfl ?_
                  refine exit_ ?_
                  refine thx (thx (blx ?_))
                  refine thn ?_
                  refine wrD rfl ?_
                  refine region_ ?_
                  refine wl_valE (v := .int .i64 ((j : Nat) : Int)) rfl (rf_load Try.underlying3 rfl rfl rfl ((HL2_2.blk 10 rfl).cell rfl)) rfl ?_
                  refine wl_valE (v := .int .i64 ((j + 1 : Nat) : Int)) rfl (rf_add rfl rfl rfl rfl (IntWalk.i64_in _ (by omega))) rfl ?_
                  refine wl_storeH HL2_2 10 (v := .int .i64 ((j + 1 : Nat) : Int)) (A' := #[.int .i64 ((j + 1 : Nat) : Int)]) rfl rfl ti3 rfl rfl rfl rfl rfl (ltb rfl) rfl ?_
                  intro w133 H133
                  refine wl_nil ?_
                  refine bln ?_
                  refine rb_n H133 11 rfl ?_
                  have H134 := H133.le 11 loopH_any rfl
                  exact ⟨(l3), (N3), by omega, H134.pick' [0, 1, 2, 3, 4, 5, 6, 7, 8, 9, 10, 11] rfl rfl⟩
            · exact fun _ _ _ h _ => h.elim
          · have c141p := of_decide_eq_false c141
            refine skip_ ?_
            refine thn ?_
            refine wrD rfl ?_
            refine seq_ ?_
            refine region_ ?_
            refine wl_valE (v := .pointer (some ⟨bd, 0, none⟩)) rfl (rf_load Try.underlying23 rfl rfl rfl ((H115.blk 4 rfl).cell rfl)) rfl ?_
            refine wl_valE (v := .agg #[.int .i64 xr.key.table, .int .i64 xr.key.row]) rfl (rf_loadBlk Try.underlying28 rfl ti28 rfl rfl (H115.blk 12 rfl) (leb rfl)) rfl ?_
            refine wl_tr H115 rfl [3] (take_tr xr.key (by omega)) rfl .nil (rf_call Try.call11 rfl rfl) rfl ?_
            rintro _ w135 _ ⟨rfl, rfl⟩ H135
            refine wl_nil ?_
            refine thn ?_
            refine wrD rfl ?_
            refine seq_ ?_
            refine seq_ ?_
            refine region_ ?_
            refine wl_valE (v := .int .i64 (0 : Int)) rfl (rf_assign rfl) rfl ?_
            refine wl_nil ?_
            refine thn ?_
            refine wrD rfl ?_
            refine block_ ?_
            refine loop_ (fun qk_ qf_ qw_ => ∃ (g : Nat → Value) (i2 : Nat) (l3 : List (Key × Int)) (N3 : Nat), qf_ = upds g [(3, .pointer (some ⟨b3, 0, none⟩)), (4, .pointer (some ⟨bres, 0, none⟩)), (5, .pointer (some ⟨b5, 0, none⟩)), (7, .pointer (some ⟨b7, 0, none⟩)), (13, .pointer (some ⟨b13, 0, none⟩)), (14, .pointer (some ⟨bn, 0, none⟩)), (20, .int .i64 ((i2 : Nat) : Int)), (115, .func (.func 16) #[] #[.pointer (some ⟨tb, 0, none⟩)]), (116, .agg #[.int .i64 xr.key.table, .int .i64 xr.key.row]), (117, .int .i64 xr.val)] ∧ qk_ = n2 - i2 ∧ (i2 ≤ n2 ∧ N3 = N2 + i2) ∧ St w0 S0 [rdH encKey 2 a n c l0, rdH encKey 2 a2 n2 c2 l1] qw_ [mksH (Df0_1 :: []), blkH b3 #[.slice a2 n2 c2] 22, blkH bres #[.bool false] 4, dicH bd ((3 : Int).toNat) l3 N3, blkH b5 #[.pointer (some ⟨bd, 0, none⟩)] 23, blkH b7 #[.slice wa m wc] 39, slH encKV 4 41 wa m wc l, blkH tb #[.slice ea ER.length ec] 52, slH encSlotI 4 50 ea ER.length ec ER, blkH b13 #[.func (.func 16) #[] #[.pointer (some ⟨tb, 0, none⟩)]] 34, blkH bn #[.int .i64 ((j : Nat) : Int)] 3, loopH lpf0_1 Df0_1 rb2f0_1, blkH bk #[.int .i64 xr.key.table, .int .i64 xr.key.row] 28]) (n2 - 0) ?_ ?_
            · refine ⟨_, 0, (delP l2 xr.key), N2, upds_self ⟨rfl, rfl, rfl, rfl, rfl, rfl, rfl, rfl, rfl, rfl, trivial⟩, rfl, ⟨Nat.zero_le _, rfl⟩, H135.pick' [0, 1, 2, 3, 4, 5, 6, 7, 8, 9, 10, 11, 12] rfl rfl⟩
            · rintro lk2_3 _ wl2_3 ⟨gl2_3, i2, l3, N3, rfl, hlk2_3, ⟨hi2, hN3⟩, HL2_3⟩
              refine seq_ ?_
              refine seq_ ?_
              refine region_ ?_
              refine wl_valE (v := .int .i64 ((i2 : Nat) : Int)) rfl (rf_move rfl) rfl ?_
              refine wl_valE (v := .slice a2 n2 c2) rfl (rf_load Try.underlying22 rfl rfl rfl ((HL2_3.blk 1 rfl).cell rfl)) rfl ?_
              refine wl_valE (v := .int .i64 ((n2 : Nat) : Int)) rfl (rf_len_slice Try.underlying22 rfl rfl) rfl ?_
              refine wl_valE (v := .bool (decide (((i2 : Nat) : Int) < ((n2 : Nat) : Int)))) rfl (rf_lss rfl rfl rfl rfl) rfl ?_
              refine wl_valE (v := .bool (decide (((i2 : Nat) : Int) < ((n2 : Nat) : Int)))) rfl (rf_move rfl) rfl ?_
              refine wl_split (decide (((i2 : Nat) : Int) < ((n2 : Nat) : Int))) (fun u41_4 => ?_) (fun u41_4 => ?_)
              · have u41_4p := of_decide_eq_true u41_4
                refine wl_guardT rfl rfl rfl u41_4 ?_
                refine wl_valE (v := .int .i64 ((j : Nat) : Int)) rfl (rf_load Try.underlying3 rfl rfl rfl ((HL2_3.blk 10 rfl).cell rfl)) rfl ?_
                refine wl_guardT rfl rfl rfl u41_4 ?_
                refine wl_valE (v := .bool (decide (((j : Nat) : Int) < (3 : Int)))) rfl (rf_lss rfl rfl rfl rfl) rfl ?_
                refine wl_valE (v := .bool (decide (((j : Nat) : Int) < (3 : Int)))) rfl (rf_pickT rfl rfl rfl u41_4) rfl ?_
                refine wl_nil ?_
                refine thn ?_
                refine wrD rfl ?_
                refine cond_ (t := decide (((j : Nat) : Int) < (3 : Int))) rfl rfl (fun c183 => ?_) (fun c183 => ?_)
                · have c183p := of_decide_eq_true c183
                  refine skip_ ?_
                  refine thn ?_
                  refine wrD rfl ?_
                  refine seq_ ?_
                  refine block_ ?_
                  refine region_h (S := (fun wq => St w0 S0 [rdH encKey 2 a n c l0, rdH encKey 2 a2 n2 c2 l1] wq [blkH b3 #[.slice a2 n2 c2] 22, blkH b5 #[.pointer (some ⟨bd, 0, none⟩)] 23])) mixedP ?_
                  intro w136 hk136
                  have H136 := HL2_3.keep hk136
                  have hS136 : St w0 S0 [rdH encKey 2 a n c l0, rdH encKey 2 a2 n2 c2 l1] w136 [blkH b3 #[.slice a2 n2 c2] 22, blkH b5 #[.pointer (some ⟨bd, 0, none⟩)] 23] := H136.pick' [1, 4] rfl rfl
                  refine wh_take (i := 0) (v := .pointer (some ⟨bd, 0, none⟩)) rfl (by kernel_rfl) (by kernel_rfl) (by kernel_rfl) hS136 rfl (fun wq hq => rf_load Try.underlying23 rfl rfl rfl ((hq.blk 1 rfl).cell rfl)) rfl ?_
                  refine wh_take (i := 1) (v := .slice a2 n2 c2) rfl (by kernel_rfl) (by kernel_rfl) (by kernel_rfl) hS136 rfl (fun wq hq => rf_load Try.underlying22 rfl rfl rfl ((hq.blk 0 rfl).cell rfl)) rfl ?_
                  refine wh_take (i := 2) (v := .int .i64 ((i2 : Nat) : Int)) rfl (by kernel_rfl) (by kernel_rfl) (by kernel_rfl) hS136 rfl (fun wq hq => rf_move rfl) rfl ?_
                  refine wh_take (i := 3) (v := .pointer (some ⟨ab a2, ao a2 + i2 * 2, none⟩)) rfl (by kernel_rfl) (by kernel_rfl) (by kernel_rfl) hS136 rfl (fun wq hq => rf_indexAddrH Try.underlying22 ti28 rfl rfl rfl rfl (by omega) (by omega) (hq.rdR 1 Le.rfl)) rfl ?_
                  have hn138 := rd_len (H136.rdR 1 Le.rfl)
                  obtain ⟨x137, hx137⟩ : ∃ q_, l1[i2]? = some q_ := ⟨_, List.getElem?_eq_getElem (by omega)⟩
                  refine wh_take (i := 4) (v := .agg #[.int .i64 x137.table, .int .i64 x137.row]) rfl (by kernel_rfl) (by kernel_rfl) (by kernel_rfl) hS136 rfl (fun wq hq => rf_loadAgg (cs := [.int .i64 x137.table, .int .i64 x137.row]) Try.underlying28 rfl ti28 rfl rfl (el_sub' (rd_el (hq.rdR 1 Le.rfl) hx137) 0 2 rfl) rfl) rfl ?_
                  refine wh_take (i := 5) (v := .int .i64 ((i2 : Nat) : Int)) rfl (by kernel_rfl) (by kernel_rfl) (by kernel_rfl) hS136 rfl (fun wq hq => rf_move rfl) rfl ?_
                  refine wh_take (i := 6) (v := .int .i64 ((-1 : Int) - ((i2 : Nat) : Int))) rfl (by kernel_rfl) (by kernel_rfl) (by kernel_rfl) hS136 rfl (fun wq hq => rf_sub rfl rfl rfl rfl (IntWalk.i64_in _ (by omega))) rfl ?_
                  refine wh_one (i := 7) (by kernel_rfl) rfl ?_
                  refine wl_tr H136 rfl [3] (put_tr x137 ((-1 : Int) - ((i2 : Nat) : Int)) (by omega)) rfl .nil (rf_call Try.call6 rfl rfl) rfl ?_
                  rintro _ w139 _ ⟨rfl, rfl⟩ H139
                  refine wl_nil ?_
                  have hS140 : St w0 S0 [rdH encKey 2 a n c l0, rdH encKey 2 a2 n2 c2 l1] w139 [blkH b3 #[.slice a2 n2 c2] 22, blkH b5 #[.pointer (some ⟨bd, 0, none⟩)] 23] := H139.pick' [1, 4] rfl rfl
                  refine wh_back hS140 ?_
                  refine wh_done (by kernel_rfl) ?_
                  refine bln ?_
                  refine thn ?_
                  refine wrD rfl ?_
                  refine region_ ?_
                  refine wl_valE (v := .int .i64 ((i2 : Nat) : Int)) rfl (rf_move rfl) rfl ?_
                  refine wl_valE (v := .int .i64 ((i2 + 1 : Nat) : Int)) rfl (rf_add rfl rfl rfl rfl (IntWalk.i64_in _ (by omega))) rfl ?_
                  refine wl_valE (v := .int .i64 ((i2 + 1 : Nat) : Int)) rfl (rf_assign rfl) rfl ?_
                  refine wl_nil ?_
                  refine thn ?_
                  refine ⟨n2 - (i2 + 1), _, rfl, (by omega), _, i2 + 1, (putP l3 x137 ((-1 : Int) - ((i2 : Nat) : Int))), (N3 + 1), upds_self ⟨rfl, rfl, rfl, rfl, rfl, rfl, rfl, rfl, rfl, rfl, trivial⟩, rfl, ⟨by omega, by omega⟩, H139.pick' [0, 1, 2, 3, 4, 5, 6, 7, 8, 9, 10, 11, 12] rfl rfl⟩
                · have c183p := of_decide_eq_false c183
                  refine exit_ ?_
                  refine thx (thx (blx ?_))
                  refine thn ?_
                  refine wrD rfl ?_
                  refine region_ ?_
                  refine wl_valE (v := .int .i64 ((j : Nat) : Int)) rfl (rf_load Try.underlying3 rfl rfl rfl ((HL2_3.blk 10 rfl).cell rfl)) rfl ?_
                  refine wl_valE (v := .int .i64 ((j + 1 : Nat) : Int)) rfl (rf_add rfl rfl rfl rfl (IntWalk.i64_in _ (by omega))) rfl ?_
                  refine wl_storeH HL2_3 10 (v := .int .i64 ((j + 1 : Nat) : Int)) (A' := #[.int .i64 ((j + 1 : Nat) : Int)]) rfl rfl ti3 rfl rfl rfl rfl rfl (ltb rfl) rfl ?_
                  intro w141 H141
                  refine wl_nil ?_
                  refine bln ?_
                  refine rb_n H141 11 rfl ?_
                  have H142 := H141.le 11 loopH_any rfl
                  exact ⟨(l3), (N3), by omega, H142.pick' [0, 1, 2, 3, 4, 5, 6, 7, 8, 9, 10, 11] rfl rfl⟩
              · have u41_4p := of_decide_eq_false u41_4
                refine wl_guardF rfl rfl rfl u41_4 ?_
                refine wl_guardF rfl rfl rfl u41_4 ?_
                refine wl_valE (v := .bool false) rfl (rf_pickF rfl rfl rfl u41_4) rfl ?_
                refine wl_nil ?_
                refine thn ?_
                refine wrD rfl ?_
                refine condF rfl rfl ?_
                refine exit_ ?_
                refine thx (thx (blx ?_))
                refine thn ?_
                refine wrD rfl ?_
                refine region_ ?_
                refine wl_valE (v := .int .i64 ((j : Nat) : Int)) rfl (rf_load Try.underlying3 rfl rfl rfl ((HL2_3.blk 10 rfl).cell rfl)) rfl ?_
                refine wl_valE (v := .int .i64 ((j + 1 : Nat) : Int)) rfl (rf_add rfl rfl rfl rfl (IntWalk.i64_in _ (by omega))) rfl ?_
                refine wl_storeH HL2_3 10 (v := .int .i64 ((j + 1 : Nat) : Int)) (A' := #[.int .i64 ((j + 1 : Nat) : Int)]) rfl rfl ti3 rfl rfl rfl rfl rfl (ltb rfl) rfl ?_
                intro w143 H143
                refine wl_nil ?_
                refine bln ?_
                refine rb_n H143 11 rfl ?_
                have H144 := H143.le 11 loopH_any rfl
                exact ⟨(l3), (N3), by omega, H144.pick' [0, 1, 2, 3, 4, 5, 6, 7, 8, 9, 10, 11] rfl rfl⟩
        · rintro Df0_1 lpf0_1 Wf0_1 ⟨l2, N2, hN2, HDf0_1⟩
          refine bln ?_
          refine thn ?_
          refine wrD rfl ?_
          refine seq_ ?_
          refine seq_ ?_
          refine region_ ?_
          refine wl_valE (v := .int .i64 ((ER.length : Nat) : Int)) rfl (rf_load Try.underlying3 rfl rfl rfl ((HDf0_1.blk 10 rfl).cell rfl)) rfl ?_
          refine wl_valE (v := .slice wa m wc) rfl (rf_load Try.underlying39 rfl rfl rfl ((HDf0_1.blk 5 rfl).cell rfl)) rfl ?_
          refine wl_valE (v := .int .i64 ((m : Nat) : Int)) rfl (rf_len_slice Try.underlying39 rfl rfl) rfl ?_
          refine wl_valE (v := .bool (decide (((ER.length : Nat) : Int) ≠ ((m : Nat) : Int)))) rfl (rf_neq rfl rfl rfl rfl) rfl ?_
          refine wl_nil ?_
          refine thn ?_
          refine wrD rfl ?_
          refine condF' rfl rfl (t := decide (((ER.length : Nat) : Int) ≠ ((m : Nat) : Int))) ((by simp; omega)) ?_
          refine skip_ ?_
          refine thn ?_
          refine wrD rfl ?_
          refine seq_ ?_
          refine region_ ?_
          refine wl_valE (v := .pointer (some ⟨bd, 0, none⟩)) rfl (rf_load Try.underlying23 rfl rfl rfl ((HDf0_1.blk 4 rfl).cell rfl)) rfl ?_
          refine wl_tr HDf0_1 rfl [3] (clear_tr) rfl .nil (rf_call Try.call12 rfl rfl) rfl ?_
          rintro _ w145 _ ⟨rfl, rfl⟩ H145
          refine wl_nil ?_
          refine thn ?_
          refine wrD rfl ?_
          refine seq_ ?_
          refine region_ ?_
          refine wl_storeH H145 10 (v := .int .i64 (0 : Int)) (A' := #[.int .i64 (0 : Int)]) rfl rfl ti3 rfl rfl rfl rfl rfl (ltb rfl) rfl ?_
          intro w146 H146
          refine wl_nil ?_
          refine thn ?_
          refine wrD rfl ?_
          refine seq_ ?_
          refine seq_ ?_
          refine region_ ?_
          refine wl_valE (v := .func (.func 16) #[] #[.pointer (some ⟨tb, 0, none⟩)]) rfl (rf_load Try.underlying34 rfl rfl rfl ((H146.blk 9 rfl).cell rfl)) rfl ?_
          refine wl_nil ?_
          refine thn ?_
          refine wrD rfl ?_
          refine block_ ?_
          refine rangeO (Ds := Df0_1 :: []) H146 0 rfl rfl rfl rfl rfl rfl (by exact Try.call16) (each_it tb ea ec ER (by omega)) (fun _ _ => rfl) (fun Df2_1 lpf2_1 j qw_ => St w0 S0 [rdH encKey 2 a n c l0, rdH encKey 2 a2 n2 c2 l1] qw_ [mksH (Df2_1 :: Df0_1 :: []), blkH b3 #[.slice a2 n2 c2] 22, blkH bres #[.bool false] 4, dicH bd ((3 : Int).toNat) ([]) N2, blkH b5 #[.pointer (some ⟨bd, 0, none⟩)] 23, blkH b7 #[.slice wa m wc] 39, slH encKV 4 41 wa m wc l, blkH tb #[.slice ea ER.length ec] 52, slH encSlotI 4 50 ea ER.length ec ER, blkH b13 #[.func (.func 16) #[] #[.pointer (some ⟨tb, 0, none⟩)]] 34, blkH bn #[.int .i64 ((j : Nat) : Int)] 3, anyH lpf0_1, anyH lpf2_1]) (fun Df2_1 lpf2_1 qe_ qw_ => False) ?_ ?_ ?_ ?_ ?_ ?_ ?_
          · rintro Df2_1 lpf2_1 j WA WB HA hkA
            exact HA.anyKp 12 rfl rfl hkA
          · exact fun _ _ _ _ _ h _ => h
          · rintro Df2_1 lpf2_1 j Wf2_1 HRf2_1
            exact ⟨HRf2_1.blk 7 rfl, HRf2_1.rdO 8 slH_rd⟩
          · intro Df2_1 lpf2_1 Wf2_1 Hf2_1
            dsimp only [putsH, setH, List.cons_append, List.nil_append] at Hf2_1
            exact Hf2_1.pick' [0, 1, 2, 3, 4, 5, 6, 7, 8, 9, 10, 11, 12] rfl rfl
          · rintro Df2_1 lpf2_1 j xr Wf2_1 rbf2_1 hxr HAf2_1 hrbf2_1 hrdf2_1
            have HRf2_1 := HAf2_1.anyLoop 12 rfl rfl hrbf2_1 hrdf2_1
            dsimp only [setH] at HRf2_1
            have hjlxr := (List.getElem?_eq_some_iff.1 hxr).1
            have hljxr : l[j]? = some (xr.key, xr.val) := by rw [← hER2, List.getElem?_map, hxr]; rfl
            refine seq_ ?_
            refine region_ ?_
            refine wl_allocH HRf2_1 ti28 ?_
            intro bk3 w148 H148
            refine wl_storeAggH H148 13 (o := 0) (cs := [.int .i64 xr.key.table, .int .i64 xr.key.row]) (A' := #[.int .i64 xr.key.table, .int .i64 xr.key.row]) rfl rfl ti28 rfl rfl rfl rfl rfl oneAll (leb rfl) rfl ?_
            intro w149 H149
            refine wl_nil ?_
            refine thn ?_
            refine wrD rfl ?_
            refine region_ ?_
            refine wl_valE (v := .int .i64 xr.val) rfl (rf_assign rfl) rfl ?_
            refine wl_nil ?_
            refine apn ⟨(H149.loopBlk 12 rfl).1, fun W2f2_1 rb2f2_1 hk2f2_1 hb2f2_1 hd2f2_1 => ?_⟩
            have H2f2_1 := H149.loopTurn 12 rfl rfl hk2f2_1 hb2f2_1 hd2f2_1
            dsimp only [setH, putsH, List.cons_append, List.nil_append] at H2f2_1
            refine block_ ?_
            refine seq_ ?_
            refine seq_ ?_
            refine region_q mixedP (by kernel_rfl) ?_
            refine qt_valE (v := .int .i64 ((j : Nat) : Int)) rfl (fun wq hq => rf_load Try.underlying3 rfl rfl rfl (((H2f2_1.keep hq).blk 10 rfl).cell rfl)) rfl ?_
            refine qt_valE (v := .slice wa m wc) rfl (fun wq hq => rf_load Try.underlying39 rfl rfl rfl (((H2f2_1.keep hq).blk 5 rfl).cell rfl)) rfl ?_
            refine qt_valE (v := .int .i64 ((m : Nat) : Int)) rfl (fun wq hq => rf_len_slice Try.underlying39 rfl rfl) rfl ?_
            refine qt_valE (v := .bool (decide (((m : Nat) : Int) ≤ ((j : Nat) : Int)))) rfl (fun wq hq => rf_geq rfl rfl rfl rfl) rfl ?_
            refine qt_valE (v := .bool (decide (((m : Nat) : Int) ≤ ((j : Nat) : Int)))) rfl (fun wq hq => rf_move rfl) rfl ?_
            refine qt_guardT rfl rfl rfl (by simp; omega) ?_
            refine qt_valE (v := .agg #[.int .i64 xr.key.table, .int .i64 xr.key.row]) rfl (fun wq hq => rf_loadBlk Try.underlying28 rfl ti28 rfl rfl ((H2f2_1.keep hq).blk 13 rfl) (leb rfl)) rfl ?_
            refine qt_guardT rfl rfl rfl (by simp; omega) ?_
            refine qt_valE (v := .slice wa m wc) rfl (fun wq hq => rf_load Try.underlying39 rfl rfl rfl (((H2f2_1.keep hq).blk 5 rfl).cell rfl)) rfl ?_
            refine qt_guardT rfl rfl rfl (by simp; omega) ?_
            refine qt_valE (v := .int .i64 ((j : Nat) : Int)) rfl (fun wq hq => rf_load Try.underlying3 rfl rfl rfl (((H2f2_1.keep hq).blk 10 rfl).cell rfl)) rfl ?_
            refine qt_guardT rfl rfl rfl (by simp; omega) ?_
            refine qt_valE (v := .pointer (some ⟨ab wa, ao wa + j * 4, none⟩)) rfl (fun wq hq => rf_indexAddrH Try.underlying39 ti41 rfl rfl rfl rfl (by omega) (by omega) ((H2f2_1.keep hq).rdO 6 slH_rd)) rfl ?_
            refine qt_guardT rfl rfl rfl (by simp; omega) ?_
            refine qt_valE (v := .pointer (some ⟨ab wa, ao wa + j * 4, none⟩)) rfl (fun wq hq => rf_fieldAddr Try.underlying41 rfl ti28 rfl rfl) rfl ?_
            refine qt_guardT rfl rfl rfl (by simp; omega) ?_
            refine qt_valE (v := .agg #[.int .i64 xr.key.table, .int .i64 xr.key.row]) rfl (fun wq hq => rf_loadAgg (cs := [.int .i64 xr.key.table, .int .i64 xr.key.row]) Try.underlying28 rfl ti28 rfl rfl (el_sub' (rd_el ((H2f2_1.keep hq).rdO 6 slH_rd) hljxr) 0 2 rfl) rfl) rfl ?_
            refine qt_guardT rfl rfl rfl (by simp; omega) ?_
            refine qt_valE (v := .bool (!decide (xr.key = xr.key))) rfl (fun wq hq => rf_neqS (by kernel_rfl) (eqKey xr.key xr.key _) rfl rfl rfl rfl) rfl ?_
            refine qt_valE (v := .bool (!decide (xr.key = xr.key))) rfl (fun wq hq => rf_pickF rfl rfl rfl (by simp; omega)) rfl ?_
            refine qt_valE (v := .bool (!decide (xr.key = xr.key))) rfl (fun wq hq => rf_move rfl) rfl ?_
            refine qt_guardT rfl rfl rfl (by simp) ?_
            refine qt_valE (v := .int .i64 xr.val) rfl (fun wq hq => rf_move rfl) rfl ?_
            refine qt_guardT rfl rfl rfl (by simp) ?_
            refine qt_valE (v := .slice wa m wc) rfl (fun wq hq => rf_load Try.underlying39 rfl rfl rfl (((H2f2_1.keep hq).blk 5 rfl).cell rfl)) rfl ?_
            refine qt_guardT rfl rfl rfl (by simp) ?_
            refine qt_valE (v := .int .i64 ((j : Nat) : Int)) rfl (fun wq hq => rf_load Try.underlying3 rfl rfl rfl (((H2f2_1.keep hq).blk 10 rfl).cell rfl)) rfl ?_
            refine qt_guardT rfl rfl rfl (by simp) ?_
            refine qt_valE (v := .pointer (some ⟨ab wa, ao wa + j * 4, none⟩)) rfl (fun wq hq => rf_indexAddrH Try.underlying39 ti41 rfl rfl rfl rfl (by omega) (by omega) ((H2f2_1.keep hq).rdO 6 slH_rd)) rfl ?_
            refine qt_guardT rfl rfl rfl (by simp) ?_
            refine qt_valE (v := .pointer (some ⟨ab wa, ao wa + j * 4 + 2, none⟩)) rfl (fun wq hq => rf_fieldAddr Try.underlying41 rfl ti2 rfl rfl) rfl ?_
            refine qt_guardT rfl rfl rfl (by simp) ?_
            refine qt_valE (v := .int .i64 xr.val) rfl (fun wq hq => rf_load Try.underlying2 rfl rfl rfl (rd_el ((H2f2_1.keep hq).rdO 6 slH_rd) hljxr 2 _ rfl)) rfl ?_
            refine qt_guardT rfl rfl rfl (by simp) ?_
            refine qt_valE (v := .bool (decide (xr.val ≠ xr.val))) rfl (fun wq hq => rf_neq rfl rfl rfl rfl) rfl ?_
            refine qt_valE (v := .bool (decide (xr.val ≠ xr.val))) rfl (fun wq hq => rf_pickF rfl rfl rfl (by simp)) rfl ?_
            refine qt_nil ?_
            intro w150 hk150
            have H150 := H2f2_1.keep hk150
            refine thn ?_
            refine wrD rfl ?_
            refine condF' rfl rfl (t := decide (xr.val ≠ xr.val)) ((by simp)) ?_
            refine skip_ ?_
            refine thn ?_
            refine wrD rfl ?_
            refine region_ ?_
            refine wl_valE (v := .int .i64 ((j : Nat) : Int)) rfl (rf_load Try.underlying3 rfl rfl rfl ((H150.blk 10 rfl).cell rfl)) rfl ?_
            refine wl_valE (v := .int .i64 ((j + 1 : Nat) : Int)) rfl (rf_add rfl rfl rfl rfl (IntWalk.i64_in _ (by omega))) rfl ?_
            refine wl_storeH H150 10 (v := .int .i64 ((j + 1 : Nat) : Int)) (A' := #[.int .i64 ((j + 1 : Nat) : Int)]) rfl rfl ti3 rfl rfl rfl rfl rfl (ltb rfl) rfl ?_
            intro w151 H151
            refine wl_nil ?_
            refine bln ?_
            refine rb_n H151 12 rfl ?_
            have H152 := H151.le 12 loopH_any rfl
            exact H152.pick' [0, 1, 2, 3, 4, 5, 6, 7, 8, 9, 10, 11, 12] rfl rfl
          · rintro Df2_1 lpf2_1 Wf2_1 HDf2_1
            refine bln ?_
            refine thn ?_
            refine wrD rfl ?_
            refine seq_ ?_
            refine seq_ ?_
            refine region_ ?_
            refine wl_valE (v := .pointer (some ⟨bd, 0, none⟩)) rfl (rf_load Try.underlying23 rfl rfl rfl ((HDf2_1.blk 4 rfl).cell rfl)) rfl ?_
            refine wl_tr HDf2_1 rfl [] (each_tr (0 : Int) (by omega)) rfl (.own 3 rfl Le.rfl .nil) (rf_call Try.call8 rfl rfl) rfl ?_
            rintro _ w153 _ ⟨tb3, ea3, ec3, ER3, hER3, rfl, rfl⟩ H153
            refine wl_nil ?_
            refine thn ?_
            refine wrD rfl ?_
            refine block_ ?_
            have hE3 := er_nil hER3 (.inr rfl)
            refine rangeO (Ds := Df2_1 :: Df0_1 :: []) H153 0 rfl rfl rfl rfl rfl rfl (by exact Try.call16) (each_it tb3 ea3 ec3 ER3 (by rw [hE3]; simp)) (fun _ _ => rfl) (fun Df3_1 lpf3_1 j qw_ => St w0 S0 [rdH encKey 2 a n c l0, rdH encKey 2 a2 n2 c2 l1] qw_ [mksH (Df3_1 :: Df2_1 :: Df0_1 :: []), blkH b3 #[.slice a2 n2 c2] 22, blkH bres #[.bool false] 4, dicH bd ((3 : Int).toNat) ([]) N2, blkH b5 #[.pointer (some ⟨bd, 0, none⟩)] 23, blkH b7 #[.slice wa m wc] 39, slH encKV 4 41 wa m wc l, blkH tb #[.slice ea ER.length ec] 52, slH encSlotI 4 50 ea ER.length ec ER, blkH b13 #[.func (.func 16) #[] #[.pointer (some ⟨tb, 0, none⟩)]] 34, blkH bn #[.int .i64 ((ER.length : Nat) : Int)] 3, anyH lpf0_1, anyH lpf2_1, blkH tb3 #[.slice ea3 ER3.length ec3] 52, slH encSlotI 4 50 ea3 ER3.length ec3 ER3, anyH lpf3_1]) (fun Df3_1 lpf3_1 qe_ qw_ => False) ?_ ?_ ?_ ?_ ?_ ?_ ?_
            · rintro Df3_1 lpf3_1 j WA WB HA hkA
              exact HA.anyKp 15 rfl rfl hkA
            · exact fun _ _ _ _ _ h _ => h
            · rintro Df3_1 lpf3_1 j Wf3_1 HRf3_1
              exact ⟨HRf3_1.blk 13 rfl, HRf3_1.rdO 14 slH_rd⟩
            · intro Df3_1 lpf3_1 Wf3_1 Hf3_1
              dsimp only [putsH, setH, List.cons_append, List.nil_append] at Hf3_1
              exact Hf3_1.pick' [0, 1, 2, 3, 4, 5, 6, 7, 8, 9, 10, 11, 12, 13, 14, 15] rfl rfl
            · rintro Df3_1 lpf3_1 j x9 Wf3_1 rbf3_1 hx9 HAf3_1 hrbf3_1 hrdf3_1
              rw [hE3] at hx9; simp at hx9
            · rintro Df3_1 lpf3_1 Wf3_1 HDf3_1
              refine bln ?_
              refine thn ?_
              refine wrD rfl ?_
              refine seq_ ?_
              refine seq_ ?_
              refine region_ ?_
              refine wl_valE (v := .pointer (some ⟨bd, 0, none⟩)) rfl (rf_load Try.underlying23 rfl rfl rfl ((HDf3_1.blk 4 rfl).cell rfl)) rfl ?_
              refine wl_tr HDf3_1 rfl [] (each_tr (1 : Int) (by omega)) rfl (.own 3 rfl Le.rfl .nil) (rf_call Try.call8 rfl rfl) rfl ?_
              rintro _ w154 _ ⟨tb4, ea4, ec4, ER4, hER4, rfl, rfl⟩ H154
              refine wl_nil ?_
              refine thn ?_
              refine wrD rfl ?_
              refine block_ ?_
              have hE4 := er_nil hER4 (.inl (by decide))
              refine rangeO (Ds := Df3_1 :: Df2_1 :: Df0_1 :: []) H154 0 rfl rfl rfl rfl rfl rfl (by exact Try.call16) (each_it tb4 ea4 ec4 ER4 (by rw [hE4]; simp)) (fun _ _ => rfl) (fun Df4_1 lpf4_1 j qw_ => St w0 S0 [rdH encKey 2 a n c l0, rdH encKey 2 a2 n2 c2 l1] qw_ [mksH (Df4_1 :: Df3_1 :: Df2_1 :: Df0_1 :: []), blkH b3 #[.slice a2 n2 c2] 22, blkH bres #[.bool false] 4, dicH bd ((3 : Int).toNat) ([]) N2, blkH b5 #[.pointer (some ⟨bd, 0, none⟩)] 23, blkH b7 #[.slice wa m wc] 39, slH encKV 4 41 wa m wc l, blkH tb #[.slice ea ER.length ec] 52, slH encSlotI 4 50 ea ER.length ec ER, blkH b13 #[.func (.func 16) #[] #[.pointer (some ⟨tb, 0, none⟩)]] 34, blkH bn #[.int .i64 ((ER.length : Nat) : Int)] 3, anyH lpf0_1, anyH lpf2_1, blkH tb3 #[.slice ea3 ER3.length ec3] 52, slH encSlotI 4 50 ea3 ER3.length ec3 ER3, anyH lpf3_1, blkH tb4 #[.slice ea4 ER4.length ec4] 52, slH encSlotI 4 50 ea4 ER4.length ec4 ER4, anyH lpf4_1]) (fun Df4_1 lpf4_1 qe_ qw_ => False) ?_ ?_ ?_ ?_ ?_ ?_ ?_
              · rintro Df4_1 lpf4_1 j WA WB HA hkA
                exact HA.anyKp 18 rfl rfl hkA
              · exact fun _ _ _ _ _ h _ => h
              · rintro Df4_1 lpf4_1 j Wf4_1 HRf4_1
                exact ⟨HRf4_1.blk 16 rfl, HRf4_1.rdO 17 slH_rd⟩
              · intro Df4_1 lpf4_1 Wf4_1 Hf4_1
                dsimp only [putsH, setH, List.cons_append, List.nil_append] at Hf4_1
                exact Hf4_1.pick' [0, 1, 2, 3, 4, 5, 6, 7, 8, 9, 10, 11, 12, 13, 14, 15, 16, 17, 18] rfl rfl
              · rintro Df4_1 lpf4_1 j x9 Wf4_1 rbf4_1 hx9 HAf4_1 hrbf4_1 hrdf4_1
                rw [hE4] at hx9; simp at hx9
              · rintro Df4_1 lpf4_1 Wf4_1 HDf4_1
                refine bln ?_
                refine thn ?_
                refine wrD rfl ?_
                refine seq_ ?_
                refine seq_ ?_
                refine region_ ?_
                refine wl_valE (v := .pointer (some ⟨bd, 0, none⟩)) rfl (rf_load Try.underlying23 rfl rfl rfl ((HDf4_1.blk 4 rfl).cell rfl)) rfl ?_
                refine wl_tr HDf4_1 rfl [] (each_tr (-1 : Int) (by omega)) rfl (.own 3 rfl Le.rfl .nil) (rf_call Try.call8 rfl rfl) rfl ?_
                rintro _ w155 _ ⟨tb5, ea5, ec5, ER5, hER5, rfl, rfl⟩ H155
                refine wl_nil ?_
                refine thn ?_
                refine wrD rfl ?_
                refine block_ ?_
                have hE5 := er_nil hER5 (.inl (by decide))
                refine rangeO (Ds := Df4_1 :: Df3_1 :: Df2_1 :: Df0_1 :: []) H155 0 rfl rfl rfl rfl rfl rfl (by exact Try.call16) (each_it tb5 ea5 ec5 ER5 (by rw [hE5]; simp)) (fun _ _ => rfl) (fun Df5_1 lpf5_1 j qw_ => St w0 S0 [rdH encKey 2 a n c l0, rdH encKey 2 a2 n2 c2 l1] qw_ [mksH (Df5_1 :: Df4_1 :: Df3_1 :: Df2_1 :: Df0_1 :: []), blkH b3 #[.slice a2 n2 c2] 22, blkH bres #[.bool false] 4, dicH bd ((3 : Int).toNat) ([]) N2, blkH b5 #[.pointer (some ⟨bd, 0, none⟩)] 23, blkH b7 #[.slice wa m wc] 39, slH encKV 4 41 wa m wc l, blkH tb #[.slice ea ER.length ec] 52, slH encSlotI 4 50 ea ER.length ec ER, blkH b13 #[.func (.func 16) #[] #[.pointer (some ⟨tb, 0, none⟩)]] 34, blkH bn #[.int .i64 ((ER.length : Nat) : Int)] 3, anyH lpf0_1, anyH lpf2_1, blkH tb3 #[.slice ea3 ER3.length ec3] 52, slH encSlotI 4 50 ea3 ER3.length ec3 ER3, anyH lpf3_1, blkH tb4 #[.slice ea4 ER4.length ec4] 52, slH encSlotI 4 50 ea4 ER4.length ec4 ER4, anyH lpf4_1, blkH tb5 #[.slice ea5 ER5.length ec5] 52, slH encSlotI 4 50 ea5 ER5.length ec5 ER5, anyH lpf5_1]) (fun Df5_1 lpf5_1 qe_ qw_ => False) ?_ ?_ ?_ ?_ ?_ ?_ ?_
                · rintro Df5_1 lpf5_1 j WA WB HA hkA
                  exact HA.anyKp 21 rfl rfl hkA
                · exact fun _ _ _ _ _ h _ => h
                · rintro Df5_1 lpf5_1 j Wf5_1 HRf5_1
                  exact ⟨HRf5_1.blk 19 rfl, HRf5_1.rdO 20 slH_rd⟩
                · intro Df5_1 lpf5_1 Wf5_1 Hf5_1
                  dsimp only [putsH, setH, List.cons_append, List.nil_append] at Hf5_1
                  exact Hf5_1.pick' [0, 1, 2, 3, 4, 5, 6, 7, 8, 9, 10, 11, 12, 13, 14, 15, 16, 17, 18, 19, 20, 21] rfl rfl
                · rintro Df5_1 lpf5_1 j x9 Wf5_1 rbf5_1 hx9 HAf5_1 hrbf5_1 hrdf5_1
                  rw [hE5] at hx9; simp at hx9
                · rintro Df5_1 lpf5_1 Wf5_1 HDf5_1
                  refine bln ?_
                  refine thn ?_
                  refine wrD rfl ?_
                  refine seq_ ?_
                  refine region_ ?_
                  refine wl_valE (v := .pointer (some ⟨bd, 0, none⟩)) rfl (rf_load Try.underlying23 rfl rfl rfl ((HDf5_1.blk 4 rfl).cell rfl)) rfl ?_
                  refine wl_valE (v := .agg #[.int .i64 (3 : Int), .int .i64 (0 : Int)]) rfl (rf_build (offs := [(0, [.int .i64 (3 : Int)])]) (places := #[(0, 1), (1, 1)]) Try.underlying28 ti28 (fun w => by kernel_rfl) (.cons rfl rfl rfl rfl rfl rfl .nil)) rfl ?_
                  refine wl_tr HDf5_1 rfl [3] (put_tr (⟨(3 : Int), (0 : Int)⟩ : Key) (4 : Int) (by omega)) rfl .nil (rf_call Try.call6 rfl rfl) rfl ?_
                  rintro _ w156 _ ⟨rfl, rfl⟩ H156
                  refine wl_nil ?_
                  refine thn ?_
                  refine wrD rfl ?_
                  refine seq_ ?_
                  refine seq_ ?_
                  refine region_ ?_
                  refine wl_valE (v := .pointer (some ⟨bd, 0, none⟩)) rfl (rf_load Try.underlying23 rfl rfl rfl ((H156.blk 4 rfl).cell rfl)) rfl ?_
                  refine wl_tr H156 rfl [] (each_tr (0 : Int) (by omega)) rfl (.own 3 rfl Le.rfl .nil) (rf_call Try.call8 rfl rfl) rfl ?_
                  rintro _ w157 _ ⟨tb9, ea9, ec9, ER9, hER9, rfl, rfl⟩ H157
                  refine wl_nil ?_
                  refine thn ?_
                  refine wrD rfl ?_
                  refine block_ ?_
                  have hE9 : ER9.map kvp = [((⟨(3 : Int), (0 : Int)⟩ : Key), (4 : Int))] := hER9.trans rfl
                  have hE9l : ER9.length = 1 := by have := congrArg List.length hE9; simpa using this
                  refine rangeO (Ds := Df5_1 :: Df4_1 :: Df3_1 :: Df2_1 :: Df0_1 :: []) H157 0 rfl rfl rfl rfl rfl rfl (by exact Try.call16) (each_it tb9 ea9 ec9 ER9 (by omega)) (fun _ _ => rfl) (fun Df6_1 lpf6_1 j qw_ => St w0 S0 [rdH encKey 2 a n c l0, rdH encKey 2 a2 n2 c2 l1] qw_ [mksH (Df6_1 :: Df5_1 :: Df4_1 :: Df3_1 :: Df2_1 :: Df0_1 :: []), blkH b3 #[.slice a2 n2 c2] 22, blkH bres #[.bool false] 4, dicH bd ((3 : Int).toNat) (putP ([]) (⟨(3 : Int), (0 : Int)⟩ : Key) (4 : Int)) (N2 + 1), blkH b5 #[.pointer (some ⟨bd, 0, none⟩)] 23, blkH b7 #[.slice wa m wc] 39, slH encKV 4 41 wa m wc l, blkH tb #[.slice ea ER.length ec] 52, slH encSlotI 4 50 ea ER.length ec ER, blkH b13 #[.func (.func 16) #[] #[.pointer (some ⟨tb, 0, none⟩)]] 34, blkH bn #[.int .i64 ((ER.length + j : Nat) : Int)] 3, anyH lpf0_1, anyH lpf2_1, blkH tb3 #[.slice ea3 ER3.length ec3] 52, slH encSlotI 4 50 ea3 ER3.length ec3 ER3, anyH lpf3_1, blkH tb4 #[.slice ea4 ER4.length ec4] 52, slH encSlotI 4 50 ea4 ER4.length ec4 ER4, anyH lpf4_1, blkH tb5 #[.slice ea5 ER5.length ec5] 52, slH encSlotI 4 50 ea5 ER5.length ec5 ER5, anyH lpf5_1, blkH tb9 #[.slice ea9 ER9.length ec9] 52, slH encSlotI 4 50 ea9 ER9.length ec9 ER9, anyH lpf6_1]) (fun Df6_1 lpf6_1 qe_ qw_ => False) ?_ ?_ ?_ ?_ ?_ ?_ ?_
                  · rintro Df6_1 lpf6_1 j WA WB HA hkA
                    exact HA.anyKp 24 rfl rfl hkA
                  · exact fun _ _ _ _ _ h _ => h
                  · rintro Df6_1 lpf6_1 j Wf6_1 HRf6_1
                    exact ⟨HRf6_1.blk 22 rfl, HRf6_1.rdO 23 slH_rd⟩
                  · intro Df6_1 lpf6_1 Wf6_1 Hf6_1
                    dsimp only [putsH, setH, List.cons_append, List.nil_append] at Hf6_1
                    exact Hf6_1.pick' [0, 1, 2, 3, 4, 5, 6, 7, 8, 9, 10, 11, 12, 13, 14, 15, 16, 17, 18, 19, 20, 21, 22, 23, 24] rfl rfl
                  · rintro Df6_1 lpf6_1 j x9 Wf6_1 rbf6_1 hx9 HAf6_1 hrbf6_1 hrdf6_1
                    have HRf6_1 := HAf6_1.anyLoop 24 rfl rfl hrbf6_1 hrdf6_1
                    dsimp only [setH] at HRf6_1
                    have hj9 := (List.getElem?_eq_some_iff.1 hx9).1
                    obtain rfl : j = 0 := by omega
                    have hk9 := one_kvp hE9 hx9
                    have hk91 : x9.key = (⟨(3 : Int), (0 : Int)⟩ : Key) := congrArg Prod.fst hk9
                    have hk92 : x9.val = 4 := congrArg Prod.snd hk9
                    refine seq_ ?_
                    refine region_ ?_
                    refine wl_allocH HRf6_1 ti28 ?_
                    intro bk4 w159 H159
                    refine wl_storeAggH H159 25 (o := 0) (cs := [.int .i64 x9.key.table, .int .i64 x9.key.row]) (A' := #[.int .i64 x9.key.table, .int .i64 x9.key.row]) rfl rfl ti28 rfl rfl rfl rfl rfl oneAll (leb rfl) rfl ?_
                    intro w160 H160
                    refine wl_nil ?_
                    refine thn ?_
                    refine wrD rfl ?_
                    refine region_ ?_
                    refine wl_valE (v := .int .i64 x9.val) rfl (rf_assign rfl) rfl ?_
                    refine wl_nil ?_
                    refine apn ⟨(H160.loopBlk 24 rfl).1, fun W2f6_1 rb2f6_1 hk2f6_1 hb2f6_1 hd2f6_1 => ?_⟩
                    have H2f6_1 := H160.loopTurn 24 rfl rfl hk2f6_1 hb2f6_1 hd2f6_1
                    dsimp only [setH, putsH, List.cons_append, List.nil_append] at H2f6_1
                    refine block_ ?_
                    refine seq_ ?_
                    refine seq_ ?_
                    refine region_ ?_
                    refine wl_valE (v := .agg #[.int .i64 x9.key.table, .int .i64 x9.key.row]) rfl (rf_loadBlk Try.underlying28 rfl ti28 rfl rfl (H2f6_1.blk 25 rfl) (leb rfl)) rfl ?_
                    refine wl_valE (v := .agg #[.int .i64 (3 : Int), .int .i64 (0 : Int)]) rfl (rf_build (offs := [(0, [.int .i64 (3 : Int)])]) (places := #[(0, 1), (1, 1)]) Try.underlying28 ti28 (fun w => by kernel_rfl) (.cons rfl rfl rfl rfl rfl rfl .nil)) rfl ?_
                    refine wl_valE (v := .bool (!decide (x9.key = (⟨(3 : Int), (0 : Int)⟩ : Key)))) rfl (rf_neqS (by kernel_rfl) (eqKey x9.key (⟨(3 : Int), (0 : Int)⟩ : Key) _) rfl rfl rfl rfl) rfl ?_
                    refine wl_valE (v := .bool (!decide (x9.key = (⟨(3 : Int), (0 : Int)⟩ : Key)))) rfl (rf_move rfl) rfl ?_
                    refine wl_guardT rfl rfl rfl (by simp [hk91]) ?_
                    refine wl_valE (v := .int .i64 x9.val) rfl (rf_move rfl) rfl ?_
                    refine wl_guardT rfl rfl rfl (by simp [hk91]) ?_
                    refine wl_valE (v := .bool (decide (x9.val ≠ (4 : Int)))) rfl (rf_neq rfl rfl rfl rfl) rfl ?_
                    refine wl_valE (v := .bool (decide (x9.val ≠ (4 : Int)))) rfl (rf_pickF rfl rfl rfl (by simp [hk91])) rfl ?_
                    refine wl_nil ?_
                    refine thn ?_
                    refine wrD rfl ?_
                    refine condF' rfl rfl (t := decide (x9.val ≠ (4 : Int))) ((by simp [hk92])) ?_
                    refine skip_ ?_
                    refine thn ?_
                    refine wrD rfl ?_
                    refine region_ ?_
                    refine wl_valE (v := .int .i64 ((ER.length + 0 : Nat) : Int)) rfl (rf_load Try.underlying3 rfl rfl rfl ((H2f6_1.blk 10 rfl).cell rfl)) rfl ?_
                    refine wl_valE (v := .int .i64 ((ER.length + 0 + 1 : Nat) : Int)) rfl (rf_add rfl rfl rfl rfl (IntWalk.i64_in _ (by omega))) rfl ?_
                    refine wl_storeH H2f6_1 10 (v := .int .i64 ((ER.length + 0 + 1 : Nat) : Int)) (A' := #[.int .i64 ((ER.length + 0 + 1 : Nat) : Int)]) rfl rfl ti3 rfl rfl rfl rfl rfl (ltb rfl) rfl ?_
                    intro w161 H161
                    refine wl_nil ?_
                    refine bln ?_
                    refine rb_n H161 24 rfl ?_
                    have H162 := H161.le 24 loopH_any rfl
                    exact H162.pick' [0, 1, 2, 3, 4, 5, 6, 7, 8, 9, 10, 11, 12, 13, 14, 15, 16, 17, 18, 19, 20, 21, 22, 23, 24] rfl rfl
                  · rintro Df6_1 lpf6_1 Wf6_1 HDf6_1
                    refine bln ?_
                    refine thn ?_
                    refine wrD rfl ?_
                    refine seq_ ?_
                    refine region_ ?_
                    refine wl_valE (v := .int .i64 ((ER.length + ER9.length : Nat) : Int)) rfl (rf_load Try.underlying3 rfl rfl rfl ((HDf6_1.blk 10 rfl).cell rfl)) rfl ?_
                    refine wl_valE (v := .slice wa m wc) rfl (rf_load Try.underlying39 rfl rfl rfl ((HDf6_1.blk 5 rfl).cell rfl)) rfl ?_
                    refine wl_valE (v := .int .i64 ((m : Nat) : Int)) rfl (rf_len_slice Try.underlying39 rfl rfl) rfl ?_
                    refine wl_valE (v := .int .i64 ((m + 1 : Nat) : Int)) rfl (rf_add rfl rfl rfl rfl (IntWalk.i64_in _ (by omega))) rfl ?_
                    refine wl_valE (v := .bool (decide (((ER.length + ER9.length : Nat) : Int) = ((m + 1 : Nat) : Int)))) rfl (rf_eql rfl rfl rfl rfl) rfl ?_
                    refine wl_storeH HDf6_1 2 (v := .bool (decide (((ER.length + ER9.length : Nat) : Int) = ((m + 1 : Nat) : Int)))) (A' := #[.bool (decide (((ER.length + ER9.length : Nat) : Int) = ((m + 1 : Nat) : Int)))]) rfl rfl ti4 rfl rfl rfl rfl rfl (ltb rfl) rfl ?_
                    intro w163 H163
                    refine wl_nil ?_
                    refine thn ?_
                    refine wrD rfl ?_
                    refine ret_ ?_
                    refine finM (Ds := Df6_1 :: Df5_1 :: Df4_1 :: Df3_1 :: Df2_1 :: Df0_1 :: []) H163 0 rfl rfl rfl (fun w164 H164 => ?_)
                    refine finV1 Try.results4 (.cell rfl Try.underlying4 rfl rfl ((H164.blk 2 rfl).cell rfl)) ?_
                    exact ⟨_, congrArg Value.bool (by simp; omega), H164.pick' [] rfl rfl⟩
                  · exact fun _ _ _ _ h _ => h.elim
                · exact fun _ _ _ _ h _ => h.elim
              · exact fun _ _ _ _ h _ => h.elim
            · exact fun _ _ _ _ h _ => h.elim
          · exact fun _ _ _ _ h _ => h.elim
        · exact fun _ _ _ _ h _ => h.elim
end Go.Proofs.Ytlpigppmbnaabaa.W
