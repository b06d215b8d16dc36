import Derived.Test.YtlpigppmbnaabaaH2
import Derived.KernelRfl
namespace Go.Proofs.Ytlpigppmbnaabaa.W
open Go Go.Wk
set_option linter.unusedVariables false
set_option linter.unusedSimpArgs false
set_option maxHeartbeats 2000000 in
theorem stops_tr (a : Option Addr) (n c : Nat) (l0 : List Key) (most : Int) (hn : n ≤ 1048576) : Tr Try.prog 3 [.slice a n c, .int .i64 most] [rdH encKey 2 a n c l0] [] (fun v m => v = .bool true) := by
  intro w0 S0 H0
  have HM := H0.addMks
  dsimp only [List.cons_append, List.nil_append] at HM
  refine enterM Try.func3 rfl Try.ntmps3 rfl ?_
  intro g0
  refine seq_ ?_
  refine region_ ?_
  refine wl_allocH HM ti4 ?_
  intro bres w2 H2
  refine wl_nil ?_
  refine thn ?_
  refine wrD rfl ?_
  refine seq_ ?_
  refine region_ ?_
  refine wl_tr H2 rfl [] (newd_tr (1 : Int) (by decide)) rfl .nil (rf_call Try.call5 rfl rfl) rfl ?_
  rintro _ w3 _ ⟨bd, rfl, rfl⟩ H3
  refine wl_valE (v := .tuple #[.pointer (some ⟨bd, 0, none⟩), .int .i64 0]) rfl (rf_move rfl) rfl ?_
  refine wl_valE (v := .pointer (some ⟨bd, 0, none⟩)) rfl (rf_extract rfl rfl rfl) rfl ?_
  refine wl_valE (v := .int .i64 0) rfl (rf_extract rfl rfl rfl) rfl ?_
  refine wl_allocH H3 ti23 ?_
  intro b5 w5 H5
  refine wl_storeH H5 3 (v := .pointer (some ⟨bd, 0, none⟩)) (A' := #[.pointer (some ⟨bd, 0, none⟩)]) rfl rfl ti23 rfl rfl rfl rfl rfl (ltb rfl) rfl ?_
  intro w6 H6
  dsimp only [putsH, setH, List.cons_append, List.nil_append] at H6
  refine wl_valE (v := .int .i64 0) rfl (rf_assign rfl) rfl ?_
  refine wl_nil ?_
  refine thn ?_
  refine wrD rfl ?_
  refine seq_ ?_
  refine seq_ ?_
  refine region_ ?_
  refine wl_valE (v := .int .i64 0) rfl (rf_move rfl) rfl ?_
  refine wl_valE (v := .bool false) rfl (rf_neq rfl rfl rfl rfl) (congrArg Value.bool (by decide)) ?_
  refine wl_valE (v := .bool false) rfl (rf_move rfl) rfl ?_
  refine wl_guardT rfl rfl rfl rfl ?_
  refine wl_valE (v := .pointer (some ⟨bd, 0, none⟩)) rfl (rf_load Try.underlying23 rfl rfl rfl ((H6.blk 3 rfl).cell rfl)) rfl ?_
  refine wl_guardT rfl rfl rfl rfl ?_
  refine wl_valE (v := .bool false) rfl (rf_eqlPN Try.underlying23 rfl rfl rfl rfl) rfl ?_
  refine wl_valE (v := .bool false) rfl (rf_pickF rfl rfl rfl rfl) rfl ?_
  refine wl_nil ?_
  refine thn ?_
  refine wrD rfl ?_
  refine condF rfl rfl ?_
  refine skip_ ?_
  refine thn ?_
  refine wrD rfl ?_
  refine seq_ ?_
  refine seq_ ?_
  refine region_ ?_
  refine wl_valE (v := .int .i64 (0 : Int)) rfl (rf_assign rfl) rfl ?_
  refine wl_nil ?_
  refine thn ?_
  refine wrD rfl ?_
  refine block_ ?_
  refine loop_ (fun qk_ qf_ qw_ => ∃ (g : Nat → Value) (i : Nat) (l : List (Key × Int)), qf_ = upds g [(0, .slice a n c), (1, .int .i64 most), (4, .pointer (some ⟨bres, 0, none⟩)), (5, .pointer (some ⟨b5, 0, none⟩)), (7, .int .i64 ((i : Nat) : Int))] ∧ qk_ = n - i ∧ (i ≤ n ∧ (0 < i → 0 < l.length)) ∧ St w0 S0 [rdH encKey 2 a n c l0] qw_ [mksH [], blkH bres #[.bool false] 4, dicH bd ((1 : Int).toNat) l i, blkH b5 #[.pointer (some ⟨bd, 0, none⟩)] 23]) (n - 0) ?_ ?_
  · refine ⟨_, 0, [], upds_self ⟨rfl, rfl, rfl, rfl, rfl, trivial⟩, rfl, ⟨Nat.zero_le _, fun h => by omega⟩, H6.pick' [0, 1, 2, 3] rfl rfl⟩
  · rintro lk0 _ wl0 ⟨gl0, i, l, rfl, hlk0, ⟨hi, hil⟩, HL0⟩
    refine seq_ ?_
    refine seq_ ?_
    refine region_ ?_
    refine wl_valE (v := .int .i64 ((i : Nat) : Int)) rfl (rf_move rfl) rfl ?_
    refine wl_valE (v := .slice a n c) rfl (rf_move rfl) rfl ?_
    refine wl_valE (v := .int .i64 ((n : Nat) : Int)) rfl (rf_len_slice Try.underlying22 rfl rfl) rfl ?_
    refine wl_valE (v := .bool (decide (((i : Nat) : Int) < ((n : Nat) : Int)))) rfl (rf_lss rfl rfl rfl rfl) rfl ?_
    refine wl_nil ?_
    refine thn ?_
    refine wrD rfl ?_
    refine cond_ (t := decide (((i : Nat) : Int) < ((n : Nat) : Int))) rfl rfl (fun c30 => ?_) (fun c30 => ?_)
    · have c30p := of_decide_eq_true c30
      refine skip_ ?_
      refine thn ?_
      refine wrD rfl ?_
      refine seq_ ?_
      refine block_ ?_
      refine region_h (S := (fun wq => St w0 S0 [rdH encKey 2 a n c l0] wq [blkH b5 #[.pointer (some ⟨bd, 0, none⟩)] 23])) mixedP ?_
      intro w7 hk7
      have H7 := HL0.keep hk7
      have hS7 : St w0 S0 [rdH encKey 2 a n c l0] w7 [blkH b5 #[.pointer (some ⟨bd, 0, none⟩)] 23] := H7.pick' [3] rfl rfl
      refine wh_take (i := 0) (v := .pointer (some ⟨bd, 0, none⟩)) rfl (by kernel_rfl) (by kernel_rfl) (by kernel_rfl) hS7 rfl (fun wq hq => rf_load Try.underlying23 rfl rfl rfl ((hq.blk 0 rfl).cell rfl)) rfl ?_
      refine wh_take (i := 1) (v := .slice a n c) rfl (by kernel_rfl) (by kernel_rfl) (by kernel_rfl) hS7 rfl (fun wq hq => rf_move rfl) rfl ?_
      refine wh_take (i := 2) (v := .int .i64 ((i : Nat) : Int)) rfl (by kernel_rfl) (by kernel_rfl) (by kernel_rfl) hS7 rfl (fun wq hq => rf_move rfl) rfl ?_
      refine wh_take (i := 3) (v := .pointer (some ⟨ab a, ao a + i * 2, none⟩)) rfl (by kernel_rfl) (by kernel_rfl) (by kernel_rfl) hS7 rfl (fun wq hq => rf_indexAddrH Try.underlying22 ti28 rfl rfl rfl rfl (by omega) (by omega) (hq.rdR 0 Le.rfl)) rfl ?_
      have hn9 := rd_len (H7.rdR 0 Le.rfl)
      obtain ⟨x8, hx8⟩ : ∃ q_, l0[i]? = some q_ := ⟨_, List.getElem?_eq_getElem (by omega)⟩
      refine wh_take (i := 4) (v := .agg #[.int .i64 x8.table, .int .i64 x8.row]) rfl (by kernel_rfl) (by kernel_rfl) (by kernel_rfl) hS7 rfl (fun wq hq => rf_loadAgg (cs := [.int .i64 x8.table, .int .i64 x8.row]) Try.underlying28 rfl ti28 rfl rfl (el_sub' (rd_el (hq.rdR 0 Le.rfl) hx8) 0 2 rfl) rfl) rfl ?_
      refine wh_take (i := 5) (v := .int .i64 ((i : Nat) : Int)) rfl (by kernel_rfl) (by kernel_rfl) (by kernel_rfl) hS7 rfl (fun wq hq => rf_move rfl) rfl ?_
      refine wh_one (i := 6) (by kernel_rfl) rfl ?_
      refine wl_tr H7 rfl [2] (put_tr x8 ((i : Nat) : Int) (by omega)) rfl .nil (rf_call Try.call6 rfl rfl) rfl ?_
      rintro _ w10 _ ⟨rfl, rfl⟩ H10
      refine wl_nil ?_
      have hS11 : St w0 S0 [rdH encKey 2 a n c l0] w10 [blkH b5 #[.pointer (some ⟨bd, 0, none⟩)] 23] := H10.pick' [3] rfl rfl
      refine wh_back hS11 ?_
      refine wh_done (by kernel_rfl) ?_
      refine bln ?_
      refine thn ?_
      refine wrD rfl ?_
      refine region_ ?_
      refine wl_valE (v := .int .i64 ((i : Nat) : Int)) rfl (rf_move rfl) rfl ?_
      refine wl_valE (v := .int .i64 ((i + 1 : Nat) : Int)) rfl (rf_add rfl rfl rfl rfl (IntWalk.i64_in _ (by omega))) rfl ?_
      refine wl_valE (v := .int .i64 ((i + 1 : Nat) : Int)) rfl (rf_assign rfl) rfl ?_
      refine wl_nil ?_
      refine thn ?_
      refine ⟨n - (i + 1), _, rfl, (by omega), _, i + 1, (putP l x8 ((i : Nat) : Int)), upds_self ⟨rfl, rfl, rfl, rfl, rfl, trivial⟩, rfl, ⟨by omega, fun _ => (putP_len _ _ _).2⟩, H10.pick' [0, 1, 2, 3] rfl rfl⟩
    · have c30p := of_decide_eq_false c30
      refine exit_ ?_
      refine thx (thx (blx ?_))
      refine thn ?_
      refine wrD rfl ?_
      refine seq_ ?_
      obtain rfl : n = i := by omega
      obtain ⟨hnd, hlN⟩ := dic_nodup HL0 2 rfl
      refine region_ ?_
      refine wl_valE (v := .pointer (some ⟨bd, 0, none⟩)) rfl (rf_load Try.underlying23 rfl rfl rfl ((HL0.blk 3 rfl).cell rfl)) rfl ?_
      refine wl_tr HL0 rfl [] (keys_tr (0 : Int) (by omega)) rfl (.own 2 rfl Le.rfl .nil) (rf_call Try.call7 rfl rfl) rfl ?_
      rintro _ w12 _ ⟨ka, kc, ks, hks, rfl, rfl⟩ H12
      refine wl_allocH H12 ti22 ?_
      intro b8 w14 H14
      refine wl_storeH H14 5 (v := .slice ka ks.length kc) (A' := #[.slice ka ks.length kc]) rfl rfl ti22 rfl rfl rfl rfl rfl (ltb rfl) rfl ?_
      intro w15 H15
      refine wl_nil ?_
      refine thn ?_
      refine wrD rfl ?_
      refine seq_ ?_
      obtain ⟨s, hs, hs1⟩ : ∃ s : Nat, (IntKind.u64.wrap most).tmod 8 = ((s : Nat) : Int) ∧ s < 8 := ⟨((IntKind.u64.wrap most).tmod 8).toNat, by have h1 := u64_nn most; rw [Int.tmod_eq_emod_of_nonneg h1.1]; omega, by have h1 := u64_nn most; rw [Int.tmod_eq_emod_of_nonneg h1.1]; omega⟩
      refine region_ ?_
      refine wl_valE (v := .int .i64 most) rfl (rf_move rfl) rfl ?_
      refine wl_valE (v := .int .u64 (IntKind.u64.wrap most)) rfl (rf_conv Try.underlying3 Try.underlying32 rfl rfl rfl) rfl ?_
      refine wl_valE (v := .int .u64 ((s : Nat) : Int)) rfl (rf_rem rfl rfl rfl rfl (by decide) rfl) (congrArg (Value.int .u64) hs) ?_
      refine wl_valE (v := .int .i64 ((s : Nat) : Int)) rfl (rf_conv Try.underlying32 Try.underlying3 rfl rfl (IntWalk.i64_in _ (by omega))) rfl ?_
      refine wl_valE (v := .int .i64 ((1 + s : Nat) : Int)) rfl (rf_add rfl rfl rfl rfl (IntWalk.i64_in _ (by omega))) rfl ?_
      refine wl_allocH H15 ti3 ?_
      intro b9 w17 H17
      dsimp only [putsH, setH, List.cons_append, List.nil_append] at H17
      refine wl_storeH H17 6 (v := .int .i64 ((1 + s : Nat) : Int)) (A' := #[.int .i64 ((1 + s : Nat) : Int)]) rfl rfl ti3 rfl rfl rfl rfl rfl (ltb rfl) rfl ?_
      intro w18 H18
      refine wl_nil ?_
      refine thn ?_
      refine wrD rfl ?_
      refine seq_ ?_
      refine region_ ?_
      refine wl_valE (v := .pointer (some ⟨bd, 0, none⟩)) rfl (rf_load Try.underlying23 rfl rfl rfl ((H18.blk 3 rfl).cell rfl)) rfl ?_
      refine wl_tr H18 rfl [] (each_tr (0 : Int) (by omega)) rfl (.own 2 rfl Le.rfl .nil) (rf_call Try.call8 rfl rfl) rfl ?_
      rintro _ w19 _ ⟨tb, ea, ec, ER, hER, rfl, rfl⟩ H19
      refine wl_valE (v := .func (.func 16) #[] #[.pointer (some ⟨tb, 0, none⟩)]) rfl (rf_assign rfl) rfl ?_
      refine wl_nil ?_
      refine thn ?_
      refine wrD rfl ?_
      refine seq_ ?_
      refine seq_ ?_
      have hER2 : ER.map kvp = l := hER.trans (if_pos rfl)
      have hks2 : ks = l.map (·.1) := hks.trans (by unfold allP; rw [if_pos rfl])
      have hEl : ER.length = l.length := by rw [← hER2, List.length_map]
      have hkl : ks.length = l.length := by rw [hks2, List.length_map]
      refine region_ ?_
      refine wl_allocH H19 ti3 ?_
      intro b11 w21 H21
      refine wl_storeH H21 9 (v := .int .i64 (0 : Int)) (A' := #[.int .i64 (0 : Int)]) rfl rfl ti3 rfl rfl rfl rfl rfl (ltb rfl) rfl ?_
      intro w22 H22
      dsimp only [putsH, setH, List.cons_append, List.nil_append] at H22
      refine wl_nil ?_
      refine thn ?_
      refine wrD rfl ?_
      refine block_ ?_
      refine loopD_ (fun qk_ qd_ qf_ qw_ => ∃ (g : Nat → Value) (q : Nat) (br : Nat), qf_ = upds g [(0, .slice a n c), (4, .pointer (some ⟨bres, 0, none⟩)), (5, .pointer (some ⟨b5, 0, none⟩)), (8, .pointer (some ⟨b8, 0, none⟩)), (9, .pointer (some ⟨b9, 0, none⟩)), (10, .func (.func 16) #[] #[.pointer (some ⟨tb, 0, none⟩)]), (11, .pointer (some ⟨br, 0, none⟩))] ∧ qk_ = 3 - q ∧ (q ≤ 3) ∧ St w0 S0 [rdH encKey 2 a n c l0] qw_ [mksH qd_, blkH bres #[.bool false] 4, dicH bd ((1 : Int).toNat) l n, blkH b5 #[.pointer (some ⟨bd, 0, none⟩)] 23, slH encKey 2 28 ka ks.length kc ks, blkH b8 #[.slice ka ks.length kc] 22, blkH b9 #[.int .i64 ((1 + s : Nat) : Int)] 3, blkH tb #[.slice ea ER.length ec] 52, slH encSlotI 4 50 ea ER.length ec ER, blkH br #[.int .i64 ((q : Nat) : Int)] 3]) (3 - 0) ([]) rfl ?_ ?_
      · refine ⟨_, 0, b11, upds_self ⟨rfl, rfl, rfl, rfl, rfl, rfl, rfl, trivial⟩, rfl, by omega, H22.pick' [0, 1, 2, 3, 4, 5, 6, 7, 8, 9] rfl rfl⟩
      · rintro lk1 Dq1 _ wl1 ⟨gl1, q, br, rfl, hlk1, hq, HL1⟩
        refine seq_ ?_
        refine seq_ ?_
        refine region_ ?_
        refine wl_valE (v := .int .i64 ((q : Nat) : Int)) rfl (rf_load Try.underlying3 rfl rfl rfl ((HL1.blk 9 rfl).cell rfl)) rfl ?_
        refine wl_valE (v := .bool (decide (((q : Nat) : Int) < (3 : Int)))) rfl (rf_lss rfl rfl rfl rfl) rfl ?_
        refine wl_nil ?_
        refine thn ?_
        refine wrD rfl ?_
        refine cond_ (t := decide (((q : Nat) : Int) < (3 : Int))) rfl rfl (fun c50 => ?_) (fun c50 => ?_)
        · have c50p := of_decide_eq_true c50
          refine skip_ ?_
          refine thn ?_
          refine wrD rfl ?_
          refine seq_ ?_
          refine block_ ?_
          refine seq_ ?_
          refine region_ ?_
          refine wl_allocH HL1 ti3 ?_
          intro bc w24 H24
          refine wl_storeH H24 10 (v := .int .i64 (0 : Int)) (A' := #[.int .i64 (0 : Int)]) rfl rfl ti3 rfl rfl rfl rfl rfl (ltb rfl) rfl ?_
          intro w25 H25
          refine wl_nil ?_
          refine thn ?_
          refine wrD rfl ?_
          refine seq_ ?_
          refine seq_ ?_
          refine region_ ?_
          refine wl_valE (v := .func (.func 16) #[] #[.pointer (some ⟨tb, 0, none⟩)]) rfl (rf_move rfl) rfl ?_
          refine wl_nil ?_
          refine thn ?_
          refine wrD rfl ?_
          refine block_ ?_
          refine rangeO (Ds := Dq1) H25 0 rfl rfl rfl rfl rfl rfl (by exact Try.call16) (each_it tb ea ec ER (by omega)) (fun _ _ => rfl) (fun Df0 lpf0 j qw_ => St w0 S0 [rdH encKey 2 a n c l0] qw_ [mksH (Df0 :: Dq1), blkH bres #[.bool false] 4, dicH bd ((1 : Int).toNat) l n, blkH b5 #[.pointer (some ⟨bd, 0, none⟩)] 23, slH encKey 2 28 ka ks.length kc ks, blkH b8 #[.slice ka ks.length kc] 22, blkH b9 #[.int .i64 ((1 + s : Nat) : Int)] 3, blkH tb #[.slice ea ER.length ec] 52, slH encSlotI 4 50 ea ER.length ec ER, blkH br #[.int .i64 ((q : Nat) : Int)] 3, blkH bc #[.int .i64 ((j : Nat) : Int)] 3, anyH lpf0]) (fun Df0 lpf0 qe_ qw_ => (qe_ = .exit 4 ∧ ∃ (nn : Nat), (((nn : Nat) : Int) = 1 + ((s : Nat) : Int) ∧ q < 2) ∧ St w0 S0 [rdH encKey 2 a n c l0] qw_ [mksH (Df0 :: Dq1), blkH bres #[.bool false] 4, dicH bd ((1 : Int).toNat) l n, blkH b5 #[.pointer (some ⟨bd, 0, none⟩)] 23, slH encKey 2 28 ka ks.length kc ks, blkH b8 #[.slice ka ks.length kc] 22, blkH b9 #[.int .i64 ((1 + s : Nat) : Int)] 3, blkH tb #[.slice ea ER.length ec] 52, slH encSlotI 4 50 ea ER.length ec ER, blkH br #[.int .i64 ((q : Nat) : Int)] 3, blkH bc #[.int .i64 ((nn : Nat) : Int)] 3, anyH lpf0])) ?_ ?_ ?_ ?_ ?_ ?_ ?_
          · rintro Df0 lpf0 j WA WB HA hkA
            exact HA.anyKp 11 rfl rfl hkA
          · rintro Df0 lpf0 e WA WB (⟨rfl, nn, hz0, HA⟩) hkA
            · exact ⟨rfl, nn, hz0, HA.anyKp 11 rfl rfl hkA⟩
          · rintro Df0 lpf0 j Wf0 HRf0
            exact ⟨HRf0.blk 7 rfl, HRf0.rdO 8 slH_rd⟩
          · intro Df0 lpf0 Wf0 Hf0
            dsimp only [putsH, setH, List.cons_append, List.nil_append] at Hf0
            exact Hf0.pick' [0, 1, 2, 3, 4, 5, 6, 7, 8, 9, 10, 11] rfl rfl
          · rintro Df0 lpf0 j xr Wf0 rbf0 hxr HAf0 hrbf0 hrdf0
            have HRf0 := HAf0.anyLoop 11 rfl rfl hrbf0 hrdf0
            dsimp only [setH] at HRf0
            have hjl := (List.getElem?_eq_some_iff.1 hxr).1
            have hlj : l[j]? = some (xr.key, xr.val) := by rw [← hER2, List.getElem?_map, hxr]; rfl
            have hgx := get_mem hnd hlj
            have hkj : ks[j]? = some xr.key := by rw [hks2, List.getElem?_map, hlj]; rfl
            refine seq_ ?_
            refine region_ ?_
            refine wl_allocH HRf0 ti28 ?_
            intro bk w27 H27
            refine wl_storeAggH H27 12 (o := 0) (cs := [.int .i64 xr.key.table, .int .i64 xr.key.row]) (A' := #[.int .i64 xr.key.table, .int .i64 xr.key.row]) rfl rfl ti28 rfl rfl rfl rfl rfl oneAll (leb rfl) rfl ?_
            intro w28 H28
            refine wl_nil ?_
            refine thn ?_
            refine wrD rfl ?_
            refine region_ ?_
            refine wl_valE (v := .int .i64 xr.val) rfl (rf_assign rfl) rfl ?_
            refine wl_nil ?_
            refine apn ⟨(H28.loopBlk 11 rfl).1, fun W2f0 rb2f0 hk2f0 hb2f0 hd2f0 => ?_⟩
            have H2f0 := H28.loopTurn 11 rfl rfl hk2f0 hb2f0 hd2f0
            dsimp only [setH, putsH, List.cons_append, List.nil_append] at H2f0
            refine block_ ?_
            refine seq_ ?_
            refine region_ ?_
            refine wl_valE (v := .pointer (some ⟨bd, 0, none⟩)) rfl (rf_load Try.underlying23 rfl rfl rfl ((H2f0.blk 3 rfl).cell rfl)) rfl ?_
            refine wl_valE (v := .agg #[.int .i64 xr.key.table, .int .i64 xr.key.row]) rfl (rf_loadBlk Try.underlying28 rfl ti28 rfl rfl (H2f0.blk 12 rfl) (leb rfl)) rfl ?_
            refine wl_tr H2f0 rfl [] (get_tr xr.key) rfl (.own 2 rfl Le.rfl .nil) (rf_call Try.call9 rfl rfl) rfl ?_
            rintro _ w29 _ ⟨rfl, rfl⟩ H29
            rw [show resP l xr.key = .tuple #[.int .i64 xr.val, .bool true] from by unfold resP; rw [hgx]; rfl]
            refine wl_valE (v := .tuple #[.int .i64 xr.val, .bool true]) rfl (rf_move rfl) rfl ?_
            refine wl_valE (v := .int .i64 xr.val) rfl (rf_extract rfl rfl rfl) rfl ?_
            refine wl_valE (v := .bool true) rfl (rf_extract rfl rfl rfl) rfl ?_
            refine wl_valE (v := .int .i64 xr.val) rfl (rf_assign rfl) rfl ?_
            refine wl_valE (v := .bool true) rfl (rf_assign rfl) rfl ?_
            refine wl_nil ?_
            refine thn ?_
            refine wrD rfl ?_
            refine seq_ ?_
            refine seq_ ?_
            refine region_q mixedP (by kernel_rfl) ?_
            refine qt_valE (v := .int .i64 ((j : Nat) : Int)) rfl (fun wq hq => rf_load Try.underlying3 rfl rfl rfl (((H29.keep hq).blk 10 rfl).cell rfl)) rfl ?_
            refine qt_valE (v := .slice ka ks.length kc) rfl (fun wq hq => rf_load Try.underlying22 rfl rfl rfl (((H29.keep hq).blk 5 rfl).cell rfl)) rfl ?_
            refine qt_valE (v := .int .i64 ((ks.length : Nat) : Int)) rfl (fun wq hq => rf_len_slice Try.underlying22 rfl rfl) rfl ?_
            refine qt_valE (v := .bool (decide (((ks.length : Nat) : Int) ≤ ((j : Nat) : Int)))) rfl (fun wq hq => rf_geq rfl rfl rfl rfl) rfl ?_
            refine qt_valE (v := .bool (decide (((ks.length : Nat) : Int) ≤ ((j : Nat) : Int)))) rfl (fun wq hq => rf_move rfl) rfl ?_
            refine qt_guardT rfl rfl rfl (by simp; omega) ?_
            refine qt_valE (v := .agg #[.int .i64 xr.key.table, .int .i64 xr.key.row]) rfl (fun wq hq => rf_loadBlk Try.underlying28 rfl ti28 rfl rfl ((H29.keep hq).blk 12 rfl) (leb rfl)) rfl ?_
            refine qt_guardT rfl rfl rfl (by simp; omega) ?_
            refine qt_valE (v := .slice ka ks.length kc) rfl (fun wq hq => rf_load Try.underlying22 rfl rfl rfl (((H29.keep hq).blk 5 rfl).cell rfl)) rfl ?_
            refine qt_guardT rfl rfl rfl (by simp; omega) ?_
            refine qt_valE (v := .int .i64 ((j : Nat) : Int)) rfl (fun wq hq => rf_load Try.underlying3 rfl rfl rfl (((H29.keep hq).blk 10 rfl).cell rfl)) rfl ?_
            refine qt_guardT rfl rfl rfl (by simp; omega) ?_
            refine qt_valE (v := .pointer (some ⟨ab ka, ao ka + j * 2, none⟩)) rfl (fun wq hq => rf_indexAddrH Try.underlying22 ti28 rfl rfl rfl rfl (by omega) (by omega) ((H29.keep hq).rdO 4 slH_rd)) rfl ?_
            refine qt_guardT rfl rfl rfl (by simp; omega) ?_
            refine qt_valE (v := .agg #[.int .i64 xr.key.table, .int .i64 xr.key.row]) rfl (fun wq hq => rf_loadAgg (cs := [.int .i64 xr.key.table, .int .i64 xr.key.row]) Try.underlying28 rfl ti28 rfl rfl (el_sub' (rd_el ((H29.keep hq).rdO 4 slH_rd) hkj) 0 2 rfl) rfl) rfl ?_
            refine qt_guardT rfl rfl rfl (by simp; omega) ?_
            refine qt_valE (v := .bool (!decide (xr.key = xr.key))) rfl (fun wq hq => rf_neqS (by kernel_rfl) (eqKey xr.key xr.key _) rfl rfl rfl rfl) rfl ?_
            refine qt_valE (v := .bool (!decide (xr.key = xr.key))) rfl (fun wq hq => rf_pickF rfl rfl rfl (by simp; omega)) rfl ?_
            refine qt_valE (v := .bool (!decide (xr.key = xr.key))) rfl (fun wq hq => rf_move rfl) rfl ?_
            refine qt_guardT rfl rfl rfl (by simp) ?_
            refine qt_valE (v := .bool true) rfl (fun wq hq => rf_move rfl) rfl ?_
            refine qt_guardT rfl rfl rfl (by simp) ?_
            refine qt_valE (v := .bool false) rfl (fun wq hq => rf_not rfl rfl) rfl ?_
            refine qt_valE (v := .bool false) rfl (fun wq hq => rf_pickF rfl rfl rfl (by simp)) rfl ?_
            refine qt_valE (v := .bool false) rfl (fun wq hq => rf_move rfl) rfl ?_
            refine qt_guardT rfl rfl rfl rfl ?_
            refine qt_valE (v := .int .i64 xr.val) rfl (fun wq hq => rf_move rfl) rfl ?_
            refine qt_guardT rfl rfl rfl rfl ?_
            refine qt_valE (v := .int .i64 xr.val) rfl (fun wq hq => rf_move rfl) rfl ?_
            refine qt_guardT rfl rfl rfl rfl ?_
            refine qt_valE (v := .bool (decide (xr.val ≠ xr.val))) rfl (fun wq hq => rf_neq rfl rfl rfl rfl) rfl ?_
            refine qt_valE (v := .bool (decide (xr.val ≠ xr.val))) rfl (fun wq hq => rf_pickF rfl rfl rfl rfl) rfl ?_
            refine qt_nil ?_
            intro w30 hk30
            have H30 := H29.keep hk30
            refine thn ?_
            refine wrD rfl ?_
            refine condF' rfl rfl (t := decide (xr.val ≠ xr.val)) ((by simp)) ?_
            refine skip_ ?_
            refine thn ?_
            refine wrD rfl ?_
            refine seq_ ?_
            refine region_ ?_
            refine wl_valE (v := .int .i64 ((j : Nat) : Int)) rfl (rf_load Try.underlying3 rfl rfl rfl ((H30.blk 10 rfl).cell rfl)) rfl ?_
            refine wl_valE (v := .int .i64 ((j + 1 : Nat) : Int)) rfl (rf_add rfl rfl rfl rfl (IntWalk.i64_in _ (by omega))) rfl ?_
            refine wl_storeH H30 10 (v := .int .i64 ((j + 1 : Nat) : Int)) (A' := #[.int .i64 ((j + 1 : Nat) : Int)]) rfl rfl ti3 rfl rfl rfl rfl rfl (ltb rfl) rfl ?_
            intro w31 H31
            refine wl_nil ?_
            refine thn ?_
            refine wrD rfl ?_
            refine seq_ ?_
            refine region_ ?_
            refine wl_valE (v := .int .i64 ((j + 1 : Nat) : Int)) rfl (rf_load Try.underlying3 rfl rfl rfl ((H31.blk 10 rfl).cell rfl)) rfl ?_
            refine wl_valE (v := .int .i64 ((1 + s : Nat) : Int)) rfl (rf_load Try.underlying3 rfl rfl rfl ((H31.blk 6 rfl).cell rfl)) rfl ?_
            refine wl_valE (v := .bool (decide (((j + 1 : Nat) : Int) = ((1 + s : Nat) : Int)))) rfl (rf_eql rfl rfl rfl rfl) rfl ?_
            refine wl_valE (v := .bool (decide (((j + 1 : Nat) : Int) = ((1 + s : Nat) : Int)))) rfl (rf_move rfl) rfl ?_
            refine wl_split (decide (((j + 1 : Nat) : Int) = ((1 + s : Nat) : Int))) (fun u22_3 => ?_) (fun u22_3 => ?_)
            · have u22_3p := of_decide_eq_true u22_3
              refine wl_guardT rfl rfl rfl u22_3 ?_
              refine wl_valE (v := .int .i64 ((q : Nat) : Int)) rfl (rf_load Try.underlying3 rfl rfl rfl ((H31.blk 9 rfl).cell rfl)) rfl ?_
              refine wl_guardT rfl rfl rfl u22_3 ?_
              refine wl_valE (v := .bool (decide (((q : Nat) : Int) < (2 : Int)))) rfl (rf_lss rfl rfl rfl rfl) rfl ?_
              refine wl_valE (v := .bool (decide (((q : Nat) : Int) < (2 : Int)))) rfl (rf_pickT rfl rfl rfl u22_3) rfl ?_
              refine wl_nil ?_
              refine thn ?_
              refine wrD rfl ?_
              refine cond_ (t := decide (((q : Nat) : Int) < (2 : Int))) rfl rfl (fun c91 => ?_) (fun c91 => ?_)
              · have c91p := of_decide_eq_true c91
                refine exit_ ?_
                refine blo rfl ?_
                refine rb_x H31 11 rfl ?_
                have H32 := H31.le 11 loopH_any rfl
                exact ⟨rfl, j + 1, ⟨by omega, by omega⟩, H32.pick' [0, 1, 2, 3, 4, 5, 6, 7, 8, 9, 10, 11] rfl rfl⟩
              · have c91p := of_decide_eq_false c91
                refine skip_ ?_
                refine bln ?_
                refine rb_n H31 11 rfl ?_
                have H33 := H31.le 11 loopH_any rfl
                exact H33.pick' [0, 1, 2, 3, 4, 5, 6, 7, 8, 9, 10, 11] rfl rfl
            · have u22_3p := of_decide_eq_false u22_3
              refine wl_guardF rfl rfl rfl u22_3 ?_
              refine wl_guardF rfl rfl rfl u22_3 ?_
              refine wl_valE (v := .bool false) rfl (rf_pickF rfl rfl rfl u22_3) rfl ?_
              refine wl_nil ?_
              refine thn ?_
              refine wrD rfl ?_
              refine condF rfl rfl ?_
              refine skip_ ?_
              refine bln ?_
              refine rb_n H31 11 rfl ?_
              have H34 := H31.le 11 loopH_any rfl
              exact H34.pick' [0, 1, 2, 3, 4, 5, 6, 7, 8, 9, 10, 11] rfl rfl
          · rintro Df0 lpf0 Wf0 HDf0
            refine bln ?_
            refine thn ?_
            refine wrD rfl ?_
            refine seq_ ?_
            refine region_ ?_
            refine wl_valE (v := .int .i64 ((ER.length : Nat) : Int)) rfl (rf_load Try.underlying3 rfl rfl rfl ((HDf0.blk 10 rfl).cell rfl)) rfl ?_
            refine wl_valE (v := .slice ka ks.length kc) rfl (rf_load Try.underlying22 rfl rfl rfl ((HDf0.blk 5 rfl).cell rfl)) rfl ?_
            refine wl_valE (v := .int .i64 ((ks.length : Nat) : Int)) rfl (rf_len_slice Try.underlying22 rfl rfl) rfl ?_
            refine wl_valE (v := .bool (decide (((ER.length : Nat) : Int) ≠ ((ks.length : Nat) : Int)))) rfl (rf_neq rfl rfl rfl rfl) rfl ?_
            refine wl_valE (v := .bool (decide (((ER.length : Nat) : Int) ≠ ((ks.length : Nat) : Int)))) rfl (rf_move rfl) rfl ?_
            refine wl_guardF rfl rfl rfl (by simp; omega) ?_
            refine wl_guardF rfl rfl rfl (by simp; omega) ?_
            refine wl_guardF rfl rfl rfl (by simp; omega) ?_
            refine wl_guardS rfl rfl rfl ?_
            refine wl_guardS rfl rfl rfl ?_
            refine wl_guardS rfl rfl rfl ?_
            refine wl_guardF rfl rfl rfl (by simp; omega) ?_
            refine wl_valE (v := .bool false) rfl (rf_pickF rfl rfl rfl (by simp; omega)) rfl ?_
            refine wl_nil ?_
            refine thn ?_
            refine wrD rfl ?_
            refine condF rfl rfl ?_
            refine skip_ ?_
            refine bln ?_
            refine thn ?_
            refine wrD rfl ?_
            refine seq_ ?_
            refine seq_ ?_
            refine region_ ?_
            refine wl_valE (v := .int .i64 ((q : Nat) : Int)) rfl (rf_load Try.underlying3 rfl rfl rfl ((HDf0.blk 9 rfl).cell rfl)) rfl ?_
            refine wl_nil ?_
            refine thn ?_
            refine wrD rfl ?_
            refine region_ ?_
            refine wl_allocH HDf0 ti3 ?_
            intro bn w36 H36
            refine wl_storeH H36 12 (v := .int .i64 ((q : Nat) : Int)) (A' := #[.int .i64 ((q : Nat) : Int)]) rfl rfl ti3 rfl rfl rfl rfl rfl (ltb rfl) rfl ?_
            intro w37 H37
            refine wl_nil ?_
            refine thn ?_
            refine wrD rfl ?_
            refine region_ ?_
            refine wl_valE (v := .int .i64 ((q : Nat) : Int)) rfl (rf_load Try.underlying3 rfl rfl rfl ((H37.blk 12 rfl).cell rfl)) rfl ?_
            refine wl_valE (v := .int .i64 ((q + 1 : Nat) : Int)) rfl (rf_add rfl rfl rfl rfl (IntWalk.i64_in _ (by omega))) rfl ?_
            refine wl_storeH H37 12 (v := .int .i64 ((q + 1 : Nat) : Int)) (A' := #[.int .i64 ((q + 1 : Nat) : Int)]) rfl rfl ti3 rfl rfl rfl rfl rfl (ltb rfl) rfl ?_
            intro w38 H38
            refine wl_nil ?_
            refine thn ?_
            refine ⟨3 - (q + 1), Df0 :: Dq1, _, rfl, (by omega), _, q + 1, bn, upds_self ⟨rfl, rfl, rfl, rfl, rfl, rfl, rfl, trivial⟩, rfl, by omega, H38.pick' [0, 1, 2, 3, 4, 5, 6, 7, 8, 12] rfl rfl⟩
          · rintro Df0 lpf0 e Wf0 (⟨rfl, nn, ⟨hnn, hq2⟩, HSf0⟩) -
            · refine blx ?_
              refine thn ?_
              refine wrD rfl ?_
              refine seq_ ?_
              refine region_ ?_
              refine wl_valE (v := .int .i64 ((nn : Nat) : Int)) rfl (rf_load Try.underlying3 rfl rfl rfl ((HSf0.blk 10 rfl).cell rfl)) rfl ?_
              refine wl_valE (v := .slice ka ks.length kc) rfl (rf_load Try.underlying22 rfl rfl rfl ((HSf0.blk 5 rfl).cell rfl)) rfl ?_
              refine wl_valE (v := .int .i64 ((ks.length : Nat) : Int)) rfl (rf_len_slice Try.underlying22 rfl rfl) rfl ?_
              refine wl_valE (v := .bool (decide (((nn : Nat) : Int) ≠ ((ks.length : Nat) : Int)))) rfl (rf_neq rfl rfl rfl rfl) rfl ?_
              refine wl_valE (v := .bool (decide (((nn : Nat) : Int) ≠ ((ks.length : Nat) : Int)))) rfl (rf_move rfl) rfl ?_
              refine wl_split (decide (((nn : Nat) : Int) ≠ ((ks.length : Nat) : Int))) (fun u23_4 => ?_) (fun u23_4 => ?_)
              · have u23_4p := of_decide_eq_true u23_4
                refine wl_guardT rfl rfl rfl u23_4 ?_
                refine wl_valE (v := .int .i64 ((q : Nat) : Int)) rfl (rf_load Try.underlying3 rfl rfl rfl ((HSf0.blk 9 rfl).cell rfl)) rfl ?_
                refine wl_guardT rfl rfl rfl u23_4 ?_
                refine wl_valE (v := .bool (decide (((q : Nat) : Int) = (2 : Int)))) rfl (rf_eql rfl rfl rfl rfl) rfl ?_
                refine wl_guardT rfl rfl rfl u23_4 ?_
                refine wl_valE (v := .bool (decide (((q : Nat) : Int) = (2 : Int)))) rfl (rf_move rfl) rfl ?_
                refine wl_guardT rfl rfl rfl (by simp; omega) ?_
                refine wl_valE (v := .int .i64 ((nn : Nat) : Int)) rfl (rf_load Try.underlying3 rfl rfl rfl ((HSf0.blk 10 rfl).cell rfl)) rfl ?_
                refine wl_guardT rfl rfl rfl (by simp; omega) ?_
                refine wl_valE (v := .int .i64 ((1 + s : Nat) : Int)) rfl (rf_load Try.underlying3 rfl rfl rfl ((HSf0.blk 6 rfl).cell rfl)) rfl ?_
                refine wl_guardT rfl rfl rfl (by simp; omega) ?_
                refine wl_valE (v := .bool (decide (((nn : Nat) : Int) ≠ ((1 + s : Nat) : Int)))) rfl (rf_neq rfl rfl rfl rfl) rfl ?_
                refine wl_guardT rfl rfl rfl u23_4 ?_
                refine wl_valE (v := .bool (decide (((nn : Nat) : Int) ≠ ((1 + s : Nat) : Int)))) rfl (rf_pickF rfl rfl rfl (by simp; omega)) rfl ?_
                refine wl_valE (v := .bool (decide (((nn : Nat) : Int) ≠ ((1 + s : Nat) : Int)))) rfl (rf_pickT rfl rfl rfl u23_4) rfl ?_
                refine wl_nil ?_
                refine thn ?_
                refine wrD rfl ?_
                refine condF' rfl rfl (t := decide (((nn : Nat) : Int) ≠ ((1 + s : Nat) : Int))) ((by simp; omega)) ?_
                refine skip_ ?_
                refine bln ?_
                refine thn ?_
                refine wrD rfl ?_
                refine seq_ ?_
                refine seq_ ?_
                refine region_ ?_
                refine wl_valE (v := .int .i64 ((q : Nat) : Int)) rfl (rf_load Try.underlying3 rfl rfl rfl ((HSf0.blk 9 rfl).cell rfl)) rfl ?_
                refine wl_nil ?_
                refine thn ?_
                refine wrD rfl ?_
                refine region_ ?_
                refine wl_allocH HSf0 ti3 ?_
                intro bn w40 H40
                refine wl_storeH H40 12 (v := .int .i64 ((q : Nat) : Int)) (A' := #[.int .i64 ((q : Nat) : Int)]) rfl rfl ti3 rfl rfl rfl rfl rfl (ltb rfl) rfl ?_
                intro w41 H41
                refine wl_nil ?_
                refine thn ?_
                refine wrD rfl ?_
                refine region_ ?_
                refine wl_valE (v := .int .i64 ((q : Nat) : Int)) rfl (rf_load Try.underlying3 rfl rfl rfl ((H41.blk 12 rfl).cell rfl)) rfl ?_
                refine wl_valE (v := .int .i64 ((q + 1 : Nat) : Int)) rfl (rf_add rfl rfl rfl rfl (IntWalk.i64_in _ (by omega))) rfl ?_
                refine wl_storeH H41 12 (v := .int .i64 ((q + 1 : Nat) : Int)) (A' := #[.int .i64 ((q + 1 : Nat) : Int)]) rfl rfl ti3 rfl rfl rfl rfl rfl (ltb rfl) rfl ?_
                intro w42 H42
                refine wl_nil ?_
                refine thn ?_
                refine ⟨3 - (q + 1), Df0 :: Dq1, _, rfl, (by omega), _, q + 1, bn, upds_self ⟨rfl, rfl, rfl, rfl, rfl, rfl, rfl, trivial⟩, rfl, by omega, H42.pick' [0, 1, 2, 3, 4, 5, 6, 7, 8, 12] rfl rfl⟩
              · have u23_4p := of_decide_eq_false u23_4
                refine wl_guardF rfl rfl rfl u23_4 ?_
                refine wl_guardF rfl rfl rfl u23_4 ?_
                refine wl_guardF rfl rfl rfl u23_4 ?_
                refine wl_guardS rfl rfl rfl ?_
                refine wl_guardS rfl rfl rfl ?_
                refine wl_guardS rfl rfl rfl ?_
                refine wl_guardF rfl rfl rfl u23_4 ?_
                refine wl_valE (v := .bool false) rfl (rf_pickF rfl rfl rfl u23_4) rfl ?_
                refine wl_nil ?_
                refine thn ?_
                refine wrD rfl ?_
                refine condF rfl rfl ?_
                refine skip_ ?_
                refine bln ?_
                refine thn ?_
                refine wrD rfl ?_
                refine seq_ ?_
                refine seq_ ?_
                refine region_ ?_
                refine wl_valE (v := .int .i64 ((q : Nat) : Int)) rfl (rf_load Try.underlying3 rfl rfl rfl ((HSf0.blk 9 rfl).cell rfl)) rfl ?_
                refine wl_nil ?_
                refine thn ?_
                refine wrD rfl ?_
                refine region_ ?_
                refine wl_allocH HSf0 ti3 ?_
                intro bn w44 H44
                refine wl_storeH H44 12 (v := .int .i64 ((q : Nat) : Int)) (A' := #[.int .i64 ((q : Nat) : Int)]) rfl rfl ti3 rfl rfl rfl rfl rfl (ltb rfl) rfl ?_
                intro w45 H45
                refine wl_nil ?_
                refine thn ?_
                refine wrD rfl ?_
                refine region_ ?_
                refine wl_valE (v := .int .i64 ((q : Nat) : Int)) rfl (rf_load Try.underlying3 rfl rfl rfl ((H45.blk 12 rfl).cell rfl)) rfl ?_
                refine wl_valE (v := .int .i64 ((q + 1 : Nat) : Int)) rfl (rf_add rfl rfl rfl rfl (IntWalk.i64_in _ (by omega))) rfl ?_
                refine wl_storeH H45 12 (v := .int .i64 ((q + 1 : Nat) : Int)) (A' := #[.int .i64 ((q + 1 : Nat) : Int)]) rfl rfl ti3 rfl rfl rfl rfl rfl (ltb rfl) rfl ?_
                intro w46 H46
                refine wl_nil ?_
                refine thn ?_
                refine ⟨3 - (q + 1), Df0 :: Dq1, _, rfl, (by omega), _, q + 1, bn, upds_self ⟨rfl, rfl, rfl, rfl, rfl, rfl, rfl, trivial⟩, rfl, by omega, H46.pick' [0, 1, 2, 3, 4, 5, 6, 7, 8, 12] rfl rfl⟩
        · have c50p := of_decide_eq_false c50
          refine exit_ ?_
          refine thx (thx (blx ?_))
          refine thn ?_
          refine wrD rfl ?_
          refine seq_ ?_
          refine region_h (S := (fun wq => St w0 S0 [rdH encKey 2 a n c l0] wq [blkH b5 #[.pointer (some ⟨bd, 0, none⟩)] 23, blkH b8 #[.slice ka ks.length kc] 22])) mixedP ?_
          intro w47 hk47
          have H47 := HL1.keep hk47
          have hS47 : St w0 S0 [rdH encKey 2 a n c l0] w47 [blkH b5 #[.pointer (some ⟨bd, 0, none⟩)] 23, blkH b8 #[.slice ka ks.length kc] 22] := H47.pick' [3, 5] rfl rfl
          refine wh_take (i := 0) (v := .pointer (some ⟨bd, 0, none⟩)) rfl (by kernel_rfl) (by kernel_rfl) (by kernel_rfl) hS47 rfl (fun wq hq => rf_load Try.underlying23 rfl rfl rfl ((hq.blk 0 rfl).cell rfl)) rfl ?_
          refine wh_take (i := 2) (v := .slice ka ks.length kc) rfl (by kernel_rfl) (by kernel_rfl) (by kernel_rfl) hS47 rfl (fun wq hq => rf_load Try.underlying22 rfl rfl rfl ((hq.blk 1 rfl).cell rfl)) rfl ?_
          refine wh_take (i := 3) (v := .int .i64 ((ks.length : Nat) : Int)) rfl (by kernel_rfl) (by kernel_rfl) (by kernel_rfl) hS47 rfl (fun wq hq => rf_len_slice Try.underlying22 rfl rfl) rfl ?_
          refine wh_one (i := 1) (by kernel_rfl) rfl ?_
          refine wl_tr H47 rfl [] (len_tr) rfl (.own 2 rfl Le.rfl .nil) (rf_call Try.call10 rfl rfl) rfl ?_
          rintro _ w48 _ ⟨rfl, rfl⟩ H48
          refine wl_nil ?_
          have hS49 : St w0 S0 [rdH encKey 2 a n c l0] w48 [blkH b5 #[.pointer (some ⟨bd, 0, none⟩)] 23, blkH b8 #[.slice ka ks.length kc] 22] := H48.pick' [3, 5] rfl rfl
          refine wh_back hS49 ?_
          refine wh_take (i := 4) (v := .bool (decide (((l.length : Nat) : Int) = ((ks.length : Nat) : Int)))) rfl (by kernel_rfl) (by kernel_rfl) (by kernel_rfl) hS49 rfl (fun wq hq => rf_eql rfl rfl rfl rfl) rfl ?_
          refine wh_take (i := 5) (v := .bool (decide (((l.length : Nat) : Int) = ((ks.length : Nat) : Int)))) rfl (by kernel_rfl) (by kernel_rfl) (by kernel_rfl) hS49 rfl (fun wq hq => rf_move rfl) rfl ?_
          refine wh_takeG (i := 6) (v := .slice a n c) rfl (by kernel_rfl) (by kernel_rfl) (by kernel_rfl) hS49 rfl rfl rfl rfl (by simp; omega) (fun wq hq => rf_move rfl) rfl ?_
          refine wh_takeG (i := 7) (v := .int .i64 ((n : Nat) : Int)) rfl (by kernel_rfl) (by kernel_rfl) (by kernel_rfl) hS49 rfl rfl rfl rfl (by simp; omega) (fun wq hq => rf_len_slice Try.underlying22 rfl rfl) rfl ?_
          refine wh_takeG (i := 8) (v := .bool (decide ((0 : Int) < ((n : Nat) : Int)))) rfl (by kernel_rfl) (by kernel_rfl) (by kernel_rfl) hS49 rfl rfl rfl rfl (by simp; omega) (fun wq hq => rf_gtr rfl rfl rfl rfl) rfl ?_
          refine wh_takeG (i := 9) (v := .slice ka ks.length kc) rfl (by kernel_rfl) (by kernel_rfl) (by kernel_rfl) hS49 rfl rfl rfl rfl (by simp; omega) (fun wq hq => rf_load Try.underlying22 rfl rfl rfl ((hq.blk 1 rfl).cell rfl)) rfl ?_
          refine wh_takeG (i := 10) (v := .int .i64 ((ks.length : Nat) : Int)) rfl (by kernel_rfl) (by kernel_rfl) (by kernel_rfl) hS49 rfl rfl rfl rfl (by simp; omega) (fun wq hq => rf_len_slice Try.underlying22 rfl rfl) rfl ?_
          refine wh_takeG (i := 11) (v := .bool (decide ((0 : Int) < ((ks.length : Nat) : Int)))) rfl (by kernel_rfl) (by kernel_rfl) (by kernel_rfl) hS49 rfl rfl rfl rfl (by simp; omega) (fun wq hq => rf_gtr rfl rfl rfl rfl) rfl ?_
          refine wh_takeG (i := 12) (v := .bool (decide ((decide ((0 : Int) < ((n : Nat) : Int))) = (decide ((0 : Int) < ((ks.length : Nat) : Int)))))) rfl (by kernel_rfl) (by kernel_rfl) (by kernel_rfl) hS49 rfl rfl rfl rfl (by simp; omega) (fun wq hq => rf_eqlB Try.underlying4 rfl rfl rfl rfl) rfl ?_
          refine wh_take (i := 13) (v := .bool (decide ((decide ((0 : Int) < ((n : Nat) : Int))) = (decide ((0 : Int) < ((ks.length : Nat) : Int)))))) rfl (by kernel_rfl) (by kernel_rfl) (by kernel_rfl) hS49 rfl (fun wq hq => rf_pickT rfl rfl rfl (by simp; omega)) rfl ?_
          refine wh_one (i := 14) (by kernel_rfl) rfl ?_
          refine wl_storeH H48 1 (v := .bool (decide ((decide ((0 : Int) < ((n : Nat) : Int))) = (decide ((0 : Int) < ((ks.length : Nat) : Int)))))) (A' := #[.bool (decide ((decide ((0 : Int) < ((n : Nat) : Int))) = (decide ((0 : Int) < ((ks.length : Nat) : Int)))))]) rfl rfl ti4 rfl rfl rfl rfl rfl (ltb rfl) rfl ?_
          intro w50 H50
          refine wl_nil ?_
          have hS51 : St w0 S0 [rdH encKey 2 a n c l0] w50 [blkH b5 #[.pointer (some ⟨bd, 0, none⟩)] 23, blkH b8 #[.slice ka ks.length kc] 22] := H50.pick' [3, 5] rfl rfl
          refine wh_back hS51 ?_
          refine wh_done (by kernel_rfl) ?_
          refine thn ?_
          refine wrD rfl ?_
          refine ret_ ?_
          refine finM (Ds := Dq1) H50 0 rfl rfl rfl (fun w52 H52 => ?_)
          refine finV1 Try.results3 (.cell rfl Try.underlying4 rfl rfl ((H52.blk 1 rfl).cell rfl)) ?_
          exact ⟨_, congrArg Value.bool (by simp; omega), H52.pick' [] rfl rfl⟩
end Go.Proofs.Ytlpigppmbnaabaa.W
