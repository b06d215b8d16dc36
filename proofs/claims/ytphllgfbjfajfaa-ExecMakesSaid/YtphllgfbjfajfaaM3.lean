import Derived.Test.YtphllgfbjfajfaaM2
import Derived.KernelRfl
namespace Go.Proofs.Ytphllgfbjfajfaa.W
open Go Go.Wk
set_option linter.unusedVariables false
set_option linter.unusedSimpArgs false
structure ShpR where
  parts : Int
  cap : Int
  workers : Int
  ahead : Int
  hands : Int
def encShp (o : ShpR) : List Value := [.int .i64 o.parts, .int .i64 o.cap, .int .i64 o.workers, .int .i64 o.ahead, .int .i64 o.hands]
theorem encShp_len (o : ShpR) : (encShp o).length = 5 := rfl
theorem encShp_one (o : ShpR) : ∀ u ∈ encShp o, u.oneCell' = true := oneAll
set_option maxRecDepth 100000 in
set_option maxHeartbeats 2000000 in
theorem made_tr (sp sc sw sa sh : Int) (a : Option Addr) (n c : Nat) (lib : List ProcR) (hn : n ≤ 1048576) (hb : ∀ x ∈ lib, x.prog.code.n ≤ 1048576) : Tr Try.prog 5 [.agg #[.int .i64 sp, .int .i64 sc, .int .i64 sw, .int .i64 sa, .int .i64 sh], .slice a n c] [rdH encProc 6 a n c lib, shH (lib.map mkC)] [] (fun v m => ∃ x, v = .tuple #[x, .bool true] ∧ m = []) := by
  intro w0 S0 H0
  refine enterR Try.func5 rfl Try.ntmps5 rfl ?_
  intro g0
  refine seq_ ?_
  refine region_ ?_
  refine wl_boxH H0 (v := .agg #[.int .i64 sp, .int .i64 sc, .int .i64 sw, .int .i64 sa, .int .i64 sh]) rfl rfl ?_
  intro b1 w2 H2
  refine wl_valE (v := .pointer none) rfl (rf_assign rfl) rfl ?_
  refine wl_valE (v := .bool false) rfl (rf_assign rfl) rfl ?_
  refine wl_nil ?_
  refine thn ?_
  refine seq_ ?_
  refine region_ ?_
  refine wl_valE (v := .agg #[.pointer none, .pointer none, .pointer none, .pointer none, .pointer none, .pointer none, .slice none 0 0, .slice none 0 0]) rfl (rf_build (offs := []) (places := #[(0, 1), (1, 1), (2, 1), (3, 1), (4, 1), (5, 1), (6, 1), (7, 1)]) Try.underlying43 ti43 (fun w => by kernel_rfl) .nil) rfl ?_
  refine wl_boxH H2 (v := .agg #[.pointer none, .pointer none, .pointer none, .pointer none, .pointer none, .pointer none, .slice none 0 0, .slice none 0 0]) rfl rfl ?_
  intro b3 w4 H4
  refine wl_valE (v := .pointer (some ⟨b3, 0, none⟩)) rfl (rf_assign rfl) rfl ?_
  refine wl_nil ?_
  refine thn ?_
  refine seq_ ?_
  rcases Classical.em (GoodS sp sc) with hS | hS
  · refine region_ ?_
    refine wl_valE (v := .pointer (some ⟨b1, 0, none⟩)) rfl (rf_fieldAddr Try.underlying23 rfl ti3 rfl rfl) rfl ?_
    refine wl_valE (v := .int .i64 sp) rfl (rf_load Try.underlying3 rfl rfl rfl ((H4.blk 0 rfl).cell rfl)) rfl ?_
    refine wl_valE (v := .pointer (some ⟨b1, 1, none⟩)) rfl (rf_fieldAddr Try.underlying23 rfl ti3 rfl rfl) rfl ?_
    refine wl_valE (v := .int .i64 sc) rfl (rf_load Try.underlying3 rfl rfl rfl ((H4.blk 0 rfl).cell rfl)) rfl ?_
    refine wl_tr H4 rfl [] (snew_tr sp sc hS) rfl .nil (rf_call Try.call6 rfl rfl) rfl ?_
    rintro _ w5 _ ⟨bn5, rfl, rfl⟩ H5
    refine wl_valE (v := .tuple #[.pointer (some ⟨bn5, 0, none⟩), .int .i64 0]) rfl (rf_move rfl) rfl ?_
    refine wl_valE (v := .pointer (some ⟨bn5, 0, none⟩)) rfl (rf_extract rfl rfl rfl) rfl ?_
    refine wl_valE (v := .int .i64 0) rfl (rf_extract rfl rfl rfl) rfl ?_
    refine wl_valE (v := .pointer (some ⟨bn5, 0, none⟩)) rfl (rf_assign rfl) rfl ?_
    refine wl_valE (v := .int .i64 0) rfl (rf_assign rfl) rfl ?_
    refine wl_nil ?_
    refine thn ?_
    refine seq_ ?_
    refine region_ ?_
    refine wl_valE (v := .pointer (some ⟨b1, 0, none⟩)) rfl (rf_fieldAddr Try.underlying23 rfl ti3 rfl rfl) rfl ?_
    refine wl_valE (v := .int .i64 sp) rfl (rf_load Try.underlying3 rfl rfl rfl ((H5.blk 0 rfl).cell rfl)) rfl ?_
    refine wl_valE (v := .pointer (some ⟨b1, 1, none⟩)) rfl (rf_fieldAddr Try.underlying23 rfl ti3 rfl rfl) rfl ?_
    refine wl_valE (v := .int .i64 sc) rfl (rf_load Try.underlying3 rfl rfl rfl ((H5.blk 0 rfl).cell rfl)) rfl ?_
    refine wl_tr H5 rfl [] (rnew_tr sp sc hS) rfl .nil (rf_call Try.call7 rfl rfl) rfl ?_
    rintro _ w6 _ ⟨bn6, rfl, rfl⟩ H6
    refine wl_valE (v := .tuple #[.pointer (some ⟨bn6, 0, none⟩), .int .i64 0]) rfl (rf_move rfl) rfl ?_
    refine wl_valE (v := .pointer (some ⟨bn6, 0, none⟩)) rfl (rf_extract rfl rfl rfl) rfl ?_
    refine wl_valE (v := .int .i64 0) rfl (rf_extract rfl rfl rfl) rfl ?_
    refine wl_valE (v := .pointer (some ⟨bn6, 0, none⟩)) rfl (rf_assign rfl) rfl ?_
    refine wl_valE (v := .int .i64 0) rfl (rf_assign rfl) rfl ?_
    refine wl_nil ?_
    refine thn ?_
    refine seq_ ?_
    refine seq_ ?_
    refine region_ ?_
    refine wl_valE (v := .pointer (some ⟨bn5, 0, none⟩)) rfl (rf_move rfl) rfl ?_
    refine wl_valE (v := .bool false) rfl (rf_eqlPN Try.underlying35 rfl rfl rfl rfl) rfl ?_
    refine wl_valE (v := .bool false) rfl (rf_move rfl) rfl ?_
    refine wl_guardT rfl rfl rfl rfl ?_
    refine wl_valE (v := .pointer (some ⟨bn6, 0, none⟩)) rfl (rf_move rfl) rfl ?_
    refine wl_guardT rfl rfl rfl rfl ?_
    refine wl_valE (v := .bool false) rfl (rf_eqlPN Try.underlying38 rfl rfl rfl rfl) rfl ?_
    refine wl_valE (v := .bool false) rfl (rf_pickF rfl rfl rfl rfl) rfl ?_
    refine wl_nil ?_
    refine thn ?_
    refine condF rfl rfl ?_
    refine skip_ ?_
    refine thn ?_
    refine seq_ ?_
    rcases Classical.em (GoodW sw sa) with hW | hW
    · refine region_ ?_
      refine wl_valE (v := .pointer (some ⟨bn5, 0, none⟩)) rfl (rf_move rfl) rfl ?_
      refine wl_valE (v := .pointer (some ⟨b1, 2, none⟩)) rfl (rf_fieldAddr Try.underlying23 rfl ti3 rfl rfl) rfl ?_
      refine wl_valE (v := .int .i64 sw) rfl (rf_load Try.underlying3 rfl rfl rfl ((H6.blk 0 rfl).cell rfl)) rfl ?_
      refine wl_valE (v := .pointer (some ⟨b1, 3, none⟩)) rfl (rf_fieldAddr Try.underlying23 rfl ti3 rfl rfl) rfl ?_
      refine wl_valE (v := .int .i64 sa) rfl (rf_load Try.underlying3 rfl rfl rfl ((H6.blk 0 rfl).cell rfl)) rfl ?_
      refine wl_tr H6 rfl [] (cnew_tr bn5 sw sa hW) rfl .nil (rf_call Try.call9 rfl rfl) rfl ?_
      rintro _ w7 _ ⟨bn7, rfl, rfl⟩ H7
      refine wl_valE (v := .tuple #[.pointer (some ⟨bn7, 0, none⟩), .int .i64 0]) rfl (rf_move rfl) rfl ?_
      refine wl_valE (v := .pointer (some ⟨bn7, 0, none⟩)) rfl (rf_extract rfl rfl rfl) rfl ?_
      refine wl_valE (v := .int .i64 0) rfl (rf_extract rfl rfl rfl) rfl ?_
      refine wl_valE (v := .pointer (some ⟨bn7, 0, none⟩)) rfl (rf_assign rfl) rfl ?_
      refine wl_valE (v := .int .i64 0) rfl (rf_assign rfl) rfl ?_
      refine wl_nil ?_
      refine thn ?_
      refine seq_ ?_
      refine region_ ?_
      refine wl_valE (v := .pointer (some ⟨bn6, 0, none⟩)) rfl (rf_move rfl) rfl ?_
      refine wl_valE (v := .pointer (some ⟨b1, 2, none⟩)) rfl (rf_fieldAddr Try.underlying23 rfl ti3 rfl rfl) rfl ?_
      refine wl_valE (v := .int .i64 sw) rfl (rf_load Try.underlying3 rfl rfl rfl ((H7.blk 0 rfl).cell rfl)) rfl ?_
      refine wl_valE (v := .pointer (some ⟨b1, 3, none⟩)) rfl (rf_fieldAddr Try.underlying23 rfl ti3 rfl rfl) rfl ?_
      refine wl_valE (v := .int .i64 sa) rfl (rf_load Try.underlying3 rfl rfl rfl ((H7.blk 0 rfl).cell rfl)) rfl ?_
      refine wl_tr H7 rfl [] (bnew_tr bn6 sw sa hW) rfl .nil (rf_call Try.call10 rfl rfl) rfl ?_
      rintro _ w8 _ ⟨bn8, rfl, rfl⟩ H8
      refine wl_valE (v := .tuple #[.pointer (some ⟨bn8, 0, none⟩), .int .i64 0]) rfl (rf_move rfl) rfl ?_
      refine wl_valE (v := .pointer (some ⟨bn8, 0, none⟩)) rfl (rf_extract rfl rfl rfl) rfl ?_
      refine wl_valE (v := .int .i64 0) rfl (rf_extract rfl rfl rfl) rfl ?_
      refine wl_valE (v := .pointer (some ⟨bn8, 0, none⟩)) rfl (rf_assign rfl) rfl ?_
      refine wl_valE (v := .int .i64 0) rfl (rf_assign rfl) rfl ?_
      refine wl_nil ?_
      refine thn ?_
      refine seq_ ?_
      refine seq_ ?_
      refine region_ ?_
      refine wl_valE (v := .pointer (some ⟨bn7, 0, none⟩)) rfl (rf_move rfl) rfl ?_
      refine wl_valE (v := .bool false) rfl (rf_eqlPN Try.underlying36 rfl rfl rfl rfl) rfl ?_
      refine wl_valE (v := .bool false) rfl (rf_move rfl) rfl ?_
      refine wl_guardT rfl rfl rfl rfl ?_
      refine wl_valE (v := .pointer (some ⟨bn8, 0, none⟩)) rfl (rf_move rfl) rfl ?_
      refine wl_guardT rfl rfl rfl rfl ?_
      refine wl_valE (v := .bool false) rfl (rf_eqlPN Try.underlying39 rfl rfl rfl rfl) rfl ?_
      refine wl_valE (v := .bool false) rfl (rf_pickF rfl rfl rfl rfl) rfl ?_
      refine wl_nil ?_
      refine thn ?_
      refine condF rfl rfl ?_
      refine skip_ ?_
      refine thn ?_
      refine seq_ ?_
      refine region_ ?_
      refine wl_valE (v := .slice a n c) rfl (rf_move rfl) rfl ?_
      refine wl_tr H8 rfl [] (copyLib_tr a n c lib (by omega) hb) rfl (.ro 0 Le.rfl (.ro 1 Le.rfl .nil)) (rf_call Try.call11 rfl rfl) rfl ?_
      rintro _ w9 _ ⟨oa, oc, own, rfl, hol, her, hob, rfl⟩ H9
      refine wl_valE (v := .slice oa n oc) rfl (rf_assign rfl) rfl ?_
      refine wl_nil ?_
      refine thn ?_
      refine seq_ ?_
      rcases case_h lib sh with hh | hh
      · refine region_ ?_
        refine wl_valE (v := .pointer (some ⟨bn7, 0, none⟩)) rfl (rf_move rfl) rfl ?_
        refine wl_valE (v := .pointer (some ⟨bn5, 0, none⟩)) rfl (rf_move rfl) rfl ?_
        refine wl_valE (v := .slice oa n oc) rfl (rf_move rfl) rfl ?_
        refine wl_valE (v := .pointer (some ⟨b1, 4, none⟩)) rfl (rf_fieldAddr Try.underlying23 rfl ti3 rfl rfl) rfl ?_
        refine wl_valE (v := .int .i64 sh) rfl (rf_load Try.underlying3 rfl rfl rfl ((H9.blk 0 rfl).cell rfl)) rfl ?_
        refine wl_tr H9 rfl [] (xnew_tr bn7 bn5 oa n oc own sh (by omega) (fun x hx => Nat.le_trans (hob x hx) (by decide)) (by rw [her]; exact hh.1) hh.2) rfl (.own 2 rfl slH_rd (.own 3 rfl cod_le .nil)) (rf_call Try.call12 rfl rfl) rfl ?_
        rintro _ w10 _ ⟨bn10, rfl, rfl⟩ H10
        refine wl_valE (v := .tuple #[.pointer (some ⟨bn10, 0, none⟩), .int .i64 0]) rfl (rf_move rfl) rfl ?_
        refine wl_valE (v := .pointer (some ⟨bn10, 0, none⟩)) rfl (rf_extract rfl rfl rfl) rfl ?_
        refine wl_valE (v := .int .i64 0) rfl (rf_extract rfl rfl rfl) rfl ?_
        refine wl_valE (v := .pointer (some ⟨bn10, 0, none⟩)) rfl (rf_assign rfl) rfl ?_
        refine wl_valE (v := .int .i64 0) rfl (rf_assign rfl) rfl ?_
        refine wl_nil ?_
        refine thn ?_
        refine seq_ ?_
        have H11 : St w0 S0 [rdH encProc 6 a n c lib, shH (lib.map mkC)] w10 (setH _ 3 (allH (own.map mkA))) := H10.le 3 codA_le rfl
        try dsimp only [putsH, setH, List.cons_append, List.nil_append] at H11
        refine region_ ?_
        refine wl_valE (v := .slice oa n oc) rfl (rf_move rfl) rfl ?_
        refine wl_tr H11 rfl [2, 3] (spoilLib_tr oa n oc own) rfl .nil (rf_call Try.call13 rfl rfl) rfl ?_
        rintro _ w12 _ ⟨rfl, rfl⟩ H12
        refine wl_nil ?_
        refine thn ?_
        refine seq_ ?_
        refine region_ ?_
        refine wl_valE (v := .pointer (some ⟨bn8, 0, none⟩)) rfl (rf_move rfl) rfl ?_
        refine wl_valE (v := .pointer (some ⟨bn6, 0, none⟩)) rfl (rf_move rfl) rfl ?_
        refine wl_valE (v := .slice a n c) rfl (rf_move rfl) rfl ?_
        refine wl_valE (v := .pointer (some ⟨b1, 4, none⟩)) rfl (rf_fieldAddr Try.underlying23 rfl ti3 rfl rfl) rfl ?_
        refine wl_valE (v := .int .i64 sh) rfl (rf_load Try.underlying3 rfl rfl rfl ((H12.blk 0 rfl).cell rfl)) rfl ?_
        refine wl_tr H12 rfl [] (hnew_tr bn8 bn6 a n c lib sh hh.1 hh.2) rfl (.ro 0 Le.rfl (.ro 1 Le.rfl .nil)) (rf_call Try.call14 rfl rfl) rfl ?_
        rintro _ w13 _ ⟨bn13, rfl, rfl⟩ H13
        refine wl_valE (v := .tuple #[.pointer (some ⟨bn13, 0, none⟩), .int .i64 0]) rfl (rf_move rfl) rfl ?_
        refine wl_valE (v := .pointer (some ⟨bn13, 0, none⟩)) rfl (rf_extract rfl rfl rfl) rfl ?_
        refine wl_valE (v := .int .i64 0) rfl (rf_extract rfl rfl rfl) rfl ?_
        refine wl_valE (v := .pointer (some ⟨bn13, 0, none⟩)) rfl (rf_assign rfl) rfl ?_
        refine wl_valE (v := .int .i64 0) rfl (rf_assign rfl) rfl ?_
        refine wl_nil ?_
        refine thn ?_
        refine seq_ ?_
        refine region_ ?_
        refine wl_valE (v := .pointer (some ⟨b3, 0, none⟩)) rfl (rf_move rfl) rfl ?_
        refine wl_valE (v := .pointer (some ⟨bn5, 0, none⟩)) rfl (rf_move rfl) rfl ?_
        refine wl_valE (v := .pointer (some ⟨b3, 0, none⟩)) rfl (rf_nilCheckP rfl rfl) rfl ?_
        refine wl_valE (v := .pointer (some ⟨b3, 0, none⟩)) rfl (rf_fieldAddr Try.underlying43 rfl ti35 rfl rfl) rfl ?_
        refine wl_storeH H13 1 (v := .pointer (some ⟨bn5, 0, none⟩)) (A' := #[.pointer (some ⟨bn5, 0, none⟩), .pointer none, .pointer none, .pointer none, .pointer none, .pointer none, .slice none 0 0, .slice none 0 0]) rfl rfl ti35 rfl rfl rfl rfl rfl (ltb rfl) rfl ?_
        intro w14 H14
        refine wl_nil ?_
        refine thn ?_
        refine seq_ ?_
        refine region_ ?_
        refine wl_valE (v := .pointer (some ⟨b3, 0, none⟩)) rfl (rf_move rfl) rfl ?_
        refine wl_valE (v := .pointer (some ⟨bn7, 0, none⟩)) rfl (rf_move rfl) rfl ?_
        refine wl_valE (v := .pointer (some ⟨b3, 0, none⟩)) rfl (rf_nilCheckP rfl rfl) rfl ?_
        refine wl_valE (v := .pointer (some ⟨b3, 1, none⟩)) rfl (rf_fieldAddr Try.underlying43 rfl ti36 rfl rfl) rfl ?_
        refine wl_storeH H14 1 (v := .pointer (some ⟨bn7, 0, none⟩)) (A' := #[.pointer (some ⟨bn5, 0, none⟩), .pointer (some ⟨bn7, 0, none⟩), .pointer none, .pointer none, .pointer none, .pointer none, .slice none 0 0, .slice none 0 0]) rfl rfl ti36 rfl rfl rfl rfl rfl (ltb rfl) rfl ?_
        intro w15 H15
        refine wl_nil ?_
        refine thn ?_
        refine seq_ ?_
        refine region_ ?_
        refine wl_valE (v := .pointer (some ⟨b3, 0, none⟩)) rfl (rf_move rfl) rfl ?_
        refine wl_valE (v := .pointer (some ⟨bn10, 0, none⟩)) rfl (rf_move rfl) rfl ?_
        refine wl_valE (v := .pointer (some ⟨b3, 0, none⟩)) rfl (rf_nilCheckP rfl rfl) rfl ?_
        refine wl_valE (v := .pointer (some ⟨b3, 2, none⟩)) rfl (rf_fieldAddr Try.underlying43 rfl ti37 rfl rfl) rfl ?_
        refine wl_storeH H15 1 (v := .pointer (some ⟨bn10, 0, none⟩)) (A' := #[.pointer (some ⟨bn5, 0, none⟩), .pointer (some ⟨bn7, 0, none⟩), .pointer (some ⟨bn10, 0, none⟩), .pointer none, .pointer none, .pointer none, .slice none 0 0, .slice none 0 0]) rfl rfl ti37 rfl rfl rfl rfl rfl (ltb rfl) rfl ?_
        intro w16 H16
        try dsimp only [putsH, setH, List.cons_append, List.nil_append] at H16
        refine wl_nil ?_
        refine thn ?_
        refine seq_ ?_
        refine region_ ?_
        refine wl_valE (v := .pointer (some ⟨b3, 0, none⟩)) rfl (rf_move rfl) rfl ?_
        refine wl_valE (v := .pointer (some ⟨bn6, 0, none⟩)) rfl (rf_move rfl) rfl ?_
        refine wl_valE (v := .pointer (some ⟨b3, 0, none⟩)) rfl (rf_nilCheckP rfl rfl) rfl ?_
        refine wl_valE (v := .pointer (some ⟨b3, 3, none⟩)) rfl (rf_fieldAddr Try.underlying43 rfl ti38 rfl rfl) rfl ?_
        refine wl_storeH H16 1 (v := .pointer (some ⟨bn6, 0, none⟩)) (A' := #[.pointer (some ⟨bn5, 0, none⟩), .pointer (some ⟨bn7, 0, none⟩), .pointer (some ⟨bn10, 0, none⟩), .pointer (some ⟨bn6, 0, none⟩), .pointer none, .pointer none, .slice none 0 0, .slice none 0 0]) rfl rfl ti38 rfl rfl rfl rfl rfl (ltb rfl) rfl ?_
        intro w17 H17
        refine wl_nil ?_
        refine thn ?_
        refine seq_ ?_
        refine region_ ?_
        refine wl_valE (v := .pointer (some ⟨b3, 0, none⟩)) rfl (rf_move rfl) rfl ?_
        refine wl_valE (v := .pointer (some ⟨bn8, 0, none⟩)) rfl (rf_move rfl) rfl ?_
        refine wl_valE (v := .pointer (some ⟨b3, 0, none⟩)) rfl (rf_nilCheckP rfl rfl) rfl ?_
        refine wl_valE (v := .pointer (some ⟨b3, 4, none⟩)) rfl (rf_fieldAddr Try.underlying43 rfl ti39 rfl rfl) rfl ?_
        refine wl_storeH H17 1 (v := .pointer (some ⟨bn8, 0, none⟩)) (A' := #[.pointer (some ⟨bn5, 0, none⟩), .pointer (some ⟨bn7, 0, none⟩), .pointer (some ⟨bn10, 0, none⟩), .pointer (some ⟨bn6, 0, none⟩), .pointer (some ⟨bn8, 0, none⟩), .pointer none, .slice none 0 0, .slice none 0 0]) rfl rfl ti39 rfl rfl rfl rfl rfl (ltb rfl) rfl ?_
        intro w18 H18
        refine wl_nil ?_
        refine thn ?_
        refine seq_ ?_
        refine region_ ?_
        refine wl_valE (v := .pointer (some ⟨b3, 0, none⟩)) rfl (rf_move rfl) rfl ?_
        refine wl_valE (v := .pointer (some ⟨bn13, 0, none⟩)) rfl (rf_move rfl) rfl ?_
        refine wl_valE (v := .pointer (some ⟨b3, 0, none⟩)) rfl (rf_nilCheckP rfl rfl) rfl ?_
        refine wl_valE (v := .pointer (some ⟨b3, 5, none⟩)) rfl (rf_fieldAddr Try.underlying43 rfl ti40 rfl rfl) rfl ?_
        refine wl_storeH H18 1 (v := .pointer (some ⟨bn13, 0, none⟩)) (A' := #[.pointer (some ⟨bn5, 0, none⟩), .pointer (some ⟨bn7, 0, none⟩), .pointer (some ⟨bn10, 0, none⟩), .pointer (some ⟨bn6, 0, none⟩), .pointer (some ⟨bn8, 0, none⟩), .pointer (some ⟨bn13, 0, none⟩), .slice none 0 0, .slice none 0 0]) rfl rfl ti40 rfl rfl rfl rfl rfl (ltb rfl) rfl ?_
        intro w19 H19
        refine wl_nil ?_
        refine thn ?_
        refine seq_ ?_
        refine region_ ?_
        refine wl_valE (v := .pointer (some ⟨b3, 0, none⟩)) rfl (rf_move rfl) rfl ?_
        refine wl_valE (v := .int .i64 0) rfl (rf_move rfl) rfl ?_
        refine wl_tr H19 rfl [] (num_tr 0) rfl .nil (rf_call Try.call8 rfl rfl) rfl ?_
        rintro _ w20 _ ⟨rfl, rfl⟩ H20
        refine wl_valE (v := .int .i64 0) rfl (rf_move rfl) rfl ?_
        refine wl_valE (v := .bool true) rfl (rf_eql rfl rfl rfl rfl) (congrArg Value.bool (decide_eq_true rfl)) ?_
        refine wl_valE (v := .bool true) rfl (rf_move rfl) rfl ?_
        refine wl_guardT rfl rfl rfl rfl ?_
        refine wl_valE (v := .pointer (some ⟨bn10, 0, none⟩)) rfl (rf_move rfl) rfl ?_
        refine wl_guardT rfl rfl rfl rfl ?_
        refine wl_valE (v := .bool false) rfl (rf_eqlPN Try.underlying37 rfl rfl rfl rfl) rfl ?_
        refine wl_guardT rfl rfl rfl rfl ?_
        refine wl_valE (v := .pointer (some ⟨bn13, 0, none⟩)) rfl (rf_move rfl) rfl ?_
        refine wl_guardT rfl rfl rfl rfl ?_
        refine wl_valE (v := .bool false) rfl (rf_eqlPN Try.underlying40 rfl rfl rfl rfl) rfl ?_
        refine wl_guardT rfl rfl rfl rfl ?_
        refine wl_valE (v := .bool (decide (false = false))) rfl (rf_eqlB Try.underlying4 rfl rfl rfl rfl) rfl ?_
        refine wl_valE (v := .bool (decide (false = false))) rfl (rf_pickT rfl rfl rfl rfl) rfl ?_
        refine wl_valE (v := .pointer (some ⟨b3, 0, none⟩)) rfl (rf_assign rfl) rfl ?_
        refine wl_valE (v := .bool (decide (false = false))) rfl (rf_assign rfl) rfl ?_
        refine wl_nil ?_
        refine thn ?_
        refine ret_ ?_
        refine fin2 (v1 := .pointer (some ⟨b3, 0, none⟩)) (v2 := .bool (decide (false = false))) Try.results5 rfl rfl rfl rfl ?_
        exact ⟨_, ⟨_, rfl, rfl⟩, H20.pick' [] rfl rfl⟩
      · refine region_ ?_
        refine wl_valE (v := .pointer (some ⟨bn7, 0, none⟩)) rfl (rf_move rfl) rfl ?_
        refine wl_valE (v := .pointer (some ⟨bn5, 0, none⟩)) rfl (rf_move rfl) rfl ?_
        refine wl_valE (v := .slice oa n oc) rfl (rf_move rfl) rfl ?_
        refine wl_valE (v := .pointer (some ⟨b1, 4, none⟩)) rfl (rf_fieldAddr Try.underlying23 rfl ti3 rfl rfl) rfl ?_
        refine wl_valE (v := .int .i64 sh) rfl (rf_load Try.underlying3 rfl rfl rfl ((H9.blk 0 rfl).cell rfl)) rfl ?_
        refine wl_tr H9 rfl [] (xnewB_tr bn7 bn5 oa n oc own sh (by rw [herr_eq her]; exact hh)) rfl (.own 2 rfl slH_rd (.own 3 rfl cod_le .nil)) (rf_call Try.call12 rfl rfl) rfl ?_
        rintro _ w21 _ ⟨rfl, rfl⟩ H21
        refine wl_valE (v := .tuple #[.pointer none, .int .i64 (herr own sh)]) rfl (rf_move rfl) rfl ?_
        refine wl_valE (v := .pointer none) rfl (rf_extract rfl rfl rfl) rfl ?_
        refine wl_valE (v := .int .i64 (herr own sh)) rfl (rf_extract rfl rfl rfl) rfl ?_
        refine wl_valE (v := .pointer none) rfl (rf_assign rfl) rfl ?_
        refine wl_valE (v := .int .i64 (herr own sh)) rfl (rf_assign rfl) rfl ?_
        refine wl_nil ?_
        refine thn ?_
        refine seq_ ?_
        have H22 : St w0 S0 [rdH encProc 6 a n c lib, shH (lib.map mkC)] w21 (setH _ 3 (allH (own.map mkA))) := H21.le 3 codA_le rfl
        try dsimp only [putsH, setH, List.cons_append, List.nil_append] at H22
        refine region_ ?_
        refine wl_valE (v := .slice oa n oc) rfl (rf_move rfl) rfl ?_
        refine wl_tr H22 rfl [2, 3] (spoilLib_tr oa n oc own) rfl .nil (rf_call Try.call13 rfl rfl) rfl ?_
        rintro _ w23 _ ⟨rfl, rfl⟩ H23
        refine wl_nil ?_
        refine thn ?_
        refine seq_ ?_
        refine region_ ?_
        refine wl_valE (v := .pointer (some ⟨bn8, 0, none⟩)) rfl (rf_move rfl) rfl ?_
        refine wl_valE (v := .pointer (some ⟨bn6, 0, none⟩)) rfl (rf_move rfl) rfl ?_
        refine wl_valE (v := .slice a n c) rfl (rf_move rfl) rfl ?_
        refine wl_valE (v := .pointer (some ⟨b1, 4, none⟩)) rfl (rf_fieldAddr Try.underlying23 rfl ti3 rfl rfl) rfl ?_
        refine wl_valE (v := .int .i64 sh) rfl (rf_load Try.underlying3 rfl rfl rfl ((H23.blk 0 rfl).cell rfl)) rfl ?_
        refine wl_tr H23 rfl [] (hnewB_tr bn8 bn6 a n c lib sh hh) rfl (.ro 0 Le.rfl (.ro 1 Le.rfl .nil)) (rf_call Try.call14 rfl rfl) rfl ?_
        rintro _ w24 _ ⟨rfl, rfl⟩ H24
        refine wl_valE (v := .tuple #[.pointer none, .int .i64 (herr lib sh)]) rfl (rf_move rfl) rfl ?_
        refine wl_valE (v := .pointer none) rfl (rf_extract rfl rfl rfl) rfl ?_
        refine wl_valE (v := .int .i64 (herr lib sh)) rfl (rf_extract rfl rfl rfl) rfl ?_
        refine wl_valE (v := .pointer none) rfl (rf_assign rfl) rfl ?_
        refine wl_valE (v := .int .i64 (herr lib sh)) rfl (rf_assign rfl) rfl ?_
        refine wl_nil ?_
        refine thn ?_
        refine seq_ ?_
        refine region_ ?_
        refine wl_valE (v := .pointer (some ⟨b3, 0, none⟩)) rfl (rf_move rfl) rfl ?_
        refine wl_valE (v := .pointer (some ⟨bn5, 0, none⟩)) rfl (rf_move rfl) rfl ?_
        refine wl_valE (v := .pointer (some ⟨b3, 0, none⟩)) rfl (rf_nilCheckP rfl rfl) rfl ?_
        refine wl_valE (v := .pointer (some ⟨b3, 0, none⟩)) rfl (rf_fieldAddr Try.underlying43 rfl ti35 rfl rfl) rfl ?_
        refine wl_storeH H24 1 (v := .pointer (some ⟨bn5, 0, none⟩)) (A' := #[.pointer (some ⟨bn5, 0, none⟩), .pointer none, .pointer none, .pointer none, .pointer none, .pointer none, .slice none 0 0, .slice none 0 0]) rfl rfl ti35 rfl rfl rfl rfl rfl (ltb rfl) rfl ?_
        intro w25 H25
        refine wl_nil ?_
        refine thn ?_
        refine seq_ ?_
        refine region_ ?_
        refine wl_valE (v := .pointer (some ⟨b3, 0, none⟩)) rfl (rf_move rfl) rfl ?_
        refine wl_valE (v := .pointer (some ⟨bn7, 0, none⟩)) rfl (rf_move rfl) rfl ?_
        refine wl_valE (v := .pointer (some ⟨b3, 0, none⟩)) rfl (rf_nilCheckP rfl rfl) rfl ?_
        refine wl_valE (v := .pointer (some ⟨b3, 1, none⟩)) rfl (rf_fieldAddr Try.underlying43 rfl ti36 rfl rfl) rfl ?_
        refine wl_storeH H25 1 (v := .pointer (some ⟨bn7, 0, none⟩)) (A' := #[.pointer (some ⟨bn5, 0, none⟩), .pointer (some ⟨bn7, 0, none⟩), .pointer none, .pointer none, .pointer none, .pointer none, .slice none 0 0, .slice none 0 0]) rfl rfl ti36 rfl rfl rfl rfl rfl (ltb rfl) rfl ?_
        intro w26 H26
        refine wl_nil ?_
        refine thn ?_
        refine seq_ ?_
        refine region_ ?_
        refine wl_valE (v := .pointer (some ⟨b3, 0, none⟩)) rfl (rf_move rfl) rfl ?_
        refine wl_valE (v := .pointer none) rfl (rf_move rfl) rfl ?_
        refine wl_valE (v := .pointer (some ⟨b3, 0, none⟩)) rfl (rf_nilCheckP rfl rfl) rfl ?_
        refine wl_valE (v := .pointer (some ⟨b3, 2, none⟩)) rfl (rf_fieldAddr Try.underlying43 rfl ti37 rfl rfl) rfl ?_
        refine wl_storeH H26 1 (v := .pointer none) (A' := #[.pointer (some ⟨bn5, 0, none⟩), .pointer (some ⟨bn7, 0, none⟩), .pointer none, .pointer none, .pointer none, .pointer none, .slice none 0 0, .slice none 0 0]) rfl rfl ti37 rfl rfl rfl rfl rfl (ltb rfl) rfl ?_
        intro w27 H27
        try dsimp only [putsH, setH, List.cons_append, List.nil_append] at H27
        refine wl_nil ?_
        refine thn ?_
        refine seq_ ?_
        refine region_ ?_
        refine wl_valE (v := .pointer (some ⟨b3, 0, none⟩)) rfl (rf_move rfl) rfl ?_
        refine wl_valE (v := .pointer (some ⟨bn6, 0, none⟩)) rfl (rf_move rfl) rfl ?_
        refine wl_valE (v := .pointer (some ⟨b3, 0, none⟩)) rfl (rf_nilCheckP rfl rfl) rfl ?_
        refine wl_valE (v := .pointer (some ⟨b3, 3, none⟩)) rfl (rf_fieldAddr Try.underlying43 rfl ti38 rfl rfl) rfl ?_
        refine wl_storeH H27 1 (v := .pointer (some ⟨bn6, 0, none⟩)) (A' := #[.pointer (some ⟨bn5, 0, none⟩), .pointer (some ⟨bn7, 0, none⟩), .pointer none, .pointer (some ⟨bn6, 0, none⟩), .pointer none, .pointer none, .slice none 0 0, .slice none 0 0]) rfl rfl ti38 rfl rfl rfl rfl rfl (ltb rfl) rfl ?_
        intro w28 H28
        refine wl_nil ?_
        refine thn ?_
        refine seq_ ?_
        refine region_ ?_
        refine wl_valE (v := .pointer (some ⟨b3, 0, none⟩)) rfl (rf_move rfl) rfl ?_
        refine wl_valE (v := .pointer (some ⟨bn8, 0, none⟩)) rfl (rf_move rfl) rfl ?_
        refine wl_valE (v := .pointer (some ⟨b3, 0, none⟩)) rfl (rf_nilCheckP rfl rfl) rfl ?_
        refine wl_valE (v := .pointer (some ⟨b3, 4, none⟩)) rfl (rf_fieldAddr Try.underlying43 rfl ti39 rfl rfl) rfl ?_
        refine wl_storeH H28 1 (v := .pointer (some ⟨bn8, 0, none⟩)) (A' := #[.pointer (some ⟨bn5, 0, none⟩), .pointer (some ⟨bn7, 0, none⟩), .pointer none, .pointer (some ⟨bn6, 0, none⟩), .pointer (some ⟨bn8, 0, none⟩), .pointer none, .slice none 0 0, .slice none 0 0]) rfl rfl ti39 rfl rfl rfl rfl rfl (ltb rfl) rfl ?_
        intro w29 H29
        refine wl_nil ?_
        refine thn ?_
        refine seq_ ?_
        refine region_ ?_
        refine wl_valE (v := .pointer (some ⟨b3, 0, none⟩)) rfl (rf_move rfl) rfl ?_
        refine wl_valE (v := .pointer none) rfl (rf_move rfl) rfl ?_
        refine wl_valE (v := .pointer (some ⟨b3, 0, none⟩)) rfl (rf_nilCheckP rfl rfl) rfl ?_
        refine wl_valE (v := .pointer (some ⟨b3, 5, none⟩)) rfl (rf_fieldAddr Try.underlying43 rfl ti40 rfl rfl) rfl ?_
        refine wl_storeH H29 1 (v := .pointer none) (A' := #[.pointer (some ⟨bn5, 0, none⟩), .pointer (some ⟨bn7, 0, none⟩), .pointer none, .pointer (some ⟨bn6, 0, none⟩), .pointer (some ⟨bn8, 0, none⟩), .pointer none, .slice none 0 0, .slice none 0 0]) rfl rfl ti40 rfl rfl rfl rfl rfl (ltb rfl) rfl ?_
        intro w30 H30
        refine wl_nil ?_
        refine thn ?_
        refine seq_ ?_
        refine region_ ?_
        refine wl_valE (v := .pointer (some ⟨b3, 0, none⟩)) rfl (rf_move rfl) rfl ?_
        refine wl_valE (v := .int .i64 (herr own sh)) rfl (rf_move rfl) rfl ?_
        refine wl_tr H30 rfl [] (num_tr (herr own sh)) rfl .nil (rf_call Try.call8 rfl rfl) rfl ?_
        rintro _ w31 _ ⟨rfl, rfl⟩ H31
        refine wl_valE (v := .int .i64 (herr lib sh)) rfl (rf_move rfl) rfl ?_
        refine wl_valE (v := .bool true) rfl (rf_eql rfl rfl rfl rfl) (congrArg Value.bool (decide_eq_true (herr_eq her _))) ?_
        refine wl_valE (v := .bool true) rfl (rf_move rfl) rfl ?_
        refine wl_guardT rfl rfl rfl rfl ?_
        refine wl_valE (v := .pointer none) rfl (rf_move rfl) rfl ?_
        refine wl_guardT rfl rfl rfl rfl ?_
        refine wl_valE (v := .bool true) rfl (rf_eqlPN Try.underlying37 rfl rfl rfl rfl) rfl ?_
        refine wl_guardT rfl rfl rfl rfl ?_
        refine wl_valE (v := .pointer none) rfl (rf_move rfl) rfl ?_
        refine wl_guardT rfl rfl rfl rfl ?_
        refine wl_valE (v := .bool true) rfl (rf_eqlPN Try.underlying40 rfl rfl rfl rfl) rfl ?_
        refine wl_guardT rfl rfl rfl rfl ?_
        refine wl_valE (v := .bool (decide (true = true))) rfl (rf_eqlB Try.underlying4 rfl rfl rfl rfl) rfl ?_
        refine wl_valE (v := .bool (decide (true = true))) rfl (rf_pickT rfl rfl rfl rfl) rfl ?_
        refine wl_valE (v := .pointer (some ⟨b3, 0, none⟩)) rfl (rf_assign rfl) rfl ?_
        refine wl_valE (v := .bool (decide (true = true))) rfl (rf_assign rfl) rfl ?_
        refine wl_nil ?_
        refine thn ?_
        refine ret_ ?_
        refine fin2 (v1 := .pointer (some ⟨b3, 0, none⟩)) (v2 := .bool (decide (true = true))) Try.results5 rfl rfl rfl rfl ?_
        exact ⟨_, ⟨_, rfl, rfl⟩, H31.pick' [] rfl rfl⟩
    · refine region_ ?_
      refine wl_valE (v := .pointer (some ⟨bn5, 0, none⟩)) rfl (rf_move rfl) rfl ?_
      refine wl_valE (v := .pointer (some ⟨b1, 2, none⟩)) rfl (rf_fieldAddr Try.underlying23 rfl ti3 rfl rfl) rfl ?_
      refine wl_valE (v := .int .i64 sw) rfl (rf_load Try.underlying3 rfl rfl rfl ((H6.blk 0 rfl).cell rfl)) rfl ?_
      refine wl_valE (v := .pointer (some ⟨b1, 3, none⟩)) rfl (rf_fieldAddr Try.underlying23 rfl ti3 rfl rfl) rfl ?_
      refine wl_valE (v := .int .i64 sa) rfl (rf_load Try.underlying3 rfl rfl rfl ((H6.blk 0 rfl).cell rfl)) rfl ?_
      refine wl_tr H6 rfl [] (cnewB_tr bn5 sw sa hW) rfl .nil (rf_call Try.call9 rfl rfl) rfl ?_
      rintro _ w32 _ ⟨rfl, rfl⟩ H32
      refine wl_valE (v := .tuple #[.pointer none, .int .i64 (werr sw)]) rfl (rf_move rfl) rfl ?_
      refine wl_valE (v := .pointer none) rfl (rf_extract rfl rfl rfl) rfl ?_
      refine wl_valE (v := .int .i64 (werr sw)) rfl (rf_extract rfl rfl rfl) rfl ?_
      refine wl_valE (v := .pointer none) rfl (rf_assign rfl) rfl ?_
      refine wl_valE (v := .int .i64 (werr sw)) rfl (rf_assign rfl) rfl ?_
      refine wl_nil ?_
      refine thn ?_
      refine seq_ ?_
      refine region_ ?_
      refine wl_valE (v := .pointer (some ⟨bn6, 0, none⟩)) rfl (rf_move rfl) rfl ?_
      refine wl_valE (v := .pointer (some ⟨b1, 2, none⟩)) rfl (rf_fieldAddr Try.underlying23 rfl ti3 rfl rfl) rfl ?_
      refine wl_valE (v := .int .i64 sw) rfl (rf_load Try.underlying3 rfl rfl rfl ((H32.blk 0 rfl).cell rfl)) rfl ?_
      refine wl_valE (v := .pointer (some ⟨b1, 3, none⟩)) rfl (rf_fieldAddr Try.underlying23 rfl ti3 rfl rfl) rfl ?_
      refine wl_valE (v := .int .i64 sa) rfl (rf_load Try.underlying3 rfl rfl rfl ((H32.blk 0 rfl).cell rfl)) rfl ?_
      refine wl_tr H32 rfl [] (bnewB_tr bn6 sw sa hW) rfl .nil (rf_call Try.call10 rfl rfl) rfl ?_
      rintro _ w33 _ ⟨rfl, rfl⟩ H33
      refine wl_valE (v := .tuple #[.pointer none, .int .i64 (werr sw)]) rfl (rf_move rfl) rfl ?_
      refine wl_valE (v := .pointer none) rfl (rf_extract rfl rfl rfl) rfl ?_
      refine wl_valE (v := .int .i64 (werr sw)) rfl (rf_extract rfl rfl rfl) rfl ?_
      refine wl_valE (v := .pointer none) rfl (rf_assign rfl) rfl ?_
      refine wl_valE (v := .int .i64 (werr sw)) rfl (rf_assign rfl) rfl ?_
      refine wl_nil ?_
      refine thn ?_
      refine seq_ ?_
      refine seq_ ?_
      refine region_ ?_
      refine wl_valE (v := .pointer none) rfl (rf_move rfl) rfl ?_
      refine wl_valE (v := .bool true) rfl (rf_eqlPN Try.underlying36 rfl rfl rfl rfl) rfl ?_
      refine wl_valE (v := .bool true) rfl (rf_move rfl) rfl ?_
      refine wl_guardF rfl rfl rfl rfl ?_
      refine wl_guardF rfl rfl rfl rfl ?_
      refine wl_valE (v := .bool true) rfl (rf_pickT rfl rfl rfl rfl) rfl ?_
      refine wl_nil ?_
      refine thn ?_
      refine condT rfl rfl ?_
      refine seq_ ?_
      refine region_ ?_
      refine wl_valE (v := .pointer (some ⟨b3, 0, none⟩)) rfl (rf_move rfl) rfl ?_
      refine wl_valE (v := .int .i64 (werr sw)) rfl (rf_move rfl) rfl ?_
      refine wl_tr H33 rfl [] (num_tr (werr sw)) rfl .nil (rf_call Try.call8 rfl rfl) rfl ?_
      rintro _ w34 _ ⟨rfl, rfl⟩ H34
      refine wl_valE (v := .int .i64 (werr sw)) rfl (rf_move rfl) rfl ?_
      refine wl_valE (v := .bool true) rfl (rf_eql rfl rfl rfl rfl) (congrArg Value.bool (decide_eq_true rfl)) ?_
      refine wl_valE (v := .bool true) rfl (rf_move rfl) rfl ?_
      refine wl_guardT rfl rfl rfl rfl ?_
      refine wl_valE (v := .pointer none) rfl (rf_move rfl) rfl ?_
      refine wl_guardT rfl rfl rfl rfl ?_
      refine wl_valE (v := .bool true) rfl (rf_eqlPN Try.underlying36 rfl rfl rfl rfl) rfl ?_
      refine wl_valE (v := .bool true) rfl (rf_pickT rfl rfl rfl rfl) rfl ?_
      refine wl_valE (v := .bool true) rfl (rf_move rfl) rfl ?_
      refine wl_guardT rfl rfl rfl rfl ?_
      refine wl_valE (v := .pointer none) rfl (rf_move rfl) rfl ?_
      refine wl_guardT rfl rfl rfl rfl ?_
      refine wl_valE (v := .bool true) rfl (rf_eqlPN Try.underlying39 rfl rfl rfl rfl) rfl ?_
      refine wl_valE (v := .bool true) rfl (rf_pickT rfl rfl rfl rfl) rfl ?_
      refine wl_valE (v := .pointer (some ⟨b3, 0, none⟩)) rfl (rf_assign rfl) rfl ?_
      refine wl_valE (v := .bool true) rfl (rf_assign rfl) rfl ?_
      refine wl_nil ?_
      refine thn ?_
      refine ret_ ?_
      refine thr ?_
      refine fin2 (v1 := .pointer (some ⟨b3, 0, none⟩)) (v2 := .bool true) Try.results5 rfl rfl rfl rfl ?_
      exact ⟨_, ⟨_, rfl, rfl⟩, H34.pick' [] rfl rfl⟩
  · refine region_ ?_
    refine wl_valE (v := .pointer (some ⟨b1, 0, none⟩)) rfl (rf_fieldAddr Try.underlying23 rfl ti3 rfl rfl) rfl ?_
    refine wl_valE (v := .int .i64 sp) rfl (rf_load Try.underlying3 rfl rfl rfl ((H4.blk 0 rfl).cell rfl)) rfl ?_
    refine wl_valE (v := .pointer (some ⟨b1, 1, none⟩)) rfl (rf_fieldAddr Try.underlying23 rfl ti3 rfl rfl) rfl ?_
    refine wl_valE (v := .int .i64 sc) rfl (rf_load Try.underlying3 rfl rfl rfl ((H4.blk 0 rfl).cell rfl)) rfl ?_
    refine wl_tr H4 rfl [] (snewB_tr sp sc hS) rfl .nil (rf_call Try.call6 rfl rfl) rfl ?_
    rintro _ w35 _ ⟨rfl, rfl⟩ H35
    refine wl_valE (v := .tuple #[.pointer none, .int .i64 (nerr sp)]) rfl (rf_move rfl) rfl ?_
    refine wl_valE (v := .pointer none) rfl (rf_extract rfl rfl rfl) rfl ?_
    refine wl_valE (v := .int .i64 (nerr sp)) rfl (rf_extract rfl rfl rfl) rfl ?_
    refine wl_valE (v := .pointer none) rfl (rf_assign rfl) rfl ?_
    refine wl_valE (v := .int .i64 (nerr sp)) rfl (rf_assign rfl) rfl ?_
    refine wl_nil ?_
    refine thn ?_
    refine seq_ ?_
    refine region_ ?_
    refine wl_valE (v := .pointer (some ⟨b1, 0, none⟩)) rfl (rf_fieldAddr Try.underlying23 rfl ti3 rfl rfl) rfl ?_
    refine wl_valE (v := .int .i64 sp) rfl (rf_load Try.underlying3 rfl rfl rfl ((H35.blk 0 rfl).cell rfl)) rfl ?_
    refine wl_valE (v := .pointer (some ⟨b1, 1, none⟩)) rfl (rf_fieldAddr Try.underlying23 rfl ti3 rfl rfl) rfl ?_
    refine wl_valE (v := .int .i64 sc) rfl (rf_load Try.underlying3 rfl rfl rfl ((H35.blk 0 rfl).cell rfl)) rfl ?_
    refine wl_tr H35 rfl [] (rnewB_tr sp sc hS) rfl .nil (rf_call Try.call7 rfl rfl) rfl ?_
    rintro _ w36 _ ⟨rfl, rfl⟩ H36
    refine wl_valE (v := .tuple #[.pointer none, .int .i64 (nerr sp)]) rfl (rf_move rfl) rfl ?_
    refine wl_valE (v := .pointer none) rfl (rf_extract rfl rfl rfl) rfl ?_
    refine wl_valE (v := .int .i64 (nerr sp)) rfl (rf_extract rfl rfl rfl) rfl ?_
    refine wl_valE (v := .pointer none) rfl (rf_assign rfl) rfl ?_
    refine wl_valE (v := .int .i64 (nerr sp)) rfl (rf_assign rfl) rfl ?_
    refine wl_nil ?_
    refine thn ?_
    refine seq_ ?_
    refine seq_ ?_
    refine region_ ?_
    refine wl_valE (v := .pointer none) rfl (rf_move rfl) rfl ?_
    refine wl_valE (v := .bool true) rfl (rf_eqlPN Try.underlying35 rfl rfl rfl rfl) rfl ?_
    refine wl_valE (v := .bool true) rfl (rf_move rfl) rfl ?_
    refine wl_guardF rfl rfl rfl rfl ?_
    refine wl_guardF rfl rfl rfl rfl ?_
    refine wl_valE (v := .bool true) rfl (rf_pickT rfl rfl rfl rfl) rfl ?_
    refine wl_nil ?_
    refine thn ?_
    refine condT rfl rfl ?_
    refine seq_ ?_
    refine region_ ?_
    refine wl_valE (v := .pointer (some ⟨b3, 0, none⟩)) rfl (rf_move rfl) rfl ?_
    refine wl_valE (v := .int .i64 (nerr sp)) rfl (rf_move rfl) rfl ?_
    refine wl_tr H36 rfl [] (num_tr (nerr sp)) rfl .nil (rf_call Try.call8 rfl rfl) rfl ?_
    rintro _ w37 _ ⟨rfl, rfl⟩ H37
    refine wl_valE (v := .int .i64 (nerr sp)) rfl (rf_move rfl) rfl ?_
    refine wl_valE (v := .bool true) rfl (rf_eql rfl rfl rfl rfl) (congrArg Value.bool (decide_eq_true rfl)) ?_
    refine wl_valE (v := .bool true) rfl (rf_move rfl) rfl ?_
    refine wl_guardT rfl rfl rfl rfl ?_
    refine wl_valE (v := .pointer none) rfl (rf_move rfl) rfl ?_
    refine wl_guardT rfl rfl rfl rfl ?_
    refine wl_valE (v := .bool true) rfl (rf_eqlPN Try.underlying35 rfl rfl rfl rfl) rfl ?_
    refine wl_valE (v := .bool true) rfl (rf_pickT rfl rfl rfl rfl) rfl ?_
    refine wl_valE (v := .bool true) rfl (rf_move rfl) rfl ?_
    refine wl_guardT rfl rfl rfl rfl ?_
    refine wl_valE (v := .pointer none) rfl (rf_move rfl) rfl ?_
    refine wl_guardT rfl rfl rfl rfl ?_
    refine wl_valE (v := .bool true) rfl (rf_eqlPN Try.underlying38 rfl rfl rfl rfl) rfl ?_
    refine wl_valE (v := .bool true) rfl (rf_pickT rfl rfl rfl rfl) rfl ?_
    refine wl_valE (v := .pointer (some ⟨b3, 0, none⟩)) rfl (rf_assign rfl) rfl ?_
    refine wl_valE (v := .bool true) rfl (rf_assign rfl) rfl ?_
    refine wl_nil ?_
    refine thn ?_
    refine ret_ ?_
    refine thr ?_
    refine fin2 (v1 := .pointer (some ⟨b3, 0, none⟩)) (v2 := .bool true) Try.results5 rfl rfl rfl rfl ?_
    exact ⟨_, ⟨_, rfl, rfl⟩, H37.pick' [] rfl rfl⟩
theorem makes_tr (sp sc sw sa sh : Int) (a : Option Addr) (n c : Nat) (lib : List ProcR) (hn : n ≤ 140737488351232) (hs : ∀ x ∈ lib, x.name.size ≤ 140737488351232 ∧ x.prog.code.n ≤ 140737488351232) : Tr Try.prog 3 [.agg #[.int .i64 sp, .int .i64 sc, .int .i64 sw, .int .i64 sa, .int .i64 sh], .slice a n c] [rdH encProc 6 a n c lib, shH (lib.map mkC)] [] (fun v m => v = .bool true) := by
  intro w0 S0 H0
  refine enterR Try.func3 rfl Try.ntmps3 rfl ?_
  intro g0
  refine seq_ ?_
  refine region_ ?_
  refine wl_boxH H0 (v := .agg #[.int .i64 sp, .int .i64 sc, .int .i64 sw, .int .i64 sa, .int .i64 sh]) rfl rfl ?_
  intro b1 w2 H2
  refine wl_valE (v := .bool false) rfl (rf_assign rfl) rfl ?_
  refine wl_nil ?_
  refine thn ?_
  refine seq_ ?_
  refine seq_ ?_
  refine region_ ?_
  refine wl_valE (v := .slice a n c) rfl (rf_move rfl) rfl ?_
  refine wl_tr H2 rfl [] (parts_tr a n c lib hn hs) rfl (.ro 0 Le.rfl .nil) (rf_call Try.call4 rfl rfl) rfl ?_
  rintro _ w3 _ ⟨yp, rfl, hyp, rfl⟩ H3
  refine wl_valE (v := .bool (decide (yp < (0 : Int)))) rfl (rf_lss rfl rfl rfl rfl) rfl ?_
  refine wl_nil ?_
  refine thn ?_
  refine cond_ (t := decide (yp < (0 : Int))) rfl rfl (fun c9 => ?_) (fun c9 => ?_)
  · have c9p := of_decide_eq_true c9
    refine seq_ ?_
    refine region_ ?_
    refine wl_valE (v := .bool true) rfl (rf_assign rfl) rfl ?_
    refine wl_nil ?_
    refine thn ?_
    refine ret_ ?_
    refine thr ?_
    refine fin1 (v := .bool true) Try.results3 rfl rfl ?_
    exact ⟨_, rfl, H3.pick' [] rfl rfl⟩
  · have c9p := of_decide_eq_false c9
    have hyb := hyp (by omega)
    refine skip_ ?_
    refine thn ?_
    refine seq_ ?_
    refine region_ ?_
    refine wl_valE (v := .agg #[.int .i64 sp, .int .i64 sc, .int .i64 sw, .int .i64 sa, .int .i64 sh]) rfl (rf_loadBlk Try.underlying23 rfl ti23 rfl rfl (H3.blk 0 rfl) (leb rfl)) rfl ?_
    refine wl_valE (v := .slice a n c) rfl (rf_move rfl) rfl ?_
    refine wl_tr H3 rfl [] (made_tr sp sc sw sa sh a n c lib (by omega) (fun x hx => Nat.le_trans (hyb.2 x hx) (by decide))) rfl (.ro 0 Le.rfl (.ro 1 Le.rfl .nil)) (rf_call Try.call5 rfl rfl) rfl ?_
    rintro _ w4 _ ⟨xm, rfl, rfl⟩ H4
    refine wl_valE (v := .tuple #[xm, .bool true]) rfl (rf_move rfl) rfl ?_
    refine wl_valE (v := xm) rfl (rf_extract rfl rfl rfl) rfl ?_
    refine wl_valE (v := .bool true) rfl (rf_extract rfl rfl rfl) rfl ?_
    refine wl_valE (v := xm) rfl (rf_assign rfl) rfl ?_
    refine wl_valE (v := .bool true) rfl (rf_assign rfl) rfl ?_
    refine wl_nil ?_
    refine thn ?_
    refine seq_ ?_
    refine region_ ?_
    refine wl_valE (v := .bool true) rfl (rf_move rfl) rfl ?_
    refine wl_valE (v := .bool true) rfl (rf_assign rfl) rfl ?_
    refine wl_nil ?_
    refine thn ?_
    refine ret_ ?_
    refine fin1 (v := .bool true) Try.results3 rfl rfl ?_
    exact ⟨_, rfl, H4.pick' [] rfl rfl⟩
end Go.Proofs.Ytphllgfbjfajfaa.W
