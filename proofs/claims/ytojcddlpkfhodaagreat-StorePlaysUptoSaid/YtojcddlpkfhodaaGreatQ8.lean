import Derived.Test.YtojcddlpkfhodaaGreatQ7
import Derived.KernelRfl
namespace Go.Proofs.YtojcddlpkfhodaaGreat.W
open Go Go.Wk
set_option linter.unusedVariables false
set_option linter.unusedSimpArgs false

theorem ins_last (st : StS) (k : Key) (b i : Int) : (insS st k b i).last ≤ st.last + 1 := by
  unfold insS
  split
  · exact Int.le_refl _
  · omega
theorem rem_last (st : StS) (v : Int) : (remS st v).last ≤ st.last + 1 := by
  unfold remS
  split
  · show st.last ≤ st.last + 1; omega
  · omega
theorem fil_last (st : StS) (v : Int) (c : Cell) : (filS st v c).last ≤ st.last + 1 := by
  unfold filS
  split
  · split
    · omega
    · show st.last ≤ st.last + 1; omega
  · omega
theorem changed_tr (s rb : Nat) (st : StS) (x : RS) (o : OpR) (hr : Rel st x) (hll : st.last ≤ 2097152) : Tr Tryz.prog 6 [.pointer (some ⟨s, 0, none⟩), .pointer (some ⟨rb, 0, none⟩), .agg #[.int .i64 o.kind, .int .i64 o.key.table, .int .i64 o.key.row, .int .i64 o.batch, .int .i64 o.index, .int .i64 o.v, .int .i64 o.n, .bool o.cell.is_, .int .i64 o.cell.value, .bool o.two]] [] [stoH s st, rfH rb x] (fun v m => ∃ st2 x2, Rel st2 x2 ∧ st2.last ≤ st.last + 1 ∧ v = .bool true ∧ m = [stoH s st2, rfH rb x2]) := by
  intro w0 S0 H0
  have hal : x.all.length ≤ 65536 := by have := hr.lroom; have := hr.cc; omega
  have hlive := hr.live
  have hroom := hr.room
  have hcc := hr.cc
  have hlst0 := hr.inv.last0
  refine enterR Tryz.func6 rfl Tryz.ntmps6 rfl ?_
  intro g0
  refine seq_ ?_
  refine region_ ?_
  refine wl_boxH H0 (v := .agg #[.int .i64 o.kind, .int .i64 o.key.table, .int .i64 o.key.row, .int .i64 o.batch, .int .i64 o.index, .int .i64 o.v, .int .i64 o.n, .bool o.cell.is_, .int .i64 o.cell.value, .bool o.two]) rfl rfl ?_
  intro b1 w2 H2
  refine wl_valE (v := .bool false) rfl (rf_assign rfl) rfl ?_
  refine wl_nil ?_
  refine thn ?_
  refine seq_ ?_
  refine seq_ ?_
  refine region_ ?_
  refine wl_valE (v := .pointer (some ⟨b1, 0, none⟩)) rfl (rf_fieldAddr Tryz.underlying45 rfl ti3 rfl rfl) rfl ?_
  refine wl_valE (v := .int .i64 o.kind) rfl (rf_load Tryz.underlying3 rfl rfl rfl ((H2.blk 2 rfl).cell rfl)) rfl ?_
  refine wl_nil ?_
  refine thn ?_
  refine block_ ?_
  refine seq_ ?_
  refine region_ ?_
  refine wl_valE (v := .bool (decide (o.kind = (1 : Int)))) rfl (rf_eql rfl rfl rfl rfl) rfl ?_
  refine wl_valE (v := .bool (decide (o.kind = (1 : Int)))) rfl (rf_assign rfl) rfl ?_
  refine wl_nil ?_
  refine thn ?_
  refine cond_ (t := decide (o.kind = (1 : Int))) rfl rfl (fun c15 => ?_) (fun c15 => ?_)
  · have c15p := of_decide_eq_true c15
    refine seq_ ?_
    refine region_ ?_
    refine wl_valE (v := .pointer (some ⟨s, 0, none⟩)) rfl (rf_move rfl) rfl ?_
    refine wl_valE (v := .pointer (some ⟨b1, 1, none⟩)) rfl (rf_fieldAddr Tryz.underlying45 rfl ti41 rfl rfl) rfl ?_
    refine wl_valE (v := .agg #[.int .i64 o.key.table, .int .i64 o.key.row]) rfl (rf_loadBlk Tryz.underlying41 rfl ti41 rfl rfl (H2.blk 2 rfl) (leb rfl)) rfl ?_
    refine wl_valE (v := .pointer (some ⟨b1, 3, none⟩)) rfl (rf_fieldAddr Tryz.underlying45 rfl ti3 rfl rfl) rfl ?_
    refine wl_valE (v := .int .i64 o.batch) rfl (rf_load Tryz.underlying3 rfl rfl rfl ((H2.blk 2 rfl).cell rfl)) rfl ?_
    refine wl_valE (v := .pointer (some ⟨b1, 4, none⟩)) rfl (rf_fieldAddr Tryz.underlying45 rfl ti3 rfl rfl) rfl ?_
    refine wl_valE (v := .int .i64 o.index) rfl (rf_load Tryz.underlying3 rfl rfl rfl ((H2.blk 2 rfl).cell rfl)) rfl ?_
    refine wl_tr H2 rfl [0] (insert_tr o.key o.batch o.index (by omega)) rfl .nil (rf_call Tryz.call12 rfl rfl) rfl ?_
    rintro _ w3 _ ⟨rfl, rfl⟩ H3
    refine wl_valE (v := .tuple #[.int .i64 (if insErr st o.key o.batch o.index = 0 then st.last + 1 else 0), .int .i64 (insErr st o.key o.batch o.index)]) rfl (rf_move rfl) rfl ?_
    refine wl_valE (v := .int .i64 (if insErr st o.key o.batch o.index = 0 then st.last + 1 else 0)) rfl (rf_extract rfl rfl rfl) rfl ?_
    refine wl_valE (v := .int .i64 (insErr st o.key o.batch o.index)) rfl (rf_extract rfl rfl rfl) rfl ?_
    refine wl_valE (v := .int .i64 (if insErr st o.key o.batch o.index = 0 then st.last + 1 else 0)) rfl (rf_assign rfl) rfl ?_
    refine wl_valE (v := .int .i64 (insErr st o.key o.batch o.index)) rfl (rf_assign rfl) rfl ?_
    refine wl_nil ?_
    refine thn ?_
    refine seq_ ?_
    refine region_ ?_
    refine wl_valE (v := .pointer (some ⟨rb, 0, none⟩)) rfl (rf_move rfl) rfl ?_
    refine wl_valE (v := .pointer (some ⟨b1, 1, none⟩)) rfl (rf_fieldAddr Tryz.underlying45 rfl ti41 rfl rfl) rfl ?_
    refine wl_valE (v := .agg #[.int .i64 o.key.table, .int .i64 o.key.row]) rfl (rf_loadBlk Tryz.underlying41 rfl ti41 rfl rfl (H3.blk 2 rfl) (leb rfl)) rfl ?_
    refine wl_valE (v := .pointer (some ⟨b1, 3, none⟩)) rfl (rf_fieldAddr Tryz.underlying45 rfl ti3 rfl rfl) rfl ?_
    refine wl_valE (v := .int .i64 o.batch) rfl (rf_load Tryz.underlying3 rfl rfl rfl ((H3.blk 2 rfl).cell rfl)) rfl ?_
    refine wl_valE (v := .pointer (some ⟨b1, 4, none⟩)) rfl (rf_fieldAddr Tryz.underlying45 rfl ti3 rfl rfl) rfl ?_
    refine wl_valE (v := .int .i64 o.index) rfl (rf_load Tryz.underlying3 rfl rfl rfl ((H3.blk 2 rfl).cell rfl)) rfl ?_
    refine wl_tr H3 rfl [1] (insert9_tr rb x st hr hal o.key o.batch o.index (by omega)) rfl .nil (rf_call Tryz.call13 rfl rfl) rfl ?_
    rintro _ w4 _ ⟨x2, hr2, rfl, rfl⟩ H4
    refine wl_valE (v := .tuple #[.int .i64 (if insErr st o.key o.batch o.index = 0 then st.last + 1 else 0), .int .i64 (insErr st o.key o.batch o.index)]) rfl (rf_move rfl) rfl ?_
    refine wl_valE (v := .int .i64 (if insErr st o.key o.batch o.index = 0 then st.last + 1 else 0)) rfl (rf_extract rfl rfl rfl) rfl ?_
    refine wl_valE (v := .int .i64 (insErr st o.key o.batch o.index)) rfl (rf_extract rfl rfl rfl) rfl ?_
    refine wl_valE (v := .int .i64 (if insErr st o.key o.batch o.index = 0 then st.last + 1 else 0)) rfl (rf_assign rfl) rfl ?_
    refine wl_valE (v := .int .i64 (insErr st o.key o.batch o.index)) rfl (rf_assign rfl) rfl ?_
    refine wl_nil ?_
    refine thn ?_
    refine seq_ ?_
    refine region_ ?_
    refine wl_valE (v := .int .i64 (if insErr st o.key o.batch o.index = 0 then st.last + 1 else 0)) rfl (rf_move rfl) rfl ?_
    refine wl_valE (v := .int .i64 (if insErr st o.key o.batch o.index = 0 then st.last + 1 else 0)) rfl (rf_move rfl) rfl ?_
    refine wl_valE (v := .bool true) rfl (rf_eql rfl rfl rfl rfl) (congrArg Value.bool (by simp)) ?_
    refine wl_valE (v := .bool true) rfl (rf_move rfl) rfl ?_
    refine wl_guardT rfl rfl rfl rfl ?_
    refine wl_valE (v := .int .i64 (insErr st o.key o.batch o.index)) rfl (rf_move rfl) rfl ?_
    refine wl_guardT rfl rfl rfl rfl ?_
    refine wl_valE (v := .int .i64 (insErr st o.key o.batch o.index)) rfl (rf_move rfl) rfl ?_
    refine wl_guardT rfl rfl rfl rfl ?_
    refine wl_valE (v := .bool true) rfl (rf_eql rfl rfl rfl rfl) (congrArg Value.bool (by simp)) ?_
    refine wl_valE (v := .bool true) rfl (rf_pickT rfl rfl rfl rfl) rfl ?_
    refine wl_valE (v := .bool true) rfl (rf_assign rfl) rfl ?_
    refine wl_nil ?_
    refine thn ?_
    refine ret_ ?_
    refine blr (thr ?_)
    refine fin1 (v := .bool true) Tryz.results6 rfl rfl ?_
    exact ⟨_, ⟨_, x2, hr2, ins_last _ _ _ _, rfl, rfl⟩, H4.pick' [0, 1] rfl rfl⟩
  · have c15p := of_decide_eq_false c15
    refine seq_ ?_
    refine region_ ?_
    refine wl_valE (v := .bool (decide (o.kind = (2 : Int)))) rfl (rf_eql rfl rfl rfl rfl) rfl ?_
    refine wl_valE (v := .bool (decide (o.kind = (2 : Int)))) rfl (rf_assign rfl) rfl ?_
    refine wl_nil ?_
    refine thn ?_
    refine cond_ (t := decide (o.kind = (2 : Int))) rfl rfl (fun c47 => ?_) (fun c47 => ?_)
    · have c47p := of_decide_eq_true c47
      refine seq_ ?_
      refine region_ ?_
      refine wl_valE (v := .pointer (some ⟨s, 0, none⟩)) rfl (rf_move rfl) rfl ?_
      refine wl_valE (v := .pointer (some ⟨b1, 5, none⟩)) rfl (rf_fieldAddr Tryz.underlying45 rfl ti3 rfl rfl) rfl ?_
      refine wl_valE (v := .int .i64 o.v) rfl (rf_load Tryz.underlying3 rfl rfl rfl ((H2.blk 2 rfl).cell rfl)) rfl ?_
      refine wl_valE (v := .pointer (some ⟨b1, 7, none⟩)) rfl (rf_fieldAddr Tryz.underlying45 rfl ti43 rfl rfl) rfl ?_
      refine wl_valE (v := .agg #[.bool o.cell.is_, .int .i64 o.cell.value]) rfl (rf_loadBlk Tryz.underlying43 rfl ti43 rfl rfl (H2.blk 2 rfl) (leb rfl)) rfl ?_
      refine wl_tr H2 rfl [0] (fill_tr o.v o.cell) rfl .nil (rf_call Tryz.call14 rfl rfl) rfl ?_
      rintro _ w5 _ ⟨rfl, rfl⟩ H5
      refine wl_valE (v := .int .i64 (filE st o.v)) rfl (rf_assign rfl) rfl ?_
      refine wl_nil ?_
      refine thn ?_
      refine seq_ ?_
      refine region_ ?_
      refine wl_valE (v := .int .i64 (filE st o.v)) rfl (rf_move rfl) rfl ?_
      refine wl_valE (v := .pointer (some ⟨rb, 0, none⟩)) rfl (rf_move rfl) rfl ?_
      refine wl_valE (v := .pointer (some ⟨b1, 5, none⟩)) rfl (rf_fieldAddr Tryz.underlying45 rfl ti3 rfl rfl) rfl ?_
      refine wl_valE (v := .int .i64 o.v) rfl (rf_load Tryz.underlying3 rfl rfl rfl ((H5.blk 2 rfl).cell rfl)) rfl ?_
      refine wl_valE (v := .pointer (some ⟨b1, 7, none⟩)) rfl (rf_fieldAddr Tryz.underlying45 rfl ti43 rfl rfl) rfl ?_
      refine wl_valE (v := .agg #[.bool o.cell.is_, .int .i64 o.cell.value]) rfl (rf_loadBlk Tryz.underlying43 rfl ti43 rfl rfl (H5.blk 2 rfl) (leb rfl)) rfl ?_
      refine wl_tr H5 rfl [1] (fill9_tr rb x st hr hal o.v o.cell) rfl .nil (rf_call Tryz.call15 rfl rfl) rfl ?_
      rintro _ w6 _ ⟨x2, hr2, rfl, rfl⟩ H6
      refine wl_valE (v := .bool true) rfl (rf_eql rfl rfl rfl rfl) (congrArg Value.bool (by simp)) ?_
      refine wl_valE (v := .bool true) rfl (rf_assign rfl) rfl ?_
      refine wl_nil ?_
      refine thn ?_
      refine ret_ ?_
      refine blr (thr ?_)
      refine fin1 (v := .bool true) Tryz.results6 rfl rfl ?_
      exact ⟨_, ⟨_, x2, hr2, fil_last _ _ _, rfl, rfl⟩, H6.pick' [0, 1] rfl rfl⟩
    · have c47p := of_decide_eq_false c47
      refine seq_ ?_
      refine region_ ?_
      refine wl_valE (v := .bool (decide (o.kind = (3 : Int)))) rfl (rf_eql rfl rfl rfl rfl) rfl ?_
      refine wl_valE (v := .bool (decide (o.kind = (3 : Int)))) rfl (rf_assign rfl) rfl ?_
      refine wl_nil ?_
      refine thn ?_
      refine cond_ (t := decide (o.kind = (3 : Int))) rfl rfl (fun c63 => ?_) (fun c63 => ?_)
      · have c63p := of_decide_eq_true c63
        refine seq_ ?_
        refine region_ ?_
        refine wl_valE (v := .pointer (some ⟨s, 0, none⟩)) rfl (rf_move rfl) rfl ?_
        refine wl_valE (v := .pointer (some ⟨b1, 5, none⟩)) rfl (rf_fieldAddr Tryz.underlying45 rfl ti3 rfl rfl) rfl ?_
        refine wl_valE (v := .int .i64 o.v) rfl (rf_load Tryz.underlying3 rfl rfl rfl ((H2.blk 2 rfl).cell rfl)) rfl ?_
        refine wl_tr H2 rfl [0] (remove_tr o.v (by omega)) rfl .nil (rf_call Tryz.call16 rfl rfl) rfl ?_
        rintro _ w7 _ ⟨rfl, rfl⟩ H7
        refine wl_valE (v := .int .i64 (refE st o.v)) rfl (rf_assign rfl) rfl ?_
        refine wl_nil ?_
        refine thn ?_
        refine seq_ ?_
        refine region_ ?_
        refine wl_valE (v := .int .i64 (refE st o.v)) rfl (rf_move rfl) rfl ?_
        refine wl_valE (v := .pointer (some ⟨rb, 0, none⟩)) rfl (rf_move rfl) rfl ?_
        refine wl_valE (v := .pointer (some ⟨b1, 5, none⟩)) rfl (rf_fieldAddr Tryz.underlying45 rfl ti3 rfl rfl) rfl ?_
        refine wl_valE (v := .int .i64 o.v) rfl (rf_load Tryz.underlying3 rfl rfl rfl ((H7.blk 2 rfl).cell rfl)) rfl ?_
        refine wl_tr H7 rfl [1] (remove9_tr rb x st hr hal o.v) rfl .nil (rf_call Tryz.call17 rfl rfl) rfl ?_
        rintro _ w8 _ ⟨x2, hr2, rfl, rfl⟩ H8
        refine wl_valE (v := .bool true) rfl (rf_eql rfl rfl rfl rfl) (congrArg Value.bool (by simp)) ?_
        refine wl_valE (v := .bool true) rfl (rf_assign rfl) rfl ?_
        refine wl_nil ?_
        refine thn ?_
        refine ret_ ?_
        refine blr (thr ?_)
        refine fin1 (v := .bool true) Tryz.results6 rfl rfl ?_
        exact ⟨_, ⟨_, x2, hr2, rem_last _ _, rfl, rfl⟩, H8.pick' [0, 1] rfl rfl⟩
      · have c63p := of_decide_eq_false c63
        refine skip_ ?_
        refine bln ?_
        refine thn ?_
        refine seq_ ?_
        refine region_ ?_
        refine wl_valE (v := .bool true) rfl (rf_assign rfl) rfl ?_
        refine wl_nil ?_
        refine thn ?_
        refine ret_ ?_
        refine fin1 (v := .bool true) Tryz.results6 rfl rfl ?_
        exact ⟨_, ⟨st, x, hr, by omega, rfl, rfl⟩, H2.pick' [0, 1] rfl rfl⟩
set_option maxRecDepth 100000 in
theorem asked_tr (s rb kb N : Nat) (st : StS) (x : RS) (o : OpR) (hr : Rel st x) (hll : st.last ≤ 2097152) (hN : N ≤ 1000000000) : Tr Tryz.prog 7 [.pointer (some ⟨s, 0, none⟩), .pointer (some ⟨rb, 0, none⟩), .agg #[.int .i64 o.kind, .int .i64 o.key.table, .int .i64 o.key.row, .int .i64 o.batch, .int .i64 o.index, .int .i64 o.v, .int .i64 o.n, .bool o.cell.is_, .int .i64 o.cell.value, .bool o.two], .pointer (some ⟨kb, 0, none⟩)] [stoH s st, rfH rb x] [bookH kb N] (fun v m => v = .bool true ∧ m = [bookH kb (N + 2)]) := by
  intro w0 S0 H0
  have hal : x.all.length ≤ 65536 := by have := hr.lroom; have := hr.cc; omega
  have hlive := hr.live
  have hroom := hr.room
  have hcc := hr.cc
  have hlst0 := hr.inv.last0
  refine enterR Tryz.func7 rfl Tryz.ntmps7 rfl ?_
  intro g0
  refine seq_ ?_
  refine region_ ?_
  refine wl_boxH H0 (v := .agg #[.int .i64 o.kind, .int .i64 o.key.table, .int .i64 o.key.row, .int .i64 o.batch, .int .i64 o.index, .int .i64 o.v, .int .i64 o.n, .bool o.cell.is_, .int .i64 o.cell.value, .bool o.two]) rfl rfl ?_
  intro b1 w2 H2
  refine wl_valE (v := .bool false) rfl (rf_assign rfl) rfl ?_
  refine wl_nil ?_
  refine thn ?_
  refine seq_ ?_
  refine seq_ ?_
  refine region_ ?_
  refine wl_valE (v := .pointer (some ⟨b1, 0, none⟩)) rfl (rf_fieldAddr Tryz.underlying45 rfl ti3 rfl rfl) rfl ?_
  refine wl_valE (v := .int .i64 o.kind) rfl (rf_load Tryz.underlying3 rfl rfl rfl ((H2.blk 1 rfl).cell rfl)) rfl ?_
  refine wl_nil ?_
  refine thn ?_
  refine block_ ?_
  refine seq_ ?_
  refine region_ ?_
  refine wl_valE (v := .bool (decide (o.kind = (4 : Int)))) rfl (rf_eql rfl rfl rfl rfl) rfl ?_
  refine wl_valE (v := .bool (decide (o.kind = (4 : Int)))) rfl (rf_assign rfl) rfl ?_
  refine wl_nil ?_
  refine thn ?_
  refine cond_ (t := decide (o.kind = (4 : Int))) rfl rfl (fun c27 => ?_) (fun c27 => ?_)
  · have c27p := of_decide_eq_true c27
    refine seq_ ?_
    refine region_ ?_
    refine wl_valE (v := .pointer (some ⟨s, 0, none⟩)) rfl (rf_move rfl) rfl ?_
    refine wl_valE (v := .pointer (some ⟨b1, 5, none⟩)) rfl (rf_fieldAddr Tryz.underlying45 rfl ti3 rfl rfl) rfl ?_
    refine wl_valE (v := .int .i64 o.v) rfl (rf_load Tryz.underlying3 rfl rfl rfl ((H2.blk 1 rfl).cell rfl)) rfl ?_
    refine wl_tr H2 rfl [] (look_tr o.v) rfl (.ro 0 Le.rfl .nil) (rf_call Tryz.call18 rfl rfl) rfl ?_
    rintro _ w3 _ ⟨rfl, rfl⟩ H3
    refine wl_valE (v := .tuple #[.agg #[.int .i64 ((verF st o.v).batch), .int .i64 ((verF st o.v).index), .bool ((verF st o.v).filled), .bool ((verF st o.v).cell.is_), .int .i64 ((verF st o.v).cell.value)], .int .i64 (refE st o.v)]) rfl (rf_move rfl) rfl ?_
    refine wl_valE (v := .agg #[.int .i64 ((verF st o.v).batch), .int .i64 ((verF st o.v).index), .bool ((verF st o.v).filled), .bool ((verF st o.v).cell.is_), .int .i64 ((verF st o.v).cell.value)]) rfl (rf_extract rfl rfl rfl) rfl ?_
    refine wl_valE (v := .int .i64 (refE st o.v)) rfl (rf_extract rfl rfl rfl) rfl ?_
    refine wl_allocH H3 ti71 ?_
    intro b9 w5 H5
    refine wl_storeAggH H5 2 (o := 0) (cs := [.int .i64 ((verF st o.v).batch), .int .i64 ((verF st o.v).index), .bool ((verF st o.v).filled), .bool ((verF st o.v).cell.is_), .int .i64 ((verF st o.v).cell.value)]) (A' := #[.int .i64 ((verF st o.v).batch), .int .i64 ((verF st o.v).index), .bool ((verF st o.v).filled), .bool ((verF st o.v).cell.is_), .int .i64 ((verF st o.v).cell.value)]) rfl rfl ti71 rfl rfl rfl rfl rfl oneAll (leb rfl) rfl ?_
    intro w6 H6
    refine wl_valE (v := .int .i64 (refE st o.v)) rfl (rf_assign rfl) rfl ?_
    refine wl_nil ?_
    refine thn ?_
    refine seq_ ?_
    refine region_ ?_
    refine wl_valE (v := .pointer (some ⟨rb, 0, none⟩)) rfl (rf_move rfl) rfl ?_
    refine wl_valE (v := .pointer (some ⟨b1, 5, none⟩)) rfl (rf_fieldAddr Tryz.underlying45 rfl ti3 rfl rfl) rfl ?_
    refine wl_valE (v := .int .i64 o.v) rfl (rf_load Tryz.underlying3 rfl rfl rfl ((H6.blk 1 rfl).cell rfl)) rfl ?_
    refine wl_tr H6 rfl [] (look9_tr rb x _ hr hal o.v) rfl (.ro 1 Le.rfl .nil) (rf_call Tryz.call19 rfl rfl) rfl ?_
    rintro _ w7 _ ⟨rfl, rfl⟩ H7
    refine wl_valE (v := .tuple #[.agg #[.int .i64 ((verF st o.v).batch), .int .i64 ((verF st o.v).index), .bool ((verF st o.v).filled), .bool ((verF st o.v).cell.is_), .int .i64 ((verF st o.v).cell.value)], .int .i64 (refE st o.v)]) rfl (rf_move rfl) rfl ?_
    refine wl_valE (v := .agg #[.int .i64 ((verF st o.v).batch), .int .i64 ((verF st o.v).index), .bool ((verF st o.v).filled), .bool ((verF st o.v).cell.is_), .int .i64 ((verF st o.v).cell.value)]) rfl (rf_extract rfl rfl rfl) rfl ?_
    refine wl_valE (v := .int .i64 (refE st o.v)) rfl (rf_extract rfl rfl rfl) rfl ?_
    refine wl_allocH H7 ti71 ?_
    intro b11 w9 H9
    try dsimp only [putsH, setH, List.cons_append, List.nil_append] at H9
    refine wl_storeAggH H9 3 (o := 0) (cs := [.int .i64 ((verF st o.v).batch), .int .i64 ((verF st o.v).index), .bool ((verF st o.v).filled), .bool ((verF st o.v).cell.is_), .int .i64 ((verF st o.v).cell.value)]) (A' := #[.int .i64 ((verF st o.v).batch), .int .i64 ((verF st o.v).index), .bool ((verF st o.v).filled), .bool ((verF st o.v).cell.is_), .int .i64 ((verF st o.v).cell.value)]) rfl rfl ti71 rfl rfl rfl rfl rfl oneAll (leb rfl) rfl ?_
    intro w10 H10
    refine wl_valE (v := .int .i64 (refE st o.v)) rfl (rf_assign rfl) rfl ?_
    refine wl_nil ?_
    refine thn ?_
    refine seq_ ?_
    refine region_ ?_
    refine wl_valE (v := .pointer (some ⟨s, 0, none⟩)) rfl (rf_move rfl) rfl ?_
    refine wl_valE (v := .pointer (some ⟨b1, 5, none⟩)) rfl (rf_fieldAddr Tryz.underlying45 rfl ti3 rfl rfl) rfl ?_
    refine wl_valE (v := .int .i64 o.v) rfl (rf_load Tryz.underlying3 rfl rfl rfl ((H10.blk 1 rfl).cell rfl)) rfl ?_
    refine wl_tr H10 rfl [] (keyOf_tr s st o.v) rfl (.ro 0 Le.rfl .nil) (rf_call Tryz.call20 rfl rfl) rfl ?_
    rintro _ w11 _ ⟨rfl, rfl⟩ H11
    refine wl_valE (v := .tuple #[.agg #[.int .i64 ((verF st o.v).key.table), .int .i64 ((verF st o.v).key.row)], .int .i64 (refE st o.v)]) rfl (rf_move rfl) rfl ?_
    refine wl_valE (v := .agg #[.int .i64 ((verF st o.v).key.table), .int .i64 ((verF st o.v).key.row)]) rfl (rf_extract rfl rfl rfl) rfl ?_
    refine wl_valE (v := .int .i64 (refE st o.v)) rfl (rf_extract rfl rfl rfl) rfl ?_
    refine wl_allocH H11 ti41 ?_
    intro b13 w13 H13
    refine wl_storeAggH H13 4 (o := 0) (cs := [.int .i64 ((verF st o.v).key.table), .int .i64 ((verF st o.v).key.row)]) (A' := #[.int .i64 ((verF st o.v).key.table), .int .i64 ((verF st o.v).key.row)]) rfl rfl ti41 rfl rfl rfl rfl rfl oneAll (leb rfl) rfl ?_
    intro w14 H14
    refine wl_valE (v := .int .i64 (refE st o.v)) rfl (rf_assign rfl) rfl ?_
    refine wl_nil ?_
    refine thn ?_
    refine seq_ ?_
    refine region_ ?_
    refine wl_valE (v := .pointer (some ⟨rb, 0, none⟩)) rfl (rf_move rfl) rfl ?_
    refine wl_valE (v := .pointer (some ⟨b1, 5, none⟩)) rfl (rf_fieldAddr Tryz.underlying45 rfl ti3 rfl rfl) rfl ?_
    refine wl_valE (v := .int .i64 o.v) rfl (rf_load Tryz.underlying3 rfl rfl rfl ((H14.blk 1 rfl).cell rfl)) rfl ?_
    refine wl_tr H14 rfl [] (keyOf9_tr rb x _ hr hal o.v) rfl (.ro 1 Le.rfl .nil) (rf_call Tryz.call21 rfl rfl) rfl ?_
    rintro _ w15 _ ⟨rfl, rfl⟩ H15
    refine wl_valE (v := .tuple #[.agg #[.int .i64 ((verF st o.v).key.table), .int .i64 ((verF st o.v).key.row)], .int .i64 (refE st o.v)]) rfl (rf_move rfl) rfl ?_
    refine wl_valE (v := .agg #[.int .i64 ((verF st o.v).key.table), .int .i64 ((verF st o.v).key.row)]) rfl (rf_extract rfl rfl rfl) rfl ?_
    refine wl_valE (v := .int .i64 (refE st o.v)) rfl (rf_extract rfl rfl rfl) rfl ?_
    refine wl_allocH H15 ti41 ?_
    intro b15 w17 H17
    try dsimp only [putsH, setH, List.cons_append, List.nil_append] at H17
    refine wl_storeAggH H17 5 (o := 0) (cs := [.int .i64 ((verF st o.v).key.table), .int .i64 ((verF st o.v).key.row)]) (A' := #[.int .i64 ((verF st o.v).key.table), .int .i64 ((verF st o.v).key.row)]) rfl rfl ti41 rfl rfl rfl rfl rfl oneAll (leb rfl) rfl ?_
    intro w18 H18
    refine wl_valE (v := .int .i64 (refE st o.v)) rfl (rf_assign rfl) rfl ?_
    refine wl_nil ?_
    refine thn ?_
    refine seq_ ?_
    refine region_q mixedP (by kernel_rfl) ?_
    refine qt_valE (v := .agg #[.int .i64 ((verF st o.v).batch), .int .i64 ((verF st o.v).index), .bool ((verF st o.v).filled), .bool ((verF st o.v).cell.is_), .int .i64 ((verF st o.v).cell.value)]) rfl (fun wq hq => rf_loadBlk Tryz.underlying71 rfl ti71 rfl rfl ((H18.keep hq).blk 2 rfl) (leb rfl)) rfl ?_
    refine qt_valE (v := .agg #[.int .i64 ((verF st o.v).batch), .int .i64 ((verF st o.v).index), .bool ((verF st o.v).filled), .bool ((verF st o.v).cell.is_), .int .i64 ((verF st o.v).cell.value)]) rfl (fun wq hq => rf_loadBlk Tryz.underlying71 rfl ti71 rfl rfl ((H18.keep hq).blk 3 rfl) (leb rfl)) rfl ?_
    refine qt_valE (v := .bool true) rfl (fun wq hq => rf_eqlS (by kernel_rfl) (eqVer (⟨((verF st o.v).batch), ((verF st o.v).index), ((verF st o.v).filled), ⟨((verF st o.v).cell.is_), ((verF st o.v).cell.value)⟩⟩ : Ver) (⟨((verF st o.v).batch), ((verF st o.v).index), ((verF st o.v).filled), ⟨((verF st o.v).cell.is_), ((verF st o.v).cell.value)⟩⟩ : Ver) _) rfl rfl rfl rfl) (congrArg Value.bool (by simp)) ?_
    refine qt_valE (v := .bool true) rfl (fun wq hq => rf_move rfl) rfl ?_
    refine qt_guardT rfl rfl rfl rfl ?_
    refine qt_valE (v := .int .i64 (refE st o.v)) rfl (fun wq hq => rf_move rfl) rfl ?_
    refine qt_guardT rfl rfl rfl rfl ?_
    refine qt_valE (v := .int .i64 (refE st o.v)) rfl (fun wq hq => rf_move rfl) rfl ?_
    refine qt_guardT rfl rfl rfl rfl ?_
    refine qt_valE (v := .bool true) rfl (fun wq hq => rf_eql rfl rfl rfl rfl) (congrArg Value.bool (by simp)) ?_
    refine qt_valE (v := .bool true) rfl (fun wq hq => rf_pickT rfl rfl rfl rfl) rfl ?_
    refine qt_valE (v := .bool true) rfl (fun wq hq => rf_move rfl) rfl ?_
    refine qt_guardT rfl rfl rfl rfl ?_
    refine qt_valE (v := .agg #[.int .i64 ((verF st o.v).key.table), .int .i64 ((verF st o.v).key.row)]) rfl (fun wq hq => rf_loadBlk Tryz.underlying41 rfl ti41 rfl rfl ((H18.keep hq).blk 4 rfl) (leb rfl)) rfl ?_
    refine qt_guardT rfl rfl rfl rfl ?_
    refine qt_valE (v := .agg #[.int .i64 ((verF st o.v).key.table), .int .i64 ((verF st o.v).key.row)]) rfl (fun wq hq => rf_loadBlk Tryz.underlying41 rfl ti41 rfl rfl ((H18.keep hq).blk 5 rfl) (leb rfl)) rfl ?_
    refine qt_guardT rfl rfl rfl rfl ?_
    refine qt_valE (v := .bool true) rfl (fun wq hq => rf_eqlS (by kernel_rfl) (eqKey (⟨((verF st o.v).key.table), ((verF st o.v).key.row)⟩ : Key) (⟨((verF st o.v).key.table), ((verF st o.v).key.row)⟩ : Key) _) rfl rfl rfl rfl) (congrArg Value.bool (by simp)) ?_
    refine qt_valE (v := .bool true) rfl (fun wq hq => rf_pickT rfl rfl rfl rfl) rfl ?_
    refine qt_valE (v := .bool true) rfl (fun wq hq => rf_move rfl) rfl ?_
    refine qt_guardT rfl rfl rfl rfl ?_
    refine qt_valE (v := .int .i64 (refE st o.v)) rfl (fun wq hq => rf_move rfl) rfl ?_
    refine qt_guardT rfl rfl rfl rfl ?_
    refine qt_valE (v := .int .i64 (refE st o.v)) rfl (fun wq hq => rf_move rfl) rfl ?_
    refine qt_guardT rfl rfl rfl rfl ?_
    refine qt_valE (v := .bool true) rfl (fun wq hq => rf_eql rfl rfl rfl rfl) (congrArg Value.bool (by simp)) ?_
    refine qt_valE (v := .bool true) rfl (fun wq hq => rf_pickT rfl rfl rfl rfl) rfl ?_
    refine qt_valE (v := .bool true) rfl (fun wq hq => rf_move rfl) rfl ?_
    refine qt_guardT rfl rfl rfl rfl ?_
    refine qt_valE (v := .pointer (some ⟨s, 0, none⟩)) rfl (fun wq hq => rf_move rfl) rfl ?_
    refine qt_guardT rfl rfl rfl rfl ?_
    refine qt_valE (v := .pointer (some ⟨b1, 5, none⟩)) rfl (fun wq hq => rf_fieldAddr Tryz.underlying45 rfl ti3 rfl rfl) rfl ?_
    refine qt_guardT rfl rfl rfl rfl ?_
    refine qt_valE (v := .int .i64 o.v) rfl (fun wq hq => rf_load Tryz.underlying3 rfl rfl rfl (((H18.keep hq).blk 1 rfl).cell rfl)) rfl ?_
    refine qt_guardT rfl rfl rfl rfl ?_
    refine qt_ret (v := .int .i64 (befF st o.v)) rfl (fun wq hq => ((before_tr s st o.v (by omega)).quiet (H18.keep hq) (.ro 0 Le.rfl .nil) (by rintro _ _ ⟨rfl, rfl⟩; exact rfl)).mono (fun _ _ h => ⟨h.1, hq.trans h.2⟩)) (fun wq hq => rf_call Tryz.call22 rfl rfl) ?_
    refine qt_guardT rfl rfl rfl rfl ?_
    refine qt_valE (v := .pointer (some ⟨rb, 0, none⟩)) rfl (fun wq hq => rf_move rfl) rfl ?_
    refine qt_guardT rfl rfl rfl rfl ?_
    refine qt_valE (v := .pointer (some ⟨b1, 5, none⟩)) rfl (fun wq hq => rf_fieldAddr Tryz.underlying45 rfl ti3 rfl rfl) rfl ?_
    refine qt_guardT rfl rfl rfl rfl ?_
    refine qt_valE (v := .int .i64 o.v) rfl (fun wq hq => rf_load Tryz.underlying3 rfl rfl rfl (((H18.keep hq).blk 1 rfl).cell rfl)) rfl ?_
    refine qt_guardT rfl rfl rfl rfl ?_
    refine qt_ret (v := .int .i64 (befF st o.v)) rfl (fun wq hq => ((before9_tr rb x _ hr hal o.v).quiet (H18.keep hq) (.ro 1 Le.rfl .nil) (by rintro _ _ ⟨rfl, rfl⟩; exact rfl)).mono (fun _ _ h => ⟨h.1, hq.trans h.2⟩)) (fun wq hq => rf_call Tryz.call23 rfl rfl) ?_
    refine qt_guardT rfl rfl rfl rfl ?_
    refine qt_valE (v := .bool true) rfl (fun wq hq => rf_eql rfl rfl rfl rfl) (congrArg Value.bool (by simp)) ?_
    refine qt_valE (v := .bool true) rfl (fun wq hq => rf_pickT rfl rfl rfl rfl) rfl ?_
    refine qt_valE (v := .bool true) rfl (fun wq hq => rf_assign rfl) rfl ?_
    refine qt_nil ?_
    intro w19 hk19
    have H19 := H18.keep hk19
    refine thn ?_
    refine ret_ ?_
    refine blr (thr ?_)
    refine fin1 (v := .bool true) Tryz.results7 rfl rfl ?_
    have H20 : St w0 S0 [stoH s st, rfH rb x] w19 (setH _ 0 (bookH kb (N + 2))) := H19.le 0 (bookH_le (by omega)) rfl
    exact ⟨_, ⟨rfl, rfl⟩, H20.pick' [0] rfl rfl⟩
  · have c27p := of_decide_eq_false c27
    refine seq_ ?_
    refine region_ ?_
    refine wl_valE (v := .bool (decide (o.kind = (5 : Int)))) rfl (rf_eql rfl rfl rfl rfl) rfl ?_
    refine wl_valE (v := .bool (decide (o.kind = (5 : Int)))) rfl (rf_assign rfl) rfl ?_
    refine wl_nil ?_
    refine thn ?_
    refine cond_ (t := decide (o.kind = (5 : Int))) rfl rfl (fun c86 => ?_) (fun c86 => ?_)
    · have c86p := of_decide_eq_true c86
      refine seq_ ?_
      refine region_q mixedP (by kernel_rfl) ?_
      refine qt_valE (v := .pointer (some ⟨s, 0, none⟩)) rfl (fun wq hq => rf_move rfl) rfl ?_
      refine qt_valE (v := .pointer (some ⟨b1, 1, none⟩)) rfl (fun wq hq => rf_fieldAddr Tryz.underlying45 rfl ti41 rfl rfl) rfl ?_
      refine qt_valE (v := .agg #[.int .i64 o.key.table, .int .i64 o.key.row]) rfl (fun wq hq => rf_loadBlk Tryz.underlying41 rfl ti41 rfl rfl ((H2.keep hq).blk 1 rfl) (leb rfl)) rfl ?_
      refine qt_ret (v := .int .i64 (visF st o.key 1099511627776)) rfl (fun wq hq => ((newest_tr o.key (by omega)).quiet (H2.keep hq) (.ro 0 Le.rfl .nil) (by rintro _ _ ⟨rfl, rfl⟩; exact rfl)).mono (fun _ _ h => ⟨h.1, hq.trans h.2⟩)) (fun wq hq => rf_call Tryz.call24 rfl rfl) ?_
      refine qt_valE (v := .pointer (some ⟨rb, 0, none⟩)) rfl (fun wq hq => rf_move rfl) rfl ?_
      refine qt_valE (v := .pointer (some ⟨b1, 1, none⟩)) rfl (fun wq hq => rf_fieldAddr Tryz.underlying45 rfl ti41 rfl rfl) rfl ?_
      refine qt_valE (v := .agg #[.int .i64 o.key.table, .int .i64 o.key.row]) rfl (fun wq hq => rf_loadBlk Tryz.underlying41 rfl ti41 rfl rfl ((H2.keep hq).blk 1 rfl) (leb rfl)) rfl ?_
      refine qt_ret (v := .int .i64 (visF st o.key 1099511627776)) rfl (fun wq hq => ((newest9_tr rb x _ hr hal o.key).quiet (H2.keep hq) (.ro 1 Le.rfl .nil) (by rintro _ _ ⟨rfl, rfl⟩; exact rfl)).mono (fun _ _ h => ⟨h.1, hq.trans h.2⟩)) (fun wq hq => rf_call Tryz.call25 rfl rfl) ?_
      refine qt_valE (v := .bool true) rfl (fun wq hq => rf_eql rfl rfl rfl rfl) (congrArg Value.bool (by simp)) ?_
      refine qt_valE (v := .bool true) rfl (fun wq hq => rf_move rfl) rfl ?_
      refine qt_guardT rfl rfl rfl rfl ?_
      refine qt_valE (v := .pointer (some ⟨s, 0, none⟩)) rfl (fun wq hq => rf_move rfl) rfl ?_
      refine qt_guardT rfl rfl rfl rfl ?_
      refine qt_valE (v := .pointer (some ⟨b1, 1, none⟩)) rfl (fun wq hq => rf_fieldAddr Tryz.underlying45 rfl ti41 rfl rfl) rfl ?_
      refine qt_guardT rfl rfl rfl rfl ?_
      refine qt_valE (v := .agg #[.int .i64 o.key.table, .int .i64 o.key.row]) rfl (fun wq hq => rf_loadBlk Tryz.underlying41 rfl ti41 rfl rfl ((H2.keep hq).blk 1 rfl) (leb rfl)) rfl ?_
      refine qt_guardT rfl rfl rfl rfl ?_
      refine qt_valE (v := .pointer (some ⟨b1, 3, none⟩)) rfl (fun wq hq => rf_fieldAddr Tryz.underlying45 rfl ti3 rfl rfl) rfl ?_
      refine qt_guardT rfl rfl rfl rfl ?_
      refine qt_valE (v := .int .i64 o.batch) rfl (fun wq hq => rf_load Tryz.underlying3 rfl rfl rfl (((H2.keep hq).blk 1 rfl).cell rfl)) rfl ?_
      refine qt_guardT rfl rfl rfl rfl ?_
      refine qt_ret (v := .int .i64 (visF st o.key o.batch)) rfl (fun wq hq => ((visible_tr o.key o.batch (by omega)).quiet (H2.keep hq) (.ro 0 Le.rfl .nil) (by rintro _ _ ⟨rfl, rfl⟩; exact rfl)).mono (fun _ _ h => ⟨h.1, hq.trans h.2⟩)) (fun wq hq => rf_call Tryz.call26 rfl rfl) ?_
      refine qt_guardT rfl rfl rfl rfl ?_
      refine qt_valE (v := .pointer (some ⟨rb, 0, none⟩)) rfl (fun wq hq => rf_move rfl) rfl ?_
      refine qt_guardT rfl rfl rfl rfl ?_
      refine qt_valE (v := .pointer (some ⟨b1, 1, none⟩)) rfl (fun wq hq => rf_fieldAddr Tryz.underlying45 rfl ti41 rfl rfl) rfl ?_
      refine qt_guardT rfl rfl rfl rfl ?_
      refine qt_valE (v := .agg #[.int .i64 o.key.table, .int .i64 o.key.row]) rfl (fun wq hq => rf_loadBlk Tryz.underlying41 rfl ti41 rfl rfl ((H2.keep hq).blk 1 rfl) (leb rfl)) rfl ?_
      refine qt_guardT rfl rfl rfl rfl ?_
      refine qt_valE (v := .pointer (some ⟨b1, 3, none⟩)) rfl (fun wq hq => rf_fieldAddr Tryz.underlying45 rfl ti3 rfl rfl) rfl ?_
      refine qt_guardT rfl rfl rfl rfl ?_
      refine qt_valE (v := .int .i64 o.batch) rfl (fun wq hq => rf_load Tryz.underlying3 rfl rfl rfl (((H2.keep hq).blk 1 rfl).cell rfl)) rfl ?_
      refine qt_guardT rfl rfl rfl rfl ?_
      refine qt_ret (v := .int .i64 (visF st o.key o.batch)) rfl (fun wq hq => ((visible9_tr rb x _ hr hal o.key o.batch).quiet (H2.keep hq) (.ro 1 Le.rfl .nil) (by rintro _ _ ⟨rfl, rfl⟩; exact rfl)).mono (fun _ _ h => ⟨h.1, hq.trans h.2⟩)) (fun wq hq => rf_call Tryz.call27 rfl rfl) ?_
      refine qt_guardT rfl rfl rfl rfl ?_
      refine qt_valE (v := .bool true) rfl (fun wq hq => rf_eql rfl rfl rfl rfl) (congrArg Value.bool (by simp)) ?_
      refine qt_valE (v := .bool true) rfl (fun wq hq => rf_pickT rfl rfl rfl rfl) rfl ?_
      refine qt_valE (v := .bool true) rfl (fun wq hq => rf_assign rfl) rfl ?_
      refine qt_nil ?_
      intro w21 hk21
      have H21 := H2.keep hk21
      refine thn ?_
      refine ret_ ?_
      refine blr (thr ?_)
      refine fin1 (v := .bool true) Tryz.results7 rfl rfl ?_
      have H22 : St w0 S0 [stoH s st, rfH rb x] w21 (setH _ 0 (bookH kb (N + 2))) := H21.le 0 (bookH_le (by omega)) rfl
      exact ⟨_, ⟨rfl, rfl⟩, H22.pick' [0] rfl rfl⟩
    · have c86p := of_decide_eq_false c86
      refine seq_ ?_
      refine region_ ?_
      refine wl_valE (v := .bool (decide (o.kind = (6 : Int)))) rfl (rf_eql rfl rfl rfl rfl) rfl ?_
      refine wl_valE (v := .bool (decide (o.kind = (6 : Int)))) rfl (rf_assign rfl) rfl ?_
      refine wl_nil ?_
      refine thn ?_
      refine cond_ (t := decide (o.kind = (6 : Int))) rfl rfl (fun c112 => ?_) (fun c112 => ?_)
      · have c112p := of_decide_eq_true c112
        refine seq_ ?_
        have hchl : (chnF st o.key).length ≤ 65536 := by
          have : (chnF st o.key).length ≤ x.all.length := by unfold chnF; rw [List.length_map, List.length_reverse, hr.ch o.key, List.length_map]; exact List.length_filter_le _ _
          omega
        refine region_ ?_
        refine wl_valE (v := .pointer (some ⟨s, 0, none⟩)) rfl (rf_move rfl) rfl ?_
        refine wl_valE (v := .pointer (some ⟨b1, 1, none⟩)) rfl (rf_fieldAddr Tryz.underlying45 rfl ti41 rfl rfl) rfl ?_
        refine wl_valE (v := .agg #[.int .i64 o.key.table, .int .i64 o.key.row]) rfl (rf_loadBlk Tryz.underlying41 rfl ti41 rfl rfl (H2.blk 1 rfl) (leb rfl)) rfl ?_
        refine wl_tr H2 rfl [] (chain_tr s st o.key (by omega)) rfl (.ro 0 Le.rfl .nil) (rf_call Tryz.call28 rfl rfl) rfl ?_
        rintro _ w23 _ ⟨ca, cc, rfl, rfl⟩ H23
        refine wl_valE (v := .slice ca ((chnF st o.key).length) cc) rfl (rf_assign rfl) rfl ?_
        refine wl_nil ?_
        refine thn ?_
        refine seq_ ?_
        refine region_ ?_
        refine wl_valE (v := .pointer (some ⟨s, 0, none⟩)) rfl (rf_move rfl) rfl ?_
        refine wl_valE (v := .pointer (some ⟨b1, 1, none⟩)) rfl (rf_fieldAddr Tryz.underlying45 rfl ti41 rfl rfl) rfl ?_
        refine wl_valE (v := .agg #[.int .i64 o.key.table, .int .i64 o.key.row]) rfl (rf_loadBlk Tryz.underlying41 rfl ti41 rfl rfl (H23.blk 1 rfl) (leb rfl)) rfl ?_
        refine wl_tr H23 rfl [] (chain_tr s st o.key (by omega)) rfl (.ro 0 Le.rfl .nil) (rf_call Tryz.call28 rfl rfl) rfl ?_
        rintro _ w24 _ ⟨cb, cd, rfl, rfl⟩ H24
        refine wl_valE (v := .slice cb ((chnF st o.key).length) cd) rfl (rf_assign rfl) rfl ?_
        refine wl_nil ?_
        refine thn ?_
        refine seq_ ?_
        refine region_ ?_
        refine wl_valE (v := .pointer (some ⟨rb, 0, none⟩)) rfl (rf_move rfl) rfl ?_
        refine wl_valE (v := .pointer (some ⟨b1, 1, none⟩)) rfl (rf_fieldAddr Tryz.underlying45 rfl ti41 rfl rfl) rfl ?_
        refine wl_valE (v := .agg #[.int .i64 o.key.table, .int .i64 o.key.row]) rfl (rf_loadBlk Tryz.underlying41 rfl ti41 rfl rfl (H24.blk 1 rfl) (leb rfl)) rfl ?_
        refine wl_tr H24 rfl [] (chain9_tr rb x st hr hal o.key) rfl (.ro 1 Le.rfl .nil) (rf_call Tryz.call29 rfl rfl) rfl ?_
        rintro _ w25 _ ⟨cw, ce, rfl, rfl⟩ H25
        try dsimp only [putsH, setH, List.cons_append, List.nil_append] at H25
        refine wl_valE (v := .slice cw ((chnF st o.key).length) ce) rfl (rf_assign rfl) rfl ?_
        refine wl_nil ?_
        refine thn ?_
        refine seq_ ?_
        refine region_ ?_
        refine wl_valE (v := .slice ca ((chnF st o.key).length) cc) rfl (rf_move rfl) rfl ?_
        refine wl_valE (v := .slice cw ((chnF st o.key).length) ce) rfl (rf_move rfl) rfl ?_
        refine wl_tr H25 rfl [] (sameV_tr ca ((chnF st o.key).length) cc cw ((chnF st o.key).length) ce (chnF st o.key) (by omega) (by omega)) rfl (.own 2 rfl slH_rd (.own 4 rfl slH_rd .nil)) (rf_call Tryz.call30 rfl rfl) rfl ?_
        rintro _ w26 _ ⟨rfl, rfl⟩ H26
        refine wl_valE (v := .bool true) rfl (rf_move rfl) rfl ?_
        refine wl_guardT rfl rfl rfl rfl ?_
        refine wl_valE (v := .slice cb ((chnF st o.key).length) cd) rfl (rf_move rfl) rfl ?_
        refine wl_guardT rfl rfl rfl rfl ?_
        refine wl_valE (v := .slice cw ((chnF st o.key).length) ce) rfl (rf_move rfl) rfl ?_
        refine wl_guardT rfl rfl rfl rfl ?_
        refine wl_tr H26 rfl [] (sameV_tr cb ((chnF st o.key).length) cd cw ((chnF st o.key).length) ce (chnF st o.key) (by omega) (by omega)) rfl (.own 3 rfl slH_rd (.own 4 rfl slH_rd .nil)) (rf_call Tryz.call30 rfl rfl) rfl ?_
        rintro _ w27 _ ⟨rfl, rfl⟩ H27
        refine wl_valE (v := .bool true) rfl (rf_pickT rfl rfl rfl rfl) rfl ?_
        refine wl_valE (v := .bool true) rfl (rf_assign rfl) rfl ?_
        refine wl_nil ?_
        refine thn ?_
        refine seq_ ?_
        refine region_ ?_
        refine wl_valE (v := .pointer (some ⟨kb, 0, none⟩)) rfl (rf_move rfl) rfl ?_
        refine wl_valE (v := .slice ca ((chnF st o.key).length) cc) rfl (rf_move rfl) rfl ?_
        refine wl_valE (v := .slice cb ((chnF st o.key).length) cd) rfl (rf_move rfl) rfl ?_
        refine wl_tr H27 rfl [0, 2, 3] (bchain_tr kb N ca ((chnF st o.key).length) cc (chnF st o.key) cb ((chnF st o.key).length) cd (chnF st o.key) (by omega) (by omega) (by omega)) rfl .nil (rf_call Tryz.call31 rfl rfl) rfl ?_
        rintro _ w28 _ ⟨rfl, rfl⟩ H28
        refine wl_nil ?_
        refine thn ?_
        refine seq_ ?_
        refine region_ ?_
        refine wl_valE (v := .bool true) rfl (rf_move rfl) rfl ?_
        refine wl_valE (v := .bool true) rfl (rf_assign rfl) rfl ?_
        refine wl_nil ?_
        refine thn ?_
        refine ret_ ?_
        refine blr (thr ?_)
        refine fin1 (v := .bool true) Tryz.results7 rfl rfl ?_
        have H29 : St w0 S0 [stoH s st, rfH rb x] w28 (setH _ 0 (bookH kb (N + 2))) := H28.le 0 (bookH_le (by omega)) rfl
        exact ⟨_, ⟨rfl, rfl⟩, H29.pick' [0] rfl rfl⟩
      · have c112p := of_decide_eq_false c112
        refine seq_ ?_
        refine region_ ?_
        refine wl_valE (v := .bool (decide (o.kind = (7 : Int)))) rfl (rf_eql rfl rfl rfl rfl) rfl ?_
        refine wl_valE (v := .bool (decide (o.kind = (7 : Int)))) rfl (rf_assign rfl) rfl ?_
        refine wl_nil ?_
        refine thn ?_
        refine cond_ (t := decide (o.kind = (7 : Int))) rfl rfl (fun c139 => ?_) (fun c139 => ?_)
        · have c139p := of_decide_eq_true c139
          refine seq_ ?_
          refine region_ ?_
          refine wl_valE (v := .pointer (some ⟨s, 0, none⟩)) rfl (rf_move rfl) rfl ?_
          refine wl_valE (v := .pointer (some ⟨b1, 6, none⟩)) rfl (rf_fieldAddr Tryz.underlying45 rfl ti3 rfl rfl) rfl ?_
          refine wl_valE (v := .int .i64 o.n) rfl (rf_load Tryz.underlying3 rfl rfl rfl ((H2.blk 1 rfl).cell rfl)) rfl ?_
          refine wl_tr H2 rfl [] (keys_tr s st o.n (by omega)) rfl (.ro 0 Le.rfl .nil) (rf_call Tryz.call32 rfl rfl) rfl ?_
          rintro _ w30 _ ⟨ka, kc, ks1, ⟨hk1, hk1_l⟩, rfl, rfl⟩ H30
          refine wl_valE (v := .slice ka ks1.length kc) rfl (rf_assign rfl) rfl ?_
          refine wl_nil ?_
          refine thn ?_
          refine seq_ ?_
          refine region_ ?_
          refine wl_valE (v := .pointer (some ⟨s, 0, none⟩)) rfl (rf_move rfl) rfl ?_
          refine wl_valE (v := .pointer (some ⟨b1, 6, none⟩)) rfl (rf_fieldAddr Tryz.underlying45 rfl ti3 rfl rfl) rfl ?_
          refine wl_valE (v := .int .i64 o.n) rfl (rf_load Tryz.underlying3 rfl rfl rfl ((H30.blk 1 rfl).cell rfl)) rfl ?_
          refine wl_tr H30 rfl [] (keys_tr s st o.n (by omega)) rfl (.ro 0 Le.rfl .nil) (rf_call Tryz.call32 rfl rfl) rfl ?_
          rintro _ w31 _ ⟨kb1, kd, ks2, ⟨hk2, hk2_l⟩, rfl, rfl⟩ H31
          refine wl_valE (v := .slice kb1 ks2.length kd) rfl (rf_assign rfl) rfl ?_
          refine wl_nil ?_
          refine thn ?_
          refine seq_ ?_
          refine region_ ?_
          refine wl_valE (v := .pointer (some ⟨rb, 0, none⟩)) rfl (rf_move rfl) rfl ?_
          refine wl_valE (v := .pointer (some ⟨b1, 6, none⟩)) rfl (rf_fieldAddr Tryz.underlying45 rfl ti3 rfl rfl) rfl ?_
          refine wl_valE (v := .int .i64 o.n) rfl (rf_load Tryz.underlying3 rfl rfl rfl ((H31.blk 1 rfl).cell rfl)) rfl ?_
          refine wl_tr H31 rfl [] (keys9_tr rb x st hr hal o.n) rfl (.ro 1 Le.rfl .nil) (rf_call Tryz.call33 rfl rfl) rfl ?_
          rintro _ w32 _ ⟨kw, ke, ks3, hk3, rfl, rfl⟩ H32
          try dsimp only [putsH, setH, List.cons_append, List.nil_append] at H32
          refine wl_valE (v := .slice kw ks3.length ke) rfl (rf_assign rfl) rfl ?_
          refine wl_nil ?_
          refine thn ?_
          refine seq_ ?_
          obtain rfl : ks1 = ks2 := keys_uniq hk1 hk2
          obtain rfl : ks1 = ks3 := keys_uniq hk1 hk3
          refine region_ ?_
          refine wl_valE (v := .slice ka ks1.length kc) rfl (rf_move rfl) rfl ?_
          refine wl_valE (v := .slice kw ks1.length ke) rfl (rf_move rfl) rfl ?_
          refine wl_tr H32 rfl [] (sameK_tr ka ks1.length kc kw ks1.length ke ks1 (by omega) (by omega)) rfl (.own 2 rfl slH_rd (.own 4 rfl slH_rd .nil)) (rf_call Tryz.call34 rfl rfl) rfl ?_
          rintro _ w33 _ ⟨rfl, rfl⟩ H33
          refine wl_valE (v := .bool true) rfl (rf_move rfl) rfl ?_
          refine wl_guardT rfl rfl rfl rfl ?_
          refine wl_valE (v := .slice kb1 ks1.length kd) rfl (rf_move rfl) rfl ?_
          refine wl_guardT rfl rfl rfl rfl ?_
          refine wl_valE (v := .slice kw ks1.length ke) rfl (rf_move rfl) rfl ?_
          refine wl_guardT rfl rfl rfl rfl ?_
          refine wl_tr H33 rfl [] (sameK_tr kb1 ks1.length kd kw ks1.length ke ks1 (by omega) (by omega)) rfl (.own 3 rfl slH_rd (.own 4 rfl slH_rd .nil)) (rf_call Tryz.call34 rfl rfl) rfl ?_
          rintro _ w34 _ ⟨rfl, rfl⟩ H34
          refine wl_valE (v := .bool true) rfl (rf_pickT rfl rfl rfl rfl) rfl ?_
          refine wl_valE (v := .bool true) rfl (rf_assign rfl) rfl ?_
          refine wl_nil ?_
          refine thn ?_
          refine seq_ ?_
          refine region_ ?_
          refine wl_valE (v := .pointer (some ⟨kb, 0, none⟩)) rfl (rf_move rfl) rfl ?_
          refine wl_valE (v := .slice ka ks1.length kc) rfl (rf_move rfl) rfl ?_
          refine wl_tr H34 rfl [0, 2] (bset_tr kb N ka ks1.length kc ks1 (by omega) (by omega)) rfl .nil (rf_call Tryz.call35 rfl rfl) rfl ?_
          rintro _ w35 _ ⟨rfl, rfl⟩ H35
          refine wl_nil ?_
          refine thn ?_
          refine seq_ ?_
          refine region_ ?_
          refine wl_valE (v := .pointer (some ⟨kb, 0, none⟩)) rfl (rf_move rfl) rfl ?_
          refine wl_valE (v := .slice kb1 ks1.length kd) rfl (rf_move rfl) rfl ?_
          refine wl_tr H35 rfl [0, 3] (bset_tr kb (N + 1) kb1 ks1.length kd ks1 (by omega) (by omega)) rfl .nil (rf_call Tryz.call35 rfl rfl) rfl ?_
          rintro _ w36 _ ⟨rfl, rfl⟩ H36
          refine wl_nil ?_
          refine thn ?_
          refine seq_ ?_
          refine region_ ?_
          refine wl_valE (v := .bool true) rfl (rf_move rfl) rfl ?_
          refine wl_valE (v := .bool true) rfl (rf_assign rfl) rfl ?_
          refine wl_nil ?_
          refine thn ?_
          refine ret_ ?_
          refine blr (thr ?_)
          refine fin1 (v := .bool true) Tryz.results7 rfl rfl ?_
          have H37 : St w0 S0 [stoH s st, rfH rb x] w36 (setH _ 0 (bookH kb (N + 2))) := H36.le 0 (bookH_le (by omega)) rfl
          try dsimp only [putsH, setH, List.cons_append, List.nil_append] at H37
          exact ⟨_, ⟨rfl, rfl⟩, H37.pick' [0] rfl rfl⟩
        · have c139p := of_decide_eq_false c139
          refine seq_ ?_
          refine region_ ?_
          refine wl_valE (v := .bool (decide (o.kind = (8 : Int)))) rfl (rf_eql rfl rfl rfl rfl) rfl ?_
          refine wl_valE (v := .bool (decide (o.kind = (8 : Int)))) rfl (rf_assign rfl) rfl ?_
          refine wl_nil ?_
          refine thn ?_
          refine cond_ (t := decide (o.kind = (8 : Int))) rfl rfl (fun c168 => ?_) (fun c168 => ?_)
          · have c168p := of_decide_eq_true c168
            refine seq_ ?_
            obtain ⟨⟨ya, yc⟩, -, H38⟩ := rfH.openR H2 1 rfl
            try dsimp only [List.cons_append, List.nil_append] at H38
            refine region_q mixedP (by kernel_rfl) ?_
            refine qt_valE (v := .pointer (some ⟨s, 0, none⟩)) rfl (fun wq hq => rf_move rfl) rfl ?_
            refine qt_ret (v := .int .i64 ((st.live : Nat) : Int)) rfl (fun wq hq => ((live_tr).quiet (H38.keep hq) (.ro 0 Le.rfl .nil) (by rintro _ _ ⟨rfl, rfl⟩; exact rfl)).mono (fun _ _ h => ⟨h.1, hq.trans h.2⟩)) (fun wq hq => rf_call Tryz.call36 rfl rfl) ?_
            refine qt_valE (v := .pointer (some ⟨rb, 0, none⟩)) rfl (fun wq hq => rf_move rfl) rfl ?_
            refine qt_valE (v := .pointer (some ⟨rb, 0, none⟩)) rfl (fun wq hq => rf_nilCheckP rfl rfl) rfl ?_
            refine qt_valE (v := .pointer (some ⟨rb, 2, none⟩)) rfl (fun wq hq => rf_fieldAddr Tryz.underlying50 rfl ti48 rfl rfl) rfl ?_
            refine qt_valE (v := .slice ya x.all.length yc) rfl (fun wq hq => rf_load Tryz.underlying48 rfl rfl rfl (((H38.keep hq).blkR 2 rfl).cell rfl)) rfl ?_
            refine qt_valE (v := .int .i64 ((x.all.length : Nat) : Int)) rfl (fun wq hq => rf_len_slice Tryz.underlying48 rfl rfl) rfl ?_
            refine qt_valE (v := .bool true) rfl (fun wq hq => rf_eql rfl rfl rfl rfl) (congrArg Value.bool (decide_eq_true (by omega))) ?_
            refine qt_valE (v := .bool true) rfl (fun wq hq => rf_move rfl) rfl ?_
            refine qt_guardT rfl rfl rfl rfl ?_
            refine qt_valE (v := .pointer (some ⟨s, 0, none⟩)) rfl (fun wq hq => rf_move rfl) rfl ?_
            refine qt_guardT rfl rfl rfl rfl ?_
            refine qt_ret (v := .int .i64 (st.room - ((st.live : Nat) : Int))) rfl (fun wq hq => ((room_tr ⟨by omega, by omega⟩ (by omega)).quiet (H38.keep hq) (.ro 0 Le.rfl .nil) (by rintro _ _ ⟨rfl, rfl⟩; exact rfl)).mono (fun _ _ h => ⟨h.1, hq.trans h.2⟩)) (fun wq hq => rf_call Tryz.call37 rfl rfl) ?_
            refine qt_guardT rfl rfl rfl rfl ?_
            refine qt_valE (v := .pointer (some ⟨rb, 0, none⟩)) rfl (fun wq hq => rf_move rfl) rfl ?_
            refine qt_guardT rfl rfl rfl rfl ?_
            refine qt_valE (v := .pointer (some ⟨rb, 0, none⟩)) rfl (fun wq hq => rf_nilCheckP rfl rfl) rfl ?_
            refine qt_guardT rfl rfl rfl rfl ?_
            refine qt_valE (v := .pointer (some ⟨rb, 1, none⟩)) rfl (fun wq hq => rf_fieldAddr Tryz.underlying50 rfl ti3 rfl rfl) rfl ?_
            refine qt_guardT rfl rfl rfl rfl ?_
            refine qt_valE (v := .int .i64 x.cap) rfl (fun wq hq => rf_load Tryz.underlying3 rfl rfl rfl (((H38.keep hq).blkR 2 rfl).cell rfl)) rfl ?_
            refine qt_guardT rfl rfl rfl rfl ?_
            refine qt_valE (v := .pointer (some ⟨rb, 0, none⟩)) rfl (fun wq hq => rf_move rfl) rfl ?_
            refine qt_guardT rfl rfl rfl rfl ?_
            refine qt_valE (v := .pointer (some ⟨rb, 0, none⟩)) rfl (fun wq hq => rf_nilCheckP rfl rfl) rfl ?_
            refine qt_guardT rfl rfl rfl rfl ?_
            refine qt_valE (v := .pointer (some ⟨rb, 2, none⟩)) rfl (fun wq hq => rf_fieldAddr Tryz.underlying50 rfl ti48 rfl rfl) rfl ?_
            refine qt_guardT rfl rfl rfl rfl ?_
            refine qt_valE (v := .slice ya x.all.length yc) rfl (fun wq hq => rf_load Tryz.underlying48 rfl rfl rfl (((H38.keep hq).blkR 2 rfl).cell rfl)) rfl ?_
            refine qt_guardT rfl rfl rfl rfl ?_
            refine qt_valE (v := .int .i64 ((x.all.length : Nat) : Int)) rfl (fun wq hq => rf_len_slice Tryz.underlying48 rfl rfl) rfl ?_
            refine qt_guardT rfl rfl rfl rfl ?_
            refine qt_valE (v := .int .i64 (x.cap - ((x.all.length : Nat) : Int))) rfl (fun wq hq => rf_sub rfl rfl rfl rfl (IntWalk.i64_in _ (by omega))) rfl ?_
            refine qt_guardT rfl rfl rfl rfl ?_
            refine qt_valE (v := .bool true) rfl (fun wq hq => rf_eql rfl rfl rfl rfl) (congrArg Value.bool (decide_eq_true (by omega))) ?_
            refine qt_valE (v := .bool true) rfl (fun wq hq => rf_pickT rfl rfl rfl rfl) rfl ?_
            refine qt_valE (v := .bool true) rfl (fun wq hq => rf_move rfl) rfl ?_
            refine qt_guardT rfl rfl rfl rfl ?_
            refine qt_valE (v := .pointer (some ⟨s, 0, none⟩)) rfl (fun wq hq => rf_move rfl) rfl ?_
            refine qt_guardT rfl rfl rfl rfl ?_
            refine qt_ret (v := .int .i64 st.parts) rfl (fun wq hq => ((parts_tr s st).quiet (H38.keep hq) (.ro 0 Le.rfl .nil) (by rintro _ _ ⟨rfl, rfl⟩; exact rfl)).mono (fun _ _ h => ⟨h.1, hq.trans h.2⟩)) (fun wq hq => rf_call Tryz.call38 rfl rfl) ?_
            refine qt_guardT rfl rfl rfl rfl ?_
            refine qt_valE (v := .pointer (some ⟨rb, 0, none⟩)) rfl (fun wq hq => rf_move rfl) rfl ?_
            refine qt_guardT rfl rfl rfl rfl ?_
            refine qt_valE (v := .pointer (some ⟨rb, 0, none⟩)) rfl (fun wq hq => rf_nilCheckP rfl rfl) rfl ?_
            refine qt_guardT rfl rfl rfl rfl ?_
            refine qt_valE (v := .pointer (some ⟨rb, 0, none⟩)) rfl (fun wq hq => rf_fieldAddr Tryz.underlying50 rfl ti3 rfl rfl) rfl ?_
            refine qt_guardT rfl rfl rfl rfl ?_
            refine qt_valE (v := .int .i64 x.parts) rfl (fun wq hq => rf_load Tryz.underlying3 rfl rfl rfl (((H38.keep hq).blkR 2 rfl).cell rfl)) rfl ?_
            refine qt_guardT rfl rfl rfl rfl ?_
            refine qt_valE (v := .bool true) rfl (fun wq hq => rf_eql rfl rfl rfl rfl) (congrArg Value.bool (decide_eq_true hr.parts)) ?_
            refine qt_valE (v := .bool true) rfl (fun wq hq => rf_pickT rfl rfl rfl rfl) rfl ?_
            refine qt_valE (v := .bool true) rfl (fun wq hq => rf_move rfl) rfl ?_
            refine qt_guardT rfl rfl rfl rfl ?_
            refine qt_valE (v := .pointer (some ⟨s, 0, none⟩)) rfl (fun wq hq => rf_move rfl) rfl ?_
            refine qt_guardT rfl rfl rfl rfl ?_
            refine qt_valE (v := .pointer (some ⟨b1, 1, none⟩)) rfl (fun wq hq => rf_fieldAddr Tryz.underlying45 rfl ti41 rfl rfl) rfl ?_
            refine qt_guardT rfl rfl rfl rfl ?_
            refine qt_valE (v := .agg #[.int .i64 o.key.table, .int .i64 o.key.row]) rfl (fun wq hq => rf_loadBlk Tryz.underlying41 rfl ti41 rfl rfl ((H38.keep hq).blk 1 rfl) (leb rfl)) rfl ?_
            refine qt_guardT rfl rfl rfl rfl ?_
            refine qt_ret (v := .int .i64 (partF st o.key)) rfl (fun wq hq => ((part_tr s st o.key).quiet (H38.keep hq) (.ro 0 Le.rfl .nil) (by rintro _ _ ⟨rfl, rfl⟩; exact rfl)).mono (fun _ _ h => ⟨h.1, hq.trans h.2⟩)) (fun wq hq => rf_call Tryz.call39 rfl rfl) ?_
            refine qt_guardT rfl rfl rfl rfl ?_
            refine qt_valE (v := .pointer (some ⟨rb, 0, none⟩)) rfl (fun wq hq => rf_move rfl) rfl ?_
            refine qt_guardT rfl rfl rfl rfl ?_
            refine qt_valE (v := .pointer (some ⟨b1, 1, none⟩)) rfl (fun wq hq => rf_fieldAddr Tryz.underlying45 rfl ti41 rfl rfl) rfl ?_
            refine qt_guardT rfl rfl rfl rfl ?_
            refine qt_valE (v := .agg #[.int .i64 o.key.table, .int .i64 o.key.row]) rfl (fun wq hq => rf_loadBlk Tryz.underlying41 rfl ti41 rfl rfl ((H38.keep hq).blk 1 rfl) (leb rfl)) rfl ?_
            refine qt_guardT rfl rfl rfl rfl ?_
            refine qt_ret (v := .int .i64 (partF st o.key)) rfl (fun wq hq => ((part9_tr rb x _ hr hal o.key).quiet (H38.keep hq) (.ro 1 Le.rfl .nil) (by rintro _ _ ⟨rfl, rfl⟩; exact rfl)).mono (fun _ _ h => ⟨h.1, hq.trans h.2⟩)) (fun wq hq => rf_call Tryz.call8 rfl rfl) ?_
            refine qt_guardT rfl rfl rfl rfl ?_
            refine qt_valE (v := .bool true) rfl (fun wq hq => rf_eql rfl rfl rfl rfl) (congrArg Value.bool (by simp)) ?_
            refine qt_valE (v := .bool true) rfl (fun wq hq => rf_pickT rfl rfl rfl rfl) rfl ?_
            refine qt_valE (v := .bool true) rfl (fun wq hq => rf_assign rfl) rfl ?_
            refine qt_nil ?_
            intro w39 hk39
            have H39 := H38.keep hk39
            refine thn ?_
            refine ret_ ?_
            refine blr (thr ?_)
            refine fin1 (v := .bool true) Tryz.results7 rfl rfl ?_
            have H40 : St w0 S0 [stoH s st, rfH rb x, blkH rb #[.int .i64 x.parts, .int .i64 x.cap, .slice ya x.all.length yc, .int .i64 x.last] 50, slH encEnt 8 110 ya x.all.length yc x.all] w39 (setH _ 0 (bookH kb (N + 2))) := H39.le 0 (bookH_le (by omega)) rfl
            try dsimp only [putsH, setH, List.cons_append, List.nil_append] at H40
            exact ⟨_, ⟨rfl, rfl⟩, (H40.weakR 2 rfl).pick' [0] rfl rfl⟩
          · have c168p := of_decide_eq_false c168
            refine skip_ ?_
            refine bln ?_
            refine thn ?_
            refine seq_ ?_
            refine region_ ?_
            refine wl_valE (v := .bool true) rfl (rf_assign rfl) rfl ?_
            refine wl_nil ?_
            refine thn ?_
            refine ret_ ?_
            refine fin1 (v := .bool true) Tryz.results7 rfl rfl ?_
            have H41 : St w0 S0 [stoH s st, rfH rb x] w2 (setH _ 0 (bookH kb (N + 2))) := H2.le 0 (bookH_le (by omega)) rfl
            exact ⟨_, ⟨rfl, rfl⟩, H41.pick' [0] rfl rfl⟩
end Go.Proofs.YtojcddlpkfhodaaGreat.W
