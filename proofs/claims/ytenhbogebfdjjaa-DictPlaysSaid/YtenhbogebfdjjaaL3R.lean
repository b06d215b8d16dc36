import Derived.Test.YtenhbogebfdjjaaL2R
import Derived.KernelRfl
namespace Go.Proofs.Ytenhbogebfdjjaa.W
open Go Go.Wk
set_option linter.unusedVariables false
set_option maxRecDepth 100000 in
theorem playedR_ret (b bp : Nat) (rs : List Nat) (ls : List (List (Key × SlotR))) (S : List SlotR) (came n : Int) (w : World) (hd : DictR w b bp rs ls came n) (hI : DIR ls S came n) (hc : came ≤ 4611686018427387900) (hS : S.length ≤ 2932031007390) (rb : Nat) (av : Value) (F : Nat → Prop) (hr : RefD w rb ((ls.length : Nat) : Int) (S.map (prR ls.length)) av F) (hsx : ∀ y, (y = rb ∨ F y) → ¬ fpD b bp rs y) (o : OpR) :
    Ret Try.prog 8 [.pointer (some ⟨b, 0, none⟩), .pointer (some ⟨rb, 0, none⟩), .agg #[.int .i64 o.kind, .int .i64 o.key.table, .int .i64 o.key.row, .int .i64 o.v, .int .i64 o.num, .bool o.two], .int .u64 ((rouF o.key : Nat) : Int)] w fun v w' => v = .bool true ∧ ∃ ls' S' came' n' av' F', DictR w' b bp rs ls' came' n' ∧ DIR ls' S' came' n' ∧ RefD w' rb ((ls.length : Nat) : Int) (S'.map (prR ls.length)) av' F' ∧ ls'.length = ls.length ∧ S'.length ≤ S.length + 1 ∧ came' ≤ came + 1 ∧ (∀ y, F' y → F y ∨ w.heap.size ≤ y) ∧ Kp (fun y => fpD b bp rs y ∨ y = rb ∨ F y) w w' := by
  have hkT : Kp (fun y => fpD b bp rs y ∨ y = rb ∨ F y) w w := Kp.refl w
  have hdd := hd
  have hrd := hr
  have hll0 := hd.len
  have hpos := hd.pos
  have hrb := hr.blk
  obtain ⟨aa, ac, hav, hac⟩ := hr.alls.form
  rw [List.length_map] at hav hac
  subst hav
  have hfpd : ∀ y, (y = b ∨ y ∈ rs) → fpD b bp rs y := fun y h => h.elim .inl (fun h => .inr (.inr h))
  have hb0 := hd.lt b (.inl rfl)
  have hrb0 := hrb.lt
  have hcnt := hI.cnt
  have hperm := (hI.perm o.num).length_eq
  rw [List.length_map] at hperm
  refine enterR Try.func8 rfl Try.ntmps8 rfl ?_
  intro g0
  refine seq_ ?_
  refine region_ ?_
  refine wl_box (v := .agg #[.int .i64 o.kind, .int .i64 o.key.table, .int .i64 o.key.row, .int .i64 o.v, .int .i64 o.num, .bool o.two]) rfl rfl ?_
  intro b1 w1 hg1 hk1 hb1
  have ne1_rb : rb ≠ b1 := Nat.ne_of_lt (Nat.lt_of_lt_of_le hrb.lt hg1)
  have hdd_w1 := hdd.keep hk1
  have hrd_w1 := hrd.keep hk1
  have hrb_w1 := hrb.keep hk1
  have hkT_w1 := hkT.comp hk1 (fun _ _ e => e.elim)
  have hs1 := hk1.size
  refine wl_valE (v := .bool false) rfl (rf_assign rfl) rfl ?_
  refine wl_nil ?_
  refine thn ?_
  refine seq_ ?_
  refine seq_ ?_
  refine region_ ?_
  refine wl_valE (v := .pointer (some ⟨b1, 0, none⟩)) rfl (rf_fieldAddr Try.underlying34 rfl ti3 rfl rfl) rfl ?_
  refine wl_valE (v := .int .i64 o.kind) rfl (rf_load Try.underlying3 rfl rfl rfl (hb1.cell rfl)) rfl ?_
  refine wl_nil ?_
  refine thn ?_
  refine block_ ?_
  refine seq_ ?_
  refine region_ ?_
  refine wl_valE (v := .bool (decide (o.kind = ((1 : Nat) : Int)))) rfl (rf_eql rfl rfl rfl rfl) rfl ?_
  refine wl_valE (v := .bool (decide (o.kind = ((1 : Nat) : Int)))) rfl (rf_assign rfl) rfl ?_
  refine wl_nil ?_
  refine thn ?_
  refine cond_ (t := decide (o.kind = ((1 : Nat) : Int))) rfl rfl (fun c23 => ?_) (fun c23 => ?_)
  · have c23p := of_decide_eq_true c23
    refine seq_ ?_
    refine region_ ?_
    refine wl_valE (v := .pointer (some ⟨b, 0, none⟩)) rfl (rf_move rfl) rfl ?_
    refine wl_valE (v := .pointer (some ⟨b1, 1, none⟩)) rfl (rf_fieldAddr Try.underlying34 rfl ti28 rfl rfl) rfl ?_
    refine wl_valE (v := .agg #[.int .i64 o.key.table, .int .i64 o.key.row]) rfl (rf_loadBlk Try.underlying28 rfl ti28 rfl rfl hb1 (Nat.le_of_ble_eq_true rfl)) rfl ?_
    refine wl_valE (v := .pointer (some ⟨b1, 3, none⟩)) rfl (rf_fieldAddr Try.underlying34 rfl ti2 rfl rfl) rfl ?_
    refine wl_valE (v := .int .i64 o.v) rfl (rf_load Try.underlying2 rfl rfl rfl (hb1.cell rfl)) rfl ?_
    refine wl_ret rfl (dPutR o.key o.v b bp rs ls S came n w1 hdd_w1 hI (by omega) (by omega)) (rf_call Try.call13 rfl rfl) ?_
    rintro vq w2 ⟨rfl, ls2, came2, n2, hd2, hI2, hll, hcl, hSl, hk2⟩
    have hrd_w2 := hrd_w1.kp hk2 (fun y hy e => hsx y hy (hfpd y e))
    have hrb_w2 := hrb_w1.kp hk2 (fun e => hsx rb (.inl rfl) (hfpd rb e))
    have hkT_w2 := hkT_w1.comp hk2 (fun y hy e => .inl (hfpd y e))
    have hb1_w2 := hb1.kp hk2 (fun e => by have := hd.lt _ (hfpd _ e); omega)
    have hs2 := hk2.size
    refine wl_valE (v := .tuple #[.int .i64 (((fndR S o.key).getD zslotR).val), .bool ((fndR S o.key).isSome)]) rfl (rf_move rfl) rfl ?_
    refine wl_valE (v := .int .i64 (((fndR S o.key).getD zslotR).val)) rfl (rf_extract rfl rfl rfl) rfl ?_
    refine wl_valE (v := .bool ((fndR S o.key).isSome)) rfl (rf_extract rfl rfl rfl) rfl ?_
    refine wl_valE (v := .int .i64 (((fndR S o.key).getD zslotR).val)) rfl (rf_assign rfl) rfl ?_
    refine wl_valE (v := .bool ((fndR S o.key).isSome)) rfl (rf_assign rfl) rfl ?_
    refine wl_nil ?_
    refine thn ?_
    refine seq_ ?_
    refine region_ ?_
    refine wl_valE (v := .pointer (some ⟨rb, 0, none⟩)) rfl (rf_move rfl) rfl ?_
    refine wl_valE (v := .pointer (some ⟨b1, 1, none⟩)) rfl (rf_fieldAddr Try.underlying34 rfl ti28 rfl rfl) rfl ?_
    refine wl_valE (v := .agg #[.int .i64 o.key.table, .int .i64 o.key.row]) rfl (rf_loadBlk Try.underlying28 rfl ti28 rfl rfl hb1_w2 (Nat.le_of_ble_eq_true rfl)) rfl ?_
    refine wl_valE (v := .pointer (some ⟨b1, 3, none⟩)) rfl (rf_fieldAddr Try.underlying34 rfl ti2 rfl rfl) rfl ?_
    refine wl_valE (v := .int .i64 o.v) rfl (rf_load Try.underlying2 rfl rfl rfl (hb1_w2.cell rfl)) rfl ?_
    refine wl_valE (v := .int .u64 ((rouF o.key : Nat) : Int)) rfl (rf_move rfl) rfl ?_
    refine wl_ret rfl (rPutR o.key o.v rb ls.length S came _ F w2 hrd_w2 hI.keys (by omega) (by omega) (by omega)) (rf_call Try.call14 rfl rfl) ?_
    rintro vq w3 ⟨rfl, av2, F2, hr2, hg2, hk3⟩
    have hkT_w3 := hkT_w2.comp hk3 (fun y hy e => .inr e)
    have hb1_w3 := hb1_w2.kp hk3 (fun e => by have := hr.lt _ e; omega)
    have hd2_w3 := hd2.kp hk3 (fun y hy e => hsx y e hy)
    have hs3 := hk3.size
    refine wl_valE (v := .tuple #[.int .i64 (((fndR S o.key).getD zslotR).val), .bool ((fndR S o.key).isSome)]) rfl (rf_move rfl) rfl ?_
    refine wl_valE (v := .int .i64 (((fndR S o.key).getD zslotR).val)) rfl (rf_extract rfl rfl rfl) rfl ?_
    refine wl_valE (v := .bool ((fndR S o.key).isSome)) rfl (rf_extract rfl rfl rfl) rfl ?_
    refine wl_valE (v := .int .i64 (((fndR S o.key).getD zslotR).val)) rfl (rf_assign rfl) rfl ?_
    refine wl_valE (v := .bool ((fndR S o.key).isSome)) rfl (rf_assign rfl) rfl ?_
    refine wl_nil ?_
    refine thn ?_
    refine seq_ ?_
    refine region_ ?_
    refine wl_valE (v := .int .i64 (((fndR S o.key).getD zslotR).val)) rfl (rf_move rfl) rfl ?_
    refine wl_valE (v := .int .i64 (((fndR S o.key).getD zslotR).val)) rfl (rf_move rfl) rfl ?_
    refine wl_valE (v := .bool true) rfl (rf_eql rfl rfl rfl rfl) (congrArg Value.bool (decide_eq_true rfl)) ?_
    refine wl_valE (v := .bool true) rfl (rf_move rfl) rfl ?_
    refine wl_guardT rfl rfl rfl rfl ?_
    refine wl_valE (v := .bool ((fndR S o.key).isSome)) rfl (rf_move rfl) rfl ?_
    refine wl_guardT rfl rfl rfl rfl ?_
    refine wl_valE (v := .bool ((fndR S o.key).isSome)) rfl (rf_move rfl) rfl ?_
    refine wl_guardT rfl rfl rfl rfl ?_
    refine wl_valE (v := .bool true) rfl (rf_eqlB Try.underlying4 rfl rfl rfl rfl) (congrArg Value.bool (decide_eq_true rfl)) ?_
    refine wl_valE (v := .bool true) rfl (rf_pickT rfl rfl rfl rfl) rfl ?_
    refine wl_valE (v := .bool true) rfl (rf_assign rfl) rfl ?_
    refine wl_nil ?_
    refine thn ?_
    refine ret_ ?_
    refine blr (thr ?_)
    refine fin1 (v := .bool true) Try.results8 rfl rfl ?_
    exact ⟨rfl, ls2, _, came2, n2, av2, F2, hd2_w3, hI2, hr2, hll, hSl, hcl, fun y h => (hg2 y h).imp id (fun h => by omega), hkT_w3⟩
  · have c23p := of_decide_eq_false c23
    refine seq_ ?_
    refine region_ ?_
    refine wl_valE (v := .bool (decide (o.kind = ((2 : Nat) : Int)))) rfl (rf_eql rfl rfl rfl rfl) rfl ?_
    refine wl_valE (v := .bool (decide (o.kind = ((2 : Nat) : Int)))) rfl (rf_assign rfl) rfl ?_
    refine wl_nil ?_
    refine thn ?_
    refine cond_ (t := decide (o.kind = ((2 : Nat) : Int))) rfl rfl (fun c52 => ?_) (fun c52 => ?_)
    · have c52p := of_decide_eq_true c52
      refine seq_ ?_
      refine region_ ?_
      refine wl_valE (v := .pointer (some ⟨b, 0, none⟩)) rfl (rf_move rfl) rfl ?_
      refine wl_valE (v := .pointer (some ⟨b1, 1, none⟩)) rfl (rf_fieldAddr Try.underlying34 rfl ti28 rfl rfl) rfl ?_
      refine wl_valE (v := .agg #[.int .i64 o.key.table, .int .i64 o.key.row]) rfl (rf_loadBlk Try.underlying28 rfl ti28 rfl rfl hb1 (Nat.le_of_ble_eq_true rfl)) rfl ?_
      refine wl_ret rfl (dGetR o.key b bp rs ls S came n w1 hdd_w1 hI) (rf_call Try.call15 rfl rfl) ?_
      rintro _ w4 ⟨rfl, hk4⟩
      have hdd_w4 := hdd_w1.keep hk4
      have hrd_w4 := hrd_w1.keep hk4
      have hrb_w4 := hrb_w1.keep hk4
      have hkT_w4 := hkT_w1.comp hk4 (fun _ _ e => e.elim)
      have hb1_w4 := hb1.keep hk4
      have hs4 := hk4.size
      refine wl_valE (v := .tuple #[.int .i64 (((fndR S o.key).getD zslotR).val), .bool ((fndR S o.key).isSome)]) rfl (rf_move rfl) rfl ?_
      refine wl_valE (v := .int .i64 (((fndR S o.key).getD zslotR).val)) rfl (rf_extract rfl rfl rfl) rfl ?_
      refine wl_valE (v := .bool ((fndR S o.key).isSome)) rfl (rf_extract rfl rfl rfl) rfl ?_
      refine wl_valE (v := .int .i64 (((fndR S o.key).getD zslotR).val)) rfl (rf_assign rfl) rfl ?_
      refine wl_valE (v := .bool ((fndR S o.key).isSome)) rfl (rf_assign rfl) rfl ?_
      refine wl_nil ?_
      refine thn ?_
      refine seq_ ?_
      refine region_ ?_
      refine wl_valE (v := .pointer (some ⟨rb, 0, none⟩)) rfl (rf_move rfl) rfl ?_
      refine wl_valE (v := .pointer (some ⟨b1, 1, none⟩)) rfl (rf_fieldAddr Try.underlying34 rfl ti28 rfl rfl) rfl ?_
      refine wl_valE (v := .agg #[.int .i64 o.key.table, .int .i64 o.key.row]) rfl (rf_loadBlk Try.underlying28 rfl ti28 rfl rfl hb1_w4 (Nat.le_of_ble_eq_true rfl)) rfl ?_
      refine wl_ret rfl (rGetR o.key rb ls.length S _ F w4 hrd_w4 hI.keys (by omega)) (rf_call Try.call16 rfl rfl) ?_
      rintro _ w5 ⟨rfl, hk5⟩
      have hdd_w5 := hdd_w4.keep hk5
      have hrd_w5 := hrd_w4.keep hk5
      have hrb_w5 := hrb_w4.keep hk5
      have hkT_w5 := hkT_w4.comp hk5 (fun _ _ e => e.elim)
      have hb1_w5 := hb1_w4.keep hk5
      have hs5 := hk5.size
      refine wl_valE (v := .tuple #[.int .i64 (((fndR S o.key).getD zslotR).val), .bool ((fndR S o.key).isSome)]) rfl (rf_move rfl) rfl ?_
      refine wl_valE (v := .int .i64 (((fndR S o.key).getD zslotR).val)) rfl (rf_extract rfl rfl rfl) rfl ?_
      refine wl_valE (v := .bool ((fndR S o.key).isSome)) rfl (rf_extract rfl rfl rfl) rfl ?_
      refine wl_valE (v := .int .i64 (((fndR S o.key).getD zslotR).val)) rfl (rf_assign rfl) rfl ?_
      refine wl_valE (v := .bool ((fndR S o.key).isSome)) rfl (rf_assign rfl) rfl ?_
      refine wl_nil ?_
      refine thn ?_
      refine seq_ ?_
      refine region_ ?_
      refine wl_valE (v := .int .i64 (((fndR S o.key).getD zslotR).val)) rfl (rf_move rfl) rfl ?_
      refine wl_valE (v := .int .i64 (((fndR S o.key).getD zslotR).val)) rfl (rf_move rfl) rfl ?_
      refine wl_valE (v := .bool true) rfl (rf_eql rfl rfl rfl rfl) (congrArg Value.bool (decide_eq_true rfl)) ?_
      refine wl_valE (v := .bool true) rfl (rf_move rfl) rfl ?_
      refine wl_guardT rfl rfl rfl rfl ?_
      refine wl_valE (v := .bool ((fndR S o.key).isSome)) rfl (rf_move rfl) rfl ?_
      refine wl_guardT rfl rfl rfl rfl ?_
      refine wl_valE (v := .bool ((fndR S o.key).isSome)) rfl (rf_move rfl) rfl ?_
      refine wl_guardT rfl rfl rfl rfl ?_
      refine wl_valE (v := .bool true) rfl (rf_eqlB Try.underlying4 rfl rfl rfl rfl) (congrArg Value.bool (decide_eq_true rfl)) ?_
      refine wl_valE (v := .bool true) rfl (rf_pickT rfl rfl rfl rfl) rfl ?_
      refine wl_valE (v := .bool true) rfl (rf_assign rfl) rfl ?_
      refine wl_nil ?_
      refine thn ?_
      refine ret_ ?_
      refine blr (thr ?_)
      refine fin1 (v := .bool true) Try.results8 rfl rfl ?_
      exact ⟨rfl, ls, S, came, n, _, F, hdd_w5, hI, hrd_w5, rfl, by omega, by omega, fun y h => .inl h, hkT_w5⟩
    · have c52p := of_decide_eq_false c52
      refine seq_ ?_
      refine region_ ?_
      refine wl_valE (v := .bool (decide (o.kind = ((3 : Nat) : Int)))) rfl (rf_eql rfl rfl rfl rfl) rfl ?_
      refine wl_valE (v := .bool (decide (o.kind = ((3 : Nat) : Int)))) rfl (rf_assign rfl) rfl ?_
      refine wl_nil ?_
      refine thn ?_
      refine cond_ (t := decide (o.kind = ((3 : Nat) : Int))) rfl rfl (fun c76 => ?_) (fun c76 => ?_)
      · have c76p := of_decide_eq_true c76
        refine seq_ ?_
        refine region_ ?_
        refine wl_valE (v := .pointer (some ⟨b, 0, none⟩)) rfl (rf_move rfl) rfl ?_
        refine wl_valE (v := .pointer (some ⟨b1, 1, none⟩)) rfl (rf_fieldAddr Try.underlying34 rfl ti28 rfl rfl) rfl ?_
        refine wl_valE (v := .agg #[.int .i64 o.key.table, .int .i64 o.key.row]) rfl (rf_loadBlk Try.underlying28 rfl ti28 rfl rfl hb1 (Nat.le_of_ble_eq_true rfl)) rfl ?_
        refine wl_ret rfl (dTakeR o.key b bp rs ls S came n w1 hdd_w1 hI (by omega)) (rf_call Try.call17 rfl rfl) ?_
        rintro vq w6 ⟨rfl, ls2, n2, hd2, hI2, hll, hk6⟩
        have hrd_w6 := hrd_w1.kp hk6 (fun y hy e => hsx y hy (hfpd y e))
        have hrb_w6 := hrb_w1.kp hk6 (fun e => hsx rb (.inl rfl) (hfpd rb e))
        have hkT_w6 := hkT_w1.comp hk6 (fun y hy e => .inl (hfpd y e))
        have hb1_w6 := hb1.kp hk6 (fun e => by have := hd.lt _ (hfpd _ e); omega)
        have hs6 := hk6.size
        refine wl_valE (v := .tuple #[.int .i64 (((fndR S o.key).getD zslotR).val), .bool ((fndR S o.key).isSome)]) rfl (rf_move rfl) rfl ?_
        refine wl_valE (v := .int .i64 (((fndR S o.key).getD zslotR).val)) rfl (rf_extract rfl rfl rfl) rfl ?_
        refine wl_valE (v := .bool ((fndR S o.key).isSome)) rfl (rf_extract rfl rfl rfl) rfl ?_
        refine wl_valE (v := .int .i64 (((fndR S o.key).getD zslotR).val)) rfl (rf_assign rfl) rfl ?_
        refine wl_valE (v := .bool ((fndR S o.key).isSome)) rfl (rf_assign rfl) rfl ?_
        refine wl_nil ?_
        refine thn ?_
        refine seq_ ?_
        refine region_ ?_
        refine wl_valE (v := .pointer (some ⟨rb, 0, none⟩)) rfl (rf_move rfl) rfl ?_
        refine wl_valE (v := .pointer (some ⟨b1, 1, none⟩)) rfl (rf_fieldAddr Try.underlying34 rfl ti28 rfl rfl) rfl ?_
        refine wl_valE (v := .agg #[.int .i64 o.key.table, .int .i64 o.key.row]) rfl (rf_loadBlk Try.underlying28 rfl ti28 rfl rfl hb1_w6 (Nat.le_of_ble_eq_true rfl)) rfl ?_
        refine wl_ret rfl (rTakeR o.key rb ls.length S _ F w6 hrd_w6 hI.keys (by omega)) (rf_call Try.call18 rfl rfl) ?_
        rintro vq w7 ⟨rfl, av2, F2, hr2, hg2, hk7⟩
        have hkT_w7 := hkT_w6.comp hk7 (fun y hy e => .inr e)
        have hb1_w7 := hb1_w6.kp hk7 (fun e => by have := hr.lt _ e; omega)
        have hd2_w7 := hd2.kp hk7 (fun y hy e => hsx y e hy)
        have hs7 := hk7.size
        refine wl_valE (v := .tuple #[.int .i64 (((fndR S o.key).getD zslotR).val), .bool ((fndR S o.key).isSome)]) rfl (rf_move rfl) rfl ?_
        refine wl_valE (v := .int .i64 (((fndR S o.key).getD zslotR).val)) rfl (rf_extract rfl rfl rfl) rfl ?_
        refine wl_valE (v := .bool ((fndR S o.key).isSome)) rfl (rf_extract rfl rfl rfl) rfl ?_
        refine wl_valE (v := .int .i64 (((fndR S o.key).getD zslotR).val)) rfl (rf_assign rfl) rfl ?_
        refine wl_valE (v := .bool ((fndR S o.key).isSome)) rfl (rf_assign rfl) rfl ?_
        refine wl_nil ?_
        refine thn ?_
        refine seq_ ?_
        refine region_ ?_
        refine wl_valE (v := .int .i64 (((fndR S o.key).getD zslotR).val)) rfl (rf_move rfl) rfl ?_
        refine wl_valE (v := .int .i64 (((fndR S o.key).getD zslotR).val)) rfl (rf_move rfl) rfl ?_
        refine wl_valE (v := .bool true) rfl (rf_eql rfl rfl rfl rfl) (congrArg Value.bool (decide_eq_true rfl)) ?_
        refine wl_valE (v := .bool true) rfl (rf_move rfl) rfl ?_
        refine wl_guardT rfl rfl rfl rfl ?_
        refine wl_valE (v := .bool ((fndR S o.key).isSome)) rfl (rf_move rfl) rfl ?_
        refine wl_guardT rfl rfl rfl rfl ?_
        refine wl_valE (v := .bool ((fndR S o.key).isSome)) rfl (rf_move rfl) rfl ?_
        refine wl_guardT rfl rfl rfl rfl ?_
        refine wl_valE (v := .bool true) rfl (rf_eqlB Try.underlying4 rfl rfl rfl rfl) (congrArg Value.bool (decide_eq_true rfl)) ?_
        refine wl_valE (v := .bool true) rfl (rf_pickT rfl rfl rfl rfl) rfl ?_
        refine wl_valE (v := .bool true) rfl (rf_assign rfl) rfl ?_
        refine wl_nil ?_
        refine thn ?_
        refine ret_ ?_
        refine blr (thr ?_)
        refine fin1 (v := .bool true) Try.results8 rfl rfl ?_
        exact ⟨rfl, ls2, _, came, n2, av2, F2, hd2_w7, hI2, hr2, hll, Nat.le_trans (List.length_filter_le _ _) (by omega), by omega, fun y h => (hg2 y h).imp id (fun h => by omega), hkT_w7⟩
      · have c76p := of_decide_eq_false c76
        refine seq_ ?_
        refine region_ ?_
        refine wl_valE (v := .bool (decide (o.kind = ((4 : Nat) : Int)))) rfl (rf_eql rfl rfl rfl rfl) rfl ?_
        refine wl_valE (v := .bool (decide (o.kind = ((4 : Nat) : Int)))) rfl (rf_assign rfl) rfl ?_
        refine wl_nil ?_
        refine thn ?_
        refine cond_ (t := decide (o.kind = ((4 : Nat) : Int))) rfl rfl (fun c100 => ?_) (fun c100 => ?_)
        · have c100p := of_decide_eq_true c100
          refine seq_ ?_
          refine region_h (S := fun wq => Kp (none_) w1 wq) mixedP ?_
          intro w8 hk8
          have hdd_w8 := hdd_w1.keep hk8
          have hrd_w8 := hrd_w1.keep hk8
          have hrb_w8 := hrb_w1.keep hk8
          have hkT_w8 := hkT_w1.comp hk8 (fun _ _ e => e.elim)
          have hb1_w8 := hb1.keep hk8
          have hs8 := hk8.size
          have hS8 : Kp (none_) w1 w8 := hk8
          refine wh_take (i := 0) (v := .pointer (some ⟨b, 0, none⟩)) rfl (by kernel_rfl) (by kernel_rfl) (by kernel_rfl) hS8 rfl (fun wq hq => rf_move rfl) rfl ?_
          refine wh_take (i := 2) (v := .pointer (some ⟨rb, 0, none⟩)) rfl (by kernel_rfl) (by kernel_rfl) (by kernel_rfl) hS8 rfl (fun wq hq => rf_move rfl) rfl ?_
          refine wh_take (i := 3) (v := .pointer (some ⟨rb, 0, none⟩)) rfl (by kernel_rfl) (by kernel_rfl) (by kernel_rfl) hS8 rfl (fun wq hq => rf_nilCheckP rfl rfl) rfl ?_
          refine wh_take (i := 4) (v := .pointer (some ⟨rb, 1, none⟩)) rfl (by kernel_rfl) (by kernel_rfl) (by kernel_rfl) hS8 rfl (fun wq hq => rf_fieldAddr Try.underlying48 rfl ti38 rfl rfl) rfl ?_
          refine wh_take (i := 5) (v := .slice aa S.length ac) rfl (by kernel_rfl) (by kernel_rfl) (by kernel_rfl) hS8 rfl (fun wq hq => rf_load Try.underlying38 rfl rfl rfl ((hrb_w1.keep hq).cell rfl)) rfl ?_
          refine wh_take (i := 6) (v := .int .i64 ((S.length : Nat) : Int)) rfl (by kernel_rfl) (by kernel_rfl) (by kernel_rfl) hS8 rfl (fun wq hq => rf_len_slice Try.underlying38 rfl rfl) rfl ?_
          refine wh_one (i := 1) (by kernel_rfl) rfl ?_
          refine wl_ret rfl (lenR_ret b bp rs ls came n w8 hdd_w8) (rf_call Try.call19 rfl rfl) ?_
          rintro _ w9 ⟨rfl, hk9⟩
          have hdd_w9 := hdd_w8.keep hk9
          have hrd_w9 := hrd_w8.keep hk9
          have hrb_w9 := hrb_w8.keep hk9
          have hkT_w9 := hkT_w8.comp hk9 (fun _ _ e => e.elim)
          have hb1_w9 := hb1_w8.keep hk9
          have hS_w9 := hS8.comp hk9 (fun _ _ e => e.elim)
          have hs9 := hk9.size
          refine wl_nil ?_
          refine wh_back hS_w9 ?_
          refine wh_take (i := 7) (v := .bool true) rfl (by kernel_rfl) (by kernel_rfl) (by kernel_rfl) hS_w9 rfl (fun wq hq => rf_eql rfl rfl rfl rfl) (congrArg Value.bool (decide_eq_true hcnt)) ?_
          refine wh_take (i := 8) (v := .bool true) rfl (by kernel_rfl) (by kernel_rfl) (by kernel_rfl) hS_w9 rfl (fun wq hq => rf_move rfl) rfl ?_
          refine wh_takeG (i := 9) (v := .pointer (some ⟨b, 0, none⟩)) rfl (by kernel_rfl) (by kernel_rfl) (by kernel_rfl) hS_w9 rfl rfl rfl rfl rfl (fun wq hq => rf_move rfl) rfl ?_
          refine wh_takeG (i := 10) (v := .pointer (some ⟨b1, 4, none⟩)) rfl (by kernel_rfl) (by kernel_rfl) (by kernel_rfl) hS_w9 rfl rfl rfl rfl rfl (fun wq hq => rf_fieldAddr Try.underlying34 rfl ti3 rfl rfl) rfl ?_
          refine wh_takeG (i := 11) (v := .int .i64 o.num) rfl (by kernel_rfl) (by kernel_rfl) (by kernel_rfl) hS_w9 rfl rfl rfl rfl rfl (fun wq hq => rf_load Try.underlying3 rfl rfl rfl ((hb1.keep hq).cell rfl)) rfl ?_
          refine wh_takeG (i := 13) (v := .pointer (some ⟨rb, 0, none⟩)) rfl (by kernel_rfl) (by kernel_rfl) (by kernel_rfl) hS_w9 rfl rfl rfl rfl rfl (fun wq hq => rf_move rfl) rfl ?_
          refine wh_takeG (i := 14) (v := .pointer (some ⟨b1, 4, none⟩)) rfl (by kernel_rfl) (by kernel_rfl) (by kernel_rfl) hS_w9 rfl rfl rfl rfl rfl (fun wq hq => rf_fieldAddr Try.underlying34 rfl ti3 rfl rfl) rfl ?_
          refine wh_takeG (i := 15) (v := .int .i64 o.num) rfl (by kernel_rfl) (by kernel_rfl) (by kernel_rfl) hS_w9 rfl rfl rfl rfl rfl (fun wq hq => rf_load Try.underlying3 rfl rfl rfl ((hb1.keep hq).cell rfl)) rfl ?_
          refine wh_one (i := 12) (by kernel_rfl) rfl ?_
          refine wl_guardT rfl rfl rfl rfl ?_
          refine wl_ret rfl (sizeR_ret b bp rs ls came n w9 hdd_w9 o.num) (rf_call Try.call20 rfl rfl) ?_
          rintro _ w10 ⟨rfl, hk10⟩
          have hdd_w10 := hdd_w9.keep hk10
          have hrd_w10 := hrd_w9.keep hk10
          have hrb_w10 := hrb_w9.keep hk10
          have hkT_w10 := hkT_w9.comp hk10 (fun _ _ e => e.elim)
          have hb1_w10 := hb1_w9.keep hk10
          have hS_w10 := hS_w9.comp hk10 (fun _ _ e => e.elim)
          have hs10 := hk10.size
          refine wl_nil ?_
          refine wh_back hS_w10 ?_
          refine wh_one (i := 16) (by kernel_rfl) rfl ?_
          refine wl_guardT rfl rfl rfl rfl ?_
          refine wl_ret rfl (refEach_ret rb _ _ _ F w10 hrd_w10 o.num (by simp; omega)) (rf_call Try.call11 rfl rfl) ?_
          rintro ve1 w11 ⟨hel1, hk11⟩
          rw [eachR_eq] at hel1
          obtain ⟨ea, ec, hev, _⟩ := hel1.form
          rw [List.length_map] at hev
          subst hev
          have hdd_w11 := hdd_w10.keep hk11
          have hrd_w11 := hrd_w10.keep hk11
          have hrb_w11 := hrb_w10.keep hk11
          have hkT_w11 := hkT_w10.comp hk11 (fun _ _ e => e.elim)
          have hb1_w11 := hb1_w10.keep hk11
          have hS_w11 := hS_w10.comp hk11 (fun _ _ e => e.elim)
          have hs11 := hk11.size
          refine wl_nil ?_
          refine wh_back hS_w11 ?_
          refine wh_takeG (i := 17) (v := .int .i64 (((S.filter (inPR ls.length o.num)).length : Nat) : Int)) rfl (by kernel_rfl) (by kernel_rfl) (by kernel_rfl) hS_w11 rfl rfl rfl rfl rfl (fun wq hq => rf_len_slice Try.underlying38 rfl rfl) rfl ?_
          refine wh_takeG (i := 18) (v := .bool true) rfl (by kernel_rfl) (by kernel_rfl) (by kernel_rfl) hS_w11 rfl rfl rfl rfl rfl (fun wq hq => rf_eql rfl rfl rfl rfl) (congrArg Value.bool (decide_eq_true (by rw [hperm]))) ?_
          refine wh_take (i := 19) (v := .bool true) rfl (by kernel_rfl) (by kernel_rfl) (by kernel_rfl) hS_w11 rfl (fun wq hq => rf_pickT rfl rfl rfl rfl) rfl ?_
          refine wh_take (i := 20) (v := .bool true) rfl (by kernel_rfl) (by kernel_rfl) (by kernel_rfl) hS_w11 rfl (fun wq hq => rf_assign rfl) rfl ?_
          refine wh_done (by kernel_rfl) ?_
          refine thn ?_
          refine ret_ ?_
          refine blr (thr ?_)
          refine fin1 (v := .bool true) Try.results8 rfl rfl ?_
          exact ⟨rfl, ls, S, came, n, _, F, hdd_w11, hI, hrd_w11, rfl, by omega, by omega, fun y h => .inl h, hkT_w11⟩
        · have c100p := of_decide_eq_false c100
          refine seq_ ?_
          refine region_ ?_
          refine wl_valE (v := .bool (decide (o.kind = ((5 : Nat) : Int)))) rfl (rf_eql rfl rfl rfl rfl) rfl ?_
          refine wl_valE (v := .bool (decide (o.kind = ((5 : Nat) : Int)))) rfl (rf_assign rfl) rfl ?_
          refine wl_nil ?_
          refine thn ?_
          refine cond_ (t := decide (o.kind = ((5 : Nat) : Int))) rfl rfl (fun c122 => ?_) (fun c122 => ?_)
          · have c122p := of_decide_eq_true c122
            refine seq_ ?_
            refine region_h (S := fun wq => Kp (none_) w1 wq) mixedP ?_
            intro w12 hk12
            have hdd_w12 := hdd_w1.keep hk12
            have hrd_w12 := hrd_w1.keep hk12
            have hrb_w12 := hrb_w1.keep hk12
            have hkT_w12 := hkT_w1.comp hk12 (fun _ _ e => e.elim)
            have hb1_w12 := hb1.keep hk12
            have hs12 := hk12.size
            have hS12 : Kp (none_) w1 w12 := hk12
            refine wh_take (i := 0) (v := .pointer (some ⟨b, 0, none⟩)) rfl (by kernel_rfl) (by kernel_rfl) (by kernel_rfl) hS12 rfl (fun wq hq => rf_move rfl) rfl ?_
            refine wh_take (i := 1) (v := .pointer (some ⟨b1, 4, none⟩)) rfl (by kernel_rfl) (by kernel_rfl) (by kernel_rfl) hS12 rfl (fun wq hq => rf_fieldAddr Try.underlying34 rfl ti3 rfl rfl) rfl ?_
            refine wh_take (i := 2) (v := .int .i64 o.num) rfl (by kernel_rfl) (by kernel_rfl) (by kernel_rfl) hS12 rfl (fun wq hq => rf_load Try.underlying3 rfl rfl rfl ((hb1.keep hq).cell rfl)) rfl ?_
            refine wh_take (i := 4) (v := .pointer (some ⟨rb, 0, none⟩)) rfl (by kernel_rfl) (by kernel_rfl) (by kernel_rfl) hS12 rfl (fun wq hq => rf_move rfl) rfl ?_
            refine wh_take (i := 5) (v := .pointer (some ⟨b1, 4, none⟩)) rfl (by kernel_rfl) (by kernel_rfl) (by kernel_rfl) hS12 rfl (fun wq hq => rf_fieldAddr Try.underlying34 rfl ti3 rfl rfl) rfl ?_
            refine wh_take (i := 6) (v := .int .i64 o.num) rfl (by kernel_rfl) (by kernel_rfl) (by kernel_rfl) hS12 rfl (fun wq hq => rf_load Try.underlying3 rfl rfl rfl ((hb1.keep hq).cell rfl)) rfl ?_
            refine wh_one (i := 3) (by kernel_rfl) rfl ?_
            refine wl_ret rfl (toldR_ret b bp rs ls S came n w12 hdd_w12 hI (by omega) (by omega) o.num) (rf_call Try.call10 rfl rfl) ?_
            rintro vt1 w13 ⟨htl1, hk13⟩
            have hdd_w13 := hdd_w12.keep hk13
            have hrd_w13 := hrd_w12.keep hk13
            have hrb_w13 := hrb_w12.keep hk13
            have hkT_w13 := hkT_w12.comp hk13 (fun _ _ e => e.elim)
            have hb1_w13 := hb1_w12.keep hk13
            have hS_w13 := hS12.comp hk13 (fun _ _ e => e.elim)
            have hs13 := hk13.size
            refine wl_nil ?_
            refine wh_back hS_w13 ?_
            refine wh_one (i := 7) (by kernel_rfl) rfl ?_
            refine wl_ret rfl (refEach_ret rb _ _ _ F w13 hrd_w13 o.num (by simp; omega)) (rf_call Try.call11 rfl rfl) ?_
            rintro ve1 w14 ⟨hel1, hk14⟩
            rw [eachR_eq] at hel1
            have hdd_w14 := hdd_w13.keep hk14
            have hrd_w14 := hrd_w13.keep hk14
            have hrb_w14 := hrb_w13.keep hk14
            have hkT_w14 := hkT_w13.comp hk14 (fun _ _ e => e.elim)
            have hb1_w14 := hb1_w13.keep hk14
            have hS_w14 := hS_w13.comp hk14 (fun _ _ e => e.elim)
            have htl1_w14 := htl1.keep hk14
            have hs14 := hk14.size
            refine wl_nil ?_
            refine wh_back hS_w14 ?_
            refine wh_one (i := 8) (by kernel_rfl) rfl ?_
            refine wl_ret rfl (same_ret vt1 ve1 _ _ _ w14 htl1_w14.rd hel1.rd (by simp; have := List.length_filter_le (inPR ls.length o.num) S; omega)) (rf_call Try.call9 rfl rfl) ?_
            rintro _ w15 ⟨rfl, hk15⟩
            have hdd_w15 := hdd_w14.keep hk15
            have hrd_w15 := hrd_w14.keep hk15
            have hrb_w15 := hrb_w14.keep hk15
            have hkT_w15 := hkT_w14.comp hk15 (fun _ _ e => e.elim)
            have hb1_w15 := hb1_w14.keep hk15
            have hS_w15 := hS_w14.comp hk15 (fun _ _ e => e.elim)
            have htl1_w15 := htl1_w14.keep hk15
            have hel1_w15 := hel1.keep hk15
            have hs15 := hk15.size
            refine wl_nil ?_
            refine wh_back hS_w15 ?_
            refine wh_take (i := 9) (v := .bool true) rfl (by kernel_rfl) (by kernel_rfl) (by kernel_rfl) hS_w15 rfl (fun wq hq => rf_move rfl) rfl ?_
            refine wh_takeG (i := 10) (v := .pointer (some ⟨b, 0, none⟩)) rfl (by kernel_rfl) (by kernel_rfl) (by kernel_rfl) hS_w15 rfl rfl rfl rfl rfl (fun wq hq => rf_move rfl) rfl ?_
            refine wh_takeG (i := 11) (v := .pointer (some ⟨b1, 4, none⟩)) rfl (by kernel_rfl) (by kernel_rfl) (by kernel_rfl) hS_w15 rfl rfl rfl rfl rfl (fun wq hq => rf_fieldAddr Try.underlying34 rfl ti3 rfl rfl) rfl ?_
            refine wh_takeG (i := 12) (v := .int .i64 o.num) rfl (by kernel_rfl) (by kernel_rfl) (by kernel_rfl) hS_w15 rfl rfl rfl rfl rfl (fun wq hq => rf_load Try.underlying3 rfl rfl rfl ((hb1.keep hq).cell rfl)) rfl ?_
            refine wh_takeG (i := 14) (v := .pointer (some ⟨rb, 0, none⟩)) rfl (by kernel_rfl) (by kernel_rfl) (by kernel_rfl) hS_w15 rfl rfl rfl rfl rfl (fun wq hq => rf_move rfl) rfl ?_
            refine wh_takeG (i := 15) (v := .pointer (some ⟨b1, 4, none⟩)) rfl (by kernel_rfl) (by kernel_rfl) (by kernel_rfl) hS_w15 rfl rfl rfl rfl rfl (fun wq hq => rf_fieldAddr Try.underlying34 rfl ti3 rfl rfl) rfl ?_
            refine wh_takeG (i := 16) (v := .int .i64 o.num) rfl (by kernel_rfl) (by kernel_rfl) (by kernel_rfl) hS_w15 rfl rfl rfl rfl rfl (fun wq hq => rf_load Try.underlying3 rfl rfl rfl ((hb1.keep hq).cell rfl)) rfl ?_
            refine wh_one (i := 13) (by kernel_rfl) rfl ?_
            refine wl_guardT rfl rfl rfl rfl ?_
            refine wl_ret rfl (toldR_ret b bp rs ls S came n w15 hdd_w15 hI (by omega) (by omega) o.num) (rf_call Try.call10 rfl rfl) ?_
            rintro vt2 w16 ⟨htl2, hk16⟩
            have hdd_w16 := hdd_w15.keep hk16
            have hrd_w16 := hrd_w15.keep hk16
            have hrb_w16 := hrb_w15.keep hk16
            have hkT_w16 := hkT_w15.comp hk16 (fun _ _ e => e.elim)
            have hb1_w16 := hb1_w15.keep hk16
            have hS_w16 := hS_w15.comp hk16 (fun _ _ e => e.elim)
            have htl1_w16 := htl1_w15.keep hk16
            have hel1_w16 := hel1_w15.keep hk16
            have hs16 := hk16.size
            refine wl_nil ?_
            refine wh_back hS_w16 ?_
            refine wh_one (i := 17) (by kernel_rfl) rfl ?_
            refine wl_guardT rfl rfl rfl rfl ?_
            refine wl_ret rfl (refEach_ret rb _ _ _ F w16 hrd_w16 o.num (by simp; omega)) (rf_call Try.call11 rfl rfl) ?_
            rintro ve2 w17 ⟨hel2, hk17⟩
            rw [eachR_eq] at hel2
            have hdd_w17 := hdd_w16.keep hk17
            have hrd_w17 := hrd_w16.keep hk17
            have hrb_w17 := hrb_w16.keep hk17
            have hkT_w17 := hkT_w16.comp hk17 (fun _ _ e => e.elim)
            have hb1_w17 := hb1_w16.keep hk17
            have hS_w17 := hS_w16.comp hk17 (fun _ _ e => e.elim)
            have htl1_w17 := htl1_w16.keep hk17
            have hel1_w17 := hel1_w16.keep hk17
            have htl2_w17 := htl2.keep hk17
            have hs17 := hk17.size
            refine wl_nil ?_
            refine wh_back hS_w17 ?_
            refine wh_one (i := 18) (by kernel_rfl) rfl ?_
            refine wl_guardT rfl rfl rfl rfl ?_
            refine wl_ret rfl (same_ret vt2 ve2 _ _ _ w17 htl2_w17.rd hel2.rd (by simp; have := List.length_filter_le (inPR ls.length o.num) S; omega)) (rf_call Try.call9 rfl rfl) ?_
            rintro _ w18 ⟨rfl, hk18⟩
            have hdd_w18 := hdd_w17.keep hk18
            have hrd_w18 := hrd_w17.keep hk18
            have hrb_w18 := hrb_w17.keep hk18
            have hkT_w18 := hkT_w17.comp hk18 (fun _ _ e => e.elim)
            have hb1_w18 := hb1_w17.keep hk18
            have hS_w18 := hS_w17.comp hk18 (fun _ _ e => e.elim)
            have htl1_w18 := htl1_w17.keep hk18
            have hel1_w18 := hel1_w17.keep hk18
            have htl2_w18 := htl2_w17.keep hk18
            have hel2_w18 := hel2.keep hk18
            have hs18 := hk18.size
            refine wl_nil ?_
            refine wh_back hS_w18 ?_
            refine wh_take (i := 19) (v := .bool true) rfl (by kernel_rfl) (by kernel_rfl) (by kernel_rfl) hS_w18 rfl (fun wq hq => rf_pickT rfl rfl rfl rfl) rfl ?_
            refine wh_take (i := 20) (v := .bool true) rfl (by kernel_rfl) (by kernel_rfl) (by kernel_rfl) hS_w18 rfl (fun wq hq => rf_assign rfl) rfl ?_
            refine wh_done (by kernel_rfl) ?_
            refine thn ?_
            refine ret_ ?_
            refine blr (thr ?_)
            refine fin1 (v := .bool true) Try.results8 rfl rfl ?_
            exact ⟨rfl, ls, S, came, n, _, F, hdd_w18, hI, hrd_w18, rfl, by omega, by omega, fun y h => .inl h, hkT_w18⟩
          · have c122p := of_decide_eq_false c122
            refine seq_ ?_
            refine region_ ?_
            refine wl_valE (v := .bool (decide (o.kind = ((6 : Nat) : Int)))) rfl (rf_eql rfl rfl rfl rfl) rfl ?_
            refine wl_valE (v := .bool (decide (o.kind = ((6 : Nat) : Int)))) rfl (rf_assign rfl) rfl ?_
            refine wl_nil ?_
            refine thn ?_
            refine cond_ (t := decide (o.kind = ((6 : Nat) : Int))) rfl rfl (fun c144 => ?_) (fun c144 => ?_)
            · have c144p := of_decide_eq_true c144
              refine seq_ ?_
              refine region_q mixedP (by kernel_rfl) ?_
              refine qt_valE (v := .pointer (some ⟨b, 0, none⟩)) rfl (fun wq hq => rf_move rfl) rfl ?_
              refine qt_valE (v := .pointer (some ⟨b1, 1, none⟩)) rfl (fun wq hq => rf_fieldAddr Try.underlying34 rfl ti28 rfl rfl) rfl ?_
              refine qt_valE (v := .agg #[.int .i64 o.key.table, .int .i64 o.key.row]) rfl (fun wq hq => rf_loadBlk Try.underlying28 rfl ti28 rfl rfl (hb1.keep hq) (Nat.le_of_ble_eq_true rfl)) rfl ?_
              refine qt_ret (v := .int .i64 ((rouF o.key % rs.length : Nat) : Int)) rfl (fun wq hq => (partR_ret o.key b bp rs ls came n wq (hdd_w1.keep hq)).mono (fun _ _ h => ⟨h.1, hq.trans h.2⟩)) (fun wq hq => rf_call Try.call21 rfl rfl) ?_
              refine qt_valE (v := .int .u64 ((rouF o.key : Nat) : Int)) rfl (fun wq hq => rf_move rfl) rfl ?_
              refine qt_valE (v := .pointer (some ⟨rb, 0, none⟩)) rfl (fun wq hq => rf_move rfl) rfl ?_
              refine qt_valE (v := .pointer (some ⟨rb, 0, none⟩)) rfl (fun wq hq => rf_nilCheckP rfl rfl) rfl ?_
              refine qt_valE (v := .pointer (some ⟨rb, 0, none⟩)) rfl (fun wq hq => rf_fieldAddr Try.underlying48 rfl ti3 rfl rfl) rfl ?_
              refine qt_valE (v := .int .i64 ((ls.length : Nat) : Int)) rfl (fun wq hq => rf_load Try.underlying3 rfl rfl rfl ((hrb_w1.keep hq).cell rfl)) rfl ?_
              refine qt_valE (v := .int .u64 ((ls.length : Nat) : Int)) rfl (fun wq hq => rf_conv Try.underlying3 Try.underlying36 rfl rfl (IntWalk.u64_in _ (by omega))) rfl ?_
              refine qt_valE (v := .int .u64 ((rouF o.key % ls.length : Nat) : Int)) rfl (fun wq hq => rf_rem rfl rfl rfl rfl (by omega) (tmodN _ _)) rfl ?_
              refine qt_valE (v := .int .i64 ((rouF o.key % ls.length : Nat) : Int)) rfl (fun wq hq => rf_conv Try.underlying36 Try.underlying3 rfl rfl (IntWalk.i64_in _ (by have := Nat.mod_lt (rouF o.key) (show 0 < ls.length by omega); omega))) rfl ?_
              refine qt_valE (v := .bool true) rfl (fun wq hq => rf_eql rfl rfl rfl rfl) (congrArg Value.bool (decide_eq_true (by rw [hll0]))) ?_
              refine qt_valE (v := .bool true) rfl (fun wq hq => rf_assign rfl) rfl ?_
              refine qt_nil ?_
              intro w19 hk19
              have hdd_w19 := hdd_w1.keep hk19
              have hrd_w19 := hrd_w1.keep hk19
              have hrb_w19 := hrb_w1.keep hk19
              have hkT_w19 := hkT_w1.comp hk19 (fun _ _ e => e.elim)
              have hb1_w19 := hb1.keep hk19
              have hs19 := hk19.size
              refine thn ?_
              refine ret_ ?_
              refine blr (thr ?_)
              refine fin1 (v := .bool true) Try.results8 rfl rfl ?_
              exact ⟨rfl, ls, S, came, n, _, F, hdd_w19, hI, hrd_w19, rfl, by omega, by omega, fun y h => .inl h, hkT_w19⟩
            · have c144p := of_decide_eq_false c144
              refine seq_ ?_
              refine region_ ?_
              refine wl_valE (v := .bool (decide (o.kind = ((7 : Nat) : Int)))) rfl (rf_eql rfl rfl rfl rfl) rfl ?_
              refine wl_valE (v := .bool (decide (o.kind = ((7 : Nat) : Int)))) rfl (rf_assign rfl) rfl ?_
              refine wl_nil ?_
              refine thn ?_
              refine cond_ (t := decide (o.kind = ((7 : Nat) : Int))) rfl rfl (fun c159 => ?_) (fun c159 => ?_)
              · have c159p := of_decide_eq_true c159
                refine seq_ ?_
                refine region_ ?_
                refine wl_valE (v := .pointer (some ⟨b, 0, none⟩)) rfl (rf_move rfl) rfl ?_
                refine wl_ret rfl (clearR_ret b bp rs ls came n w1 hdd_w1) (rf_call Try.call22 rfl rfl) ?_
                rintro vq w20 ⟨rfl, hd2, hk20⟩
                have hrd_w20 := hrd_w1.kp hk20 (fun y hy e => hsx y hy (hfpd y e))
                have hrb_w20 := hrb_w1.kp hk20 (fun e => hsx rb (.inl rfl) (hfpd rb e))
                have hkT_w20 := hkT_w1.comp hk20 (fun y hy e => .inl (hfpd y e))
                have hb1_w20 := hb1.kp hk20 (fun e => by have := hd.lt _ (hfpd _ e); omega)
                have hs20 := hk20.size
                refine wl_nil ?_
                refine thn ?_
                refine region_ ?_
                refine wl_valE (v := .pointer (some ⟨rb, 0, none⟩)) rfl (rf_move rfl) rfl ?_
                refine wl_ret rfl (refClear_ret rb _ _ _ F w20 hrd_w20) (rf_call Try.call23 rfl rfl) ?_
                rintro vq w21 ⟨rfl, av2, F2, hr2, hg2, hk21⟩
                have hkT_w21 := hkT_w20.comp hk21 (fun y hy e => .inr e)
                have hb1_w21 := hb1_w20.kp hk21 (fun e => by have := hr.lt _ e; omega)
                have hd2_w21 := hd2.kp hk21 (fun y hy e => hsx y e hy)
                have hs21 := hk21.size
                refine wl_nil ?_
                refine bln ?_
                refine thn ?_
                refine seq_ ?_
                refine region_ ?_
                refine wl_valE (v := .bool true) rfl (rf_assign rfl) rfl ?_
                refine wl_nil ?_
                refine thn ?_
                refine ret_ ?_
                refine fin1 (v := .bool true) Try.results8 rfl rfl ?_
                exact ⟨rfl, _, [], came, 0, av2, F2, hd2_w21, hI.clear, hr2, by rw [List.length_replicate], by simp, by omega, fun y h => (hg2 y h).imp id (fun h => by omega), hkT_w21⟩
              · have c159p := of_decide_eq_false c159
                refine skip_ ?_
                refine bln ?_
                refine thn ?_
                refine seq_ ?_
                refine region_ ?_
                refine wl_valE (v := .bool true) rfl (rf_assign rfl) rfl ?_
                refine wl_nil ?_
                refine thn ?_
                refine ret_ ?_
                refine fin1 (v := .bool true) Try.results8 rfl rfl ?_
                exact ⟨rfl, ls, S, came, n, _, F, hdd_w1, hI, hrd_w1, rfl, by omega, by omega, fun y h => .inl h, hkT_w1⟩

def SideR (w : World) (b rb m i : Nat) (T : Nat → Prop) : Prop :=
  ∃ (bp : Nat) (rs : List Nat) (ls : List (List (Key × SlotR))) (S : List SlotR) (came n : Int) (av : Value) (F : Nat → Prop), DictR w b bp rs ls came n ∧ DIR ls S came n ∧ RefD w rb ((ls.length : Nat) : Int) (S.map (prR ls.length)) av F ∧ ls.length = m ∧ S.length ≤ i ∧ came ≤ i ∧ (∀ y, (y = rb ∨ F y) → ¬ fpD b bp rs y) ∧ (∀ y, fpD b bp rs y ∨ y = rb ∨ F y → T y) ∧ ∀ y, T y → y < w.heap.size
theorem SideR.kp {w w' : World} {b rb m i : Nat} {T S : Nat → Prop} (h : SideR w b rb m i T) (hk : Kp S w w') (hs : ∀ y, T y → ¬ S y) : SideR w' b rb m i T := by
  obtain ⟨bp, rs, ls, S0, came, n, av, F, h1, h2, h3, h4, h5, h6, h7, h8, h9⟩ := h
  exact ⟨bp, rs, ls, S0, came, n, av, F, h1.kp hk (fun x hx => hs x (h8 x (.inl hx))), h2, h3.kp hk (fun y hy => hs y (h8 y (.inr hy))), h4, h5, h6, h7, h8, fun y hy => Nat.lt_of_lt_of_le (h9 y hy) hk.size⟩
theorem SideR.keep {w w' : World} {b rb m i : Nat} {T : Nat → Prop} (h : SideR w b rb m i T) (hk : Kp none_ w w') : SideR w' b rb m i T := h.kp hk (fun _ _ h => h)
theorem SideR.step {w : World} {b rb m i : Nat} {T : Nat → Prop} (h : SideR w b rb m i T) : SideR w b rb m (i + 1) T := by
  obtain ⟨bp, rs, ls, S0, came, n, av, F, h1, h2, h3, h4, h5, h6, h7⟩ := h
  exact ⟨bp, rs, ls, S0, came, n, av, F, h1, h2, h3, h4, by omega, by omega, h7⟩
theorem SideR.lt {w : World} {b rb m i : Nat} {T : Nat → Prop} (h : SideR w b rb m i T) : ∀ y, T y → y < w.heap.size := by
  obtain ⟨bp, rs, ls, S0, came, n, av, F, h1, h2, h3, h4, h5, h6, h7, h8, h9⟩ := h
  exact h9
theorem SideR.new {w : World} {b rb m bp : Nat} {rs : List Nat} {T : Nat → Prop} (hm : 1 ≤ m) (h1 : DictR w b bp rs (List.replicate m []) 0 0) (h2 : RefD w rb (m : Int) [] (.slice none 0 0) (fun _ => False)) (h3 : ¬ fpD b bp rs rb) (h4 : ∀ y, fpD b bp rs y ∨ y = rb → T y) (h5 : ∀ y, T y → y < w.heap.size) : SideR w b rb m 0 T :=
by
  refine ⟨bp, rs, _, [], 0, 0, .slice none 0 0, (fun _ => False), h1, DIR.new (by omega), by simpa using h2, by simp, by simp, by simp, fun y hy => ?_, fun y hy => ?_, h5⟩
  · rcases hy with rfl | h
    · exact h3
    · exact h.elim
  · rcases hy with e | e | e
    · exact h4 y (.inl e)
    · exact h4 y (.inr e)
    · exact e.elim
theorem sideR_played {w : World} {b rb m i : Nat} {T : Nat → Prop} (h : SideR w b rb m i T) (hi : i ≤ 2932031007390) (o : OpR) :
    Ret Try.prog 8 [.pointer (some ⟨b, 0, none⟩), .pointer (some ⟨rb, 0, none⟩), .agg #[.int .i64 o.kind, .int .i64 o.key.table, .int .i64 o.key.row, .int .i64 o.v, .int .i64 o.num, .bool o.two], .int .u64 ((rouF o.key : Nat) : Int)] w fun v w' => v = .bool true ∧ ∃ T', SideR w' b rb m (i + 1) T' ∧ (∀ y, T' y → T y ∨ w.heap.size ≤ y) ∧ Kp T w w' := by
  obtain ⟨bp, rs, ls, S0, came, n, av, F, h1, h2, h3, h4, h5, h6, h7, h8, h9⟩ := h
  refine Ret.mono (playedR_ret b bp rs ls S0 came n w h1 h2 (by omega) (by omega) rb av F h3 h7 o) ?_
  rintro _ w' ⟨rfl, ls', S', came', n', av', F', g1, g2, g3, g4, g5, g6, g7, g8⟩
  have hk : Kp T w w' := g8.mono (fun y _ hy => h8 y hy)
  rw [← g4] at g3
  refine ⟨rfl, fun y => (T y ∨ w.heap.size ≤ y) ∧ y < w'.heap.size, ⟨bp, rs, ls', S', came', n', av', F', g1, g2, g3, g4.trans h4, by omega, by omega, fun y hy => ?_, fun y hy => ?_, fun y hy => hy.2⟩, fun y hy => hy.1, hk⟩
  · rcases hy with rfl | hy
    · exact h7 y (.inl rfl)
    · rcases g7 y hy with h | h
      · exact h7 y (.inr h)
      · exact fun e => by have := h1.lt y e; omega
  · rcases hy with hy | hy | hy
    · exact ⟨.inl (h8 y (.inl hy)), g1.lt y hy⟩
    · exact ⟨.inl (h8 y (.inr (.inl hy))), g3.lt y (.inl hy)⟩
    · exact ⟨(g7 y hy).imp (fun h => h8 y (.inr (.inr h))) id, g3.lt y (.inr hy)⟩
end Go.Proofs.Ytenhbogebfdjjaa.W
