import Derived.Test.YtiidihgimcebgaaC1
import Derived.KernelRfl
namespace Go.Proofs.Ytiidihgimcebgaa.W
open Go Go.Wk
set_option linter.unusedVariables false
set_option linter.unusedSimpArgs false
theorem left_tr {ps : List Nat} {cs : List Cho} (i : Nat) (c : Cho) (hc : cs[i]? = some c) : Tr Try.prog 13 [.pointer (some ⟨pof ps i, 0, none⟩)] [ChH ps cs] [] (fun v m => v = .int .i64 c.left ∧ m = []) := by
  intro w0 S0 H0
  have H1a := H0.allR (B := choreH ps i c) 0 i rfl (by have := chL_get (ps := ps) (k := 0) hc; simpa using this)
  obtain ⟨x, _, H1⟩ := choreH.openR H1a 1 rfl
  refine enterR Try.func13 rfl Try.ntmps13 rfl ?_
  intro g0
  refine seq_ ?_
  refine region_ ?_
  refine wl_valE (v := .int .i64 (0 : Int)) rfl (rf_assign rfl) rfl ?_
  refine wl_nil ?_
  refine thn ?_
  refine seq_ ?_
  refine region_ ?_
  refine wl_valE (v := .pointer (some ⟨pof ps i, 0, none⟩)) rfl (rf_move rfl) rfl ?_
  refine wl_valE (v := .pointer (some ⟨pof ps i, 0, none⟩)) rfl (rf_nilCheckP rfl rfl) rfl ?_
  refine wl_valE (v := .pointer (some ⟨pof ps i, 0, none⟩)) rfl (rf_fieldAddr Try.underlying55 rfl ti3 rfl rfl) rfl ?_
  refine wl_valE (v := .int .i64 c.left) rfl (rf_load Try.underlying3 rfl rfl rfl ((H1.blkR 2 rfl).cell rfl)) rfl ?_
  refine wl_valE (v := .int .i64 c.left) rfl (rf_assign rfl) rfl ?_
  refine wl_nil ?_
  refine thn ?_
  refine ret_ ?_
  refine fin1 (v := .int .i64 c.left) Try.results13 rfl rfl ?_
  exact ⟨_, ⟨rfl, rfl⟩, (H1.weakR 1 rfl).pick' [] rfl rfl⟩
theorem ready_tr {ps : List Nat} {cs : List Cho} (hok : OkB cs) (hbl : ∀ (i : Nat) (c : Cho), cs[i]? = some c → c.bh.length ≤ 4398046511104) (i : Nat) (c : Cho) (hc : cs[i]? = some c) : Tr Try.prog 29 [.pointer (some ⟨pof ps i, 0, none⟩)] [ChH ps cs] [] (fun v m => v = .bool (rdyC cs c) ∧ m = []) := by
  intro w0 S0 H0
  have H1a := H0.allR (B := choreH ps i c) 0 i rfl (by have := chL_get (ps := ps) (k := 0) hc; simpa using this)
  obtain ⟨x, _, H1⟩ := choreH.openR H1a 1 rfl
  have hxn := (rd_len (H1.rdR 3 slH_rd)).1
  rw [List.length_map] at hxn
  have hxb := hbl i c hc
  refine enterR Try.func29 rfl Try.ntmps29 rfl ?_
  intro g0
  refine seq_ ?_
  refine region_ ?_
  refine wl_valE (v := .bool false) rfl (rf_assign rfl) rfl ?_
  refine wl_nil ?_
  refine thn ?_
  refine seq_ ?_
  refine seq_ ?_
  refine region_ ?_
  refine wl_valE (v := .pointer (some ⟨pof ps i, 0, none⟩)) rfl (rf_move rfl) rfl ?_
  refine wl_valE (v := .pointer (some ⟨pof ps i, 0, none⟩)) rfl (rf_nilCheckP rfl rfl) rfl ?_
  refine wl_valE (v := .pointer (some ⟨pof ps i, 0, none⟩)) rfl (rf_fieldAddr Try.underlying55 rfl ti3 rfl rfl) rfl ?_
  refine wl_valE (v := .int .i64 c.left) rfl (rf_load Try.underlying3 rfl rfl rfl ((H1.blkR 2 rfl).cell rfl)) rfl ?_
  refine wl_valE (v := .bool (decide (c.left = (0 : Int)))) rfl (rf_eql rfl rfl rfl rfl) rfl ?_
  refine wl_nil ?_
  refine thn ?_
  refine cond_ (t := decide (c.left = (0 : Int))) rfl rfl (fun c9 => ?_) (fun c9 => ?_)
  · have c9p := of_decide_eq_true c9
    refine seq_ ?_
    refine region_ ?_
    refine wl_valE (v := .bool false) rfl (rf_assign rfl) rfl ?_
    refine wl_nil ?_
    refine thn ?_
    refine ret_ ?_
    refine thr ?_
    refine fin1 (v := .bool false) Try.results29 rfl rfl ?_
    exact ⟨_, ⟨by unfold rdyC; rw [c9p]; rfl, rfl⟩, (H1.weakR 1 rfl).pick' [] rfl rfl⟩
  · have c9p := of_decide_eq_false c9
    refine skip_ ?_
    refine thn ?_
    refine seq_ ?_
    refine seq_ ?_
    refine region_ ?_
    refine wl_valE (v := .pointer (some ⟨pof ps i, 0, none⟩)) rfl (rf_move rfl) rfl ?_
    refine wl_valE (v := .pointer (some ⟨pof ps i, 0, none⟩)) rfl (rf_nilCheckP rfl rfl) rfl ?_
    refine wl_valE (v := .pointer (some ⟨pof ps i, 1, none⟩)) rfl (rf_fieldAddr Try.underlying55 rfl ti26 rfl rfl) rfl ?_
    refine wl_valE (v := .slice x.a x.n x.c) rfl (rf_load Try.underlying26 rfl rfl rfl ((H1.blkR 2 rfl).cell rfl)) rfl ?_
    refine wl_valE (v := .int .i64 ((x.n : Nat) : Int)) rfl (rf_len_slice Try.underlying26 rfl rfl) rfl ?_
    refine wl_valE (v := .int .i64 (0 : Int)) rfl (rf_move rfl) rfl ?_
    refine wl_nil ?_
    refine thn ?_
    refine block_ ?_
    refine loop_ (fun qk_ qf_ qw_ => ∃ (g : Nat → Value) (k : Nat), qf_ = upds g [(13, .slice x.a x.n x.c), (14, .int .i64 ((x.n : Nat) : Int)), (15, .int .i64 ((k : Nat) : Int))] ∧ qk_ = x.n - k ∧ (k ≤ x.n) ∧ ((c.bh.drop k).all (okb cs) = c.bh.all (okb cs)) ∧ St w0 S0 [ChH ps cs, choreH ps i c, blkH (pof ps i) #[.int .i64 c.left, .slice x.a x.n x.c] 55, slH encOP 1 30 x.a x.n x.c (c.bh.map (ppf ps))] qw_ []) (x.n - 0) ?_ ?_
    · refine ⟨_, 0, upds_self ⟨rfl, rfl, rfl, trivial⟩, rfl, Nat.zero_le _, rfl, H1.pick' [] rfl rfl⟩
    · rintro lk0 _ wl0 ⟨gl0, k, rfl, hlk0, hk, hal, HL0⟩
      refine seq_ ?_
      refine region_ ?_
      refine wl_valE (v := .bool (decide (((k : Nat) : Int) < ((x.n : Nat) : Int)))) rfl (rf_lss rfl rfl rfl rfl) rfl ?_
      refine wl_nil ?_
      refine thn ?_
      refine seq_ ?_
      refine cond_ (t := decide (((k : Nat) : Int) < ((x.n : Nat) : Int))) rfl rfl (fun c16 => ?_) (fun c16 => ?_)
      · have c16p := of_decide_eq_true c16
        refine skip_ ?_
        refine thn ?_
        refine seq_ ?_
        refine block_ ?_
        refine seq_ ?_
        refine region_ ?_
        refine wl_valE (v := .pointer (some ⟨ab x.a, ao x.a + k * 1, none⟩)) rfl (rf_indexAddrH Try.underlying26 ti30 rfl rfl rfl rfl (by omega) (by omega) (HL0.rdR 3 slH_rd)) rfl ?_
        have hn3 := rd_len (HL0.rdR 3 slH_rd)
        obtain ⟨x2, hx2⟩ : ∃ q_, (c.bh.map (ppf ps))[k]? = some q_ := ⟨_, List.getElem?_eq_getElem (by omega)⟩
        refine wl_valE (v := .pointer (x2.map fun b => ⟨b, 0, none⟩)) rfl (rf_load Try.underlying30 rfl rfl rfl (rd_el (HL0.rdR 3 slH_rd) hx2 0 _ rfl)) rfl ?_
        obtain ⟨o, ho, rfl⟩ : ∃ o, c.bh[k]? = some o ∧ x2 = ppf ps o := by rw [List.getElem?_map] at hx2; cases hq : c.bh[k]? with | none => (rw [hq] at hx2; cases hx2) | some o => (rw [hq] at hx2; exact ⟨o, rfl, (Option.some.inj hx2).symm⟩)
        refine wl_valE (v := .pointer ((ppf ps o).map fun b => ⟨b, 0, none⟩)) rfl (rf_assign rfl) rfl ?_
        refine wl_nil ?_
        refine thn ?_
        refine seq_ ?_
        refine region_ ?_
        refine wl_valE (v := .pointer ((ppf ps o).map fun b => ⟨b, 0, none⟩)) rfl (rf_move rfl) rfl ?_
        refine wl_valE (v := .bool o.isSome) rfl (rf_neqPN Try.underlying30 rfl rfl rfl rfl) (by cases o <;> rfl) ?_
        refine wl_valE (v := .bool o.isSome) rfl (rf_move rfl) rfl ?_
        refine wl_split (o.isSome) (fun u6_2 => ?_) (fun u6_2 => ?_)
        · obtain ⟨j, rfl⟩ := Option.isSome_iff_exists.1 u6_2
          obtain ⟨d, hd⟩ : ∃ d, cs[j]? = some d := ⟨_, List.getElem?_eq_getElem ((hok i c hc).2.2 j (List.mem_of_getElem? ho))⟩
          have H4a := HL0.allR (B := choreH ps j d) 0 j rfl (by have := chL_get (ps := ps) (k := 0) hd; simpa using this)
          obtain ⟨y, _, H4⟩ := choreH.openR H4a 4 rfl
          refine wl_guardT rfl rfl rfl u6_2 ?_
          refine wl_valE (v := .pointer (some ⟨pof ps j, 0, none⟩)) rfl (rf_move rfl) rfl ?_
          refine wl_guardT rfl rfl rfl u6_2 ?_
          refine wl_valE (v := .pointer (some ⟨pof ps j, 0, none⟩)) rfl (rf_nilCheckP rfl rfl) rfl ?_
          refine wl_guardT rfl rfl rfl u6_2 ?_
          refine wl_valE (v := .pointer (some ⟨pof ps j, 0, none⟩)) rfl (rf_fieldAddr Try.underlying55 rfl ti3 rfl rfl) rfl ?_
          refine wl_guardT rfl rfl rfl u6_2 ?_
          refine wl_valE (v := .int .i64 d.left) rfl (rf_load Try.underlying3 rfl rfl rfl ((H4.blkR 5 rfl).cell rfl)) rfl ?_
          refine wl_guardT rfl rfl rfl u6_2 ?_
          refine wl_valE (v := .bool (decide ((0 : Int) < d.left))) rfl (rf_gtr rfl rfl rfl rfl) rfl ?_
          refine wl_valE (v := .bool (decide ((0 : Int) < d.left))) rfl (rf_pickT rfl rfl rfl u6_2) rfl ?_
          refine wl_nil ?_
          refine thn ?_
          refine cond_ (t := decide ((0 : Int) < d.left)) rfl rfl (fun c27 => ?_) (fun c27 => ?_)
          · have c27p := of_decide_eq_true c27
            refine seq_ ?_
            refine region_ ?_
            refine wl_valE (v := .bool false) rfl (rf_assign rfl) rfl ?_
            refine wl_nil ?_
            refine thn ?_
            refine ret_ ?_
            refine blr (thr (thr (blr (thr ?_))))
            refine fin1 (v := .bool false) Try.results29 rfl rfl ?_
            exact ⟨_, ⟨by unfold rdyC; rw [show c.bh.all (okb cs) = false from by rw [← hal, drop_at ho, List.all_cons, show okb cs (some j) = false from by simp only [okb, leftOf_at hd]; simp; omega, Bool.false_and], Bool.and_false], rfl⟩, (H4.weakR 1 rfl).pick' [] rfl rfl⟩
          · have c27p := of_decide_eq_false c27
            have hob : okb cs (some j) = true := by simp only [okb, leftOf_at hd]; simp; omega
            refine skip_ ?_
            refine bln ?_
            refine thn ?_
            refine region_ ?_
            refine wl_valE (v := .int .i64 ((k + 1 : Nat) : Int)) rfl (rf_add rfl rfl rfl rfl (IntWalk.i64_in _ (by omega))) rfl ?_
            refine wl_valE (v := .int .i64 ((k + 1 : Nat) : Int)) rfl (rf_move rfl) rfl ?_
            refine wl_nil ?_
            refine thn ?_
            refine ⟨x.n - (k + 1), _, rfl, (by omega), _, k + 1, upds_self ⟨rfl, rfl, rfl, trivial⟩, rfl, by omega, by rw [← hal, drop_at ho, List.all_cons, hob]; rfl, (H4.weakR 4 rfl).pick' [] rfl rfl⟩
        · have hob : okb cs o = true := by cases o with | none => rfl | some j => cases u6_2
          refine wl_guardF rfl rfl rfl u6_2 ?_
          refine wl_guardF rfl rfl rfl u6_2 ?_
          refine wl_guardF rfl rfl rfl u6_2 ?_
          refine wl_guardF rfl rfl rfl u6_2 ?_
          refine wl_guardF rfl rfl rfl u6_2 ?_
          refine wl_valE (v := .bool false) rfl (rf_pickF rfl rfl rfl u6_2) rfl ?_
          refine wl_nil ?_
          refine thn ?_
          refine condF rfl rfl ?_
          refine skip_ ?_
          refine bln ?_
          refine thn ?_
          refine region_ ?_
          refine wl_valE (v := .int .i64 ((k + 1 : Nat) : Int)) rfl (rf_add rfl rfl rfl rfl (IntWalk.i64_in _ (by omega))) rfl ?_
          refine wl_valE (v := .int .i64 ((k + 1 : Nat) : Int)) rfl (rf_move rfl) rfl ?_
          refine wl_nil ?_
          refine thn ?_
          refine ⟨x.n - (k + 1), _, rfl, (by omega), _, k + 1, upds_self ⟨rfl, rfl, rfl, trivial⟩, rfl, by omega, by rw [← hal, drop_at ho, List.all_cons, hob]; rfl, HL0.pick' [] rfl rfl⟩
      · have c16p := of_decide_eq_false c16
        refine exit_ ?_
        refine thx (thx (blx ?_))
        refine thn ?_
        refine seq_ ?_
        refine region_ ?_
        refine wl_valE (v := .bool true) rfl (rf_assign rfl) rfl ?_
        refine wl_nil ?_
        refine thn ?_
        refine ret_ ?_
        refine fin1 (v := .bool true) Try.results29 rfl rfl ?_
        exact ⟨_, ⟨by unfold rdyC; rw [← hal, drop_all (by omega)]; simp; omega, rfl⟩, (HL0.weakR 1 rfl).pick' [] rfl rfl⟩
theorem step_tr {ps : List Nat} {cs : List Cho} (hok : OkB cs) (hbl : ∀ (i : Nat) (c : Cho), cs[i]? = some c → c.bh.length ≤ 4398046511104) (i : Nat) (c : Cho) (hc : cs[i]? = some c) : Tr Try.prog 37 [.pointer (some ⟨pof ps i, 0, none⟩)] [] [ChH ps cs] (fun v m => v = .tuple #[] ∧ m = [ChH ps (stepC cs i)]) := by
  intro w0 S0 H0
  refine enterR Try.func37 rfl Try.ntmps37 rfl ?_
  intro g0
  refine seq_ ?_
  refine region_ ?_
  refine wl_valE (v := .pointer (some ⟨pof ps i, 0, none⟩)) rfl (rf_move rfl) rfl ?_
  refine wl_tr H0 rfl [] (ready_tr hok hbl i c hc) rfl (.own 0 rfl Le.rfl .nil) (rf_call Try.call29 rfl rfl) rfl ?_
  rintro _ w1 _ ⟨rfl, rfl⟩ H1
  refine wl_nil ?_
  refine thn ?_
  refine cond_ (t := rdyC cs c) rfl rfl (fun c3 => ?_) (fun c3 => ?_)
  · have H2a := ChH.take H1 0 rfl rfl hc
    obtain ⟨x, _, H2⟩ := choreH.open_ H2a 1 rfl rfl
    have hr := hok i c hc
    refine region_ ?_
    refine wl_valE (v := .pointer (some ⟨pof ps i, 0, none⟩)) rfl (rf_move rfl) rfl ?_
    refine wl_valE (v := .pointer (some ⟨pof ps i, 0, none⟩)) rfl (rf_nilCheckP rfl rfl) rfl ?_
    refine wl_valE (v := .pointer (some ⟨pof ps i, 0, none⟩)) rfl (rf_fieldAddr Try.underlying55 rfl ti3 rfl rfl) rfl ?_
    refine wl_valE (v := .int .i64 c.left) rfl (rf_load Try.underlying3 rfl rfl rfl ((H2.blk 1 rfl).cell rfl)) rfl ?_
    refine wl_valE (v := .int .i64 (c.left - (1 : Int))) rfl (rf_sub rfl rfl rfl rfl (IntWalk.i64_in _ (by omega))) rfl ?_
    refine wl_valE (v := .pointer (some ⟨pof ps i, 0, none⟩)) rfl (rf_nilCheckP rfl rfl) rfl ?_
    refine wl_valE (v := .pointer (some ⟨pof ps i, 0, none⟩)) rfl (rf_fieldAddr Try.underlying55 rfl ti3 rfl rfl) rfl ?_
    refine wl_storeH H2 1 (v := .int .i64 (c.left - (1 : Int))) (A' := #[.int .i64 (c.left - (1 : Int)), .slice x.a x.n x.c]) rfl rfl ti3 rfl rfl rfl rfl rfl (ltb rfl) rfl ?_
    intro w3 H3
    refine wl_nil ?_
    refine fin_ ?_
    refine fin0 Try.results37 ?_
    have H4a := choreH.close_ (ps := ps) (i := i) (c := { c with left := c.left - 1 }) H3 [1, 2] x trivial rfl rfl
    have H4 := ChH.give (d := { c with left := c.left - 1 }) H4a 0 1 rfl rfl rfl hc
    dsimp only [putsH, setH, List.cons_append, List.nil_append] at H4
    have he : stepC cs i = cs.set i { c with left := c.left - 1 } := by unfold stepC; rw [hc]; simp only [c3, if_true]
    rw [he]
    exact ⟨_, ⟨rfl, rfl⟩, H4.pick' [0] rfl rfl⟩
  · refine skip_ ?_
    refine fin_ ?_
    refine fin0 Try.results37 ?_
    have he : stepC cs i = cs := by unfold stepC; rw [hc]; simp only [c3, if_false, Bool.false_eq_true]
    rw [he]
    exact ⟨_, ⟨rfl, rfl⟩, H1.pick' [0] rfl rfl⟩
end Go.Proofs.Ytiidihgimcebgaa.W
