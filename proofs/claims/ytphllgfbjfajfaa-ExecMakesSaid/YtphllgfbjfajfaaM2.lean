import Derived.Test.YtphllgfbjfajfaaM1
import Derived.KernelRfl
namespace Go.Proofs.Ytphllgfbjfajfaa.W
open Go Go.Wk
set_option linter.unusedVariables false
set_option linter.unusedSimpArgs false

theorem same_push {l own : List ProcR} {x y : ProcR} (h : ∀ (j : Nat) a b, l[j]? = some a → own[j]? = some b → sameP a b) (hx : l[own.length]? = some x) (hs : sameP x y) : ∀ (j : Nat) a b, l[j]? = some a → (own ++ [y])[j]? = some b → sameP a b := fun j a b ha hb => by
  rw [List.getElem?_append] at hb
  split at hb
  · exact h j a b ha hb
  · have hj : j = own.length := by
      obtain ⟨q, _⟩ := List.getElem?_eq_some_iff.1 hb
      simp at q; omega
    subst hj
    rw [hx] at ha; cases ha
    simp at hb; subst hb; exact hs
theorem bnd_push {own : List ProcR} {y : ProcR} {N : Nat} (h : ∀ x ∈ own, x.prog.code.n ≤ N) (hy : y.prog.code.n ≤ N) : ∀ x ∈ own ++ [y], x.prog.code.n ≤ N := fun x hx => by
  rcases List.mem_append.1 hx with hx | hx
  · exact h x hx
  · simp at hx; subst hx; exact hy
theorem herr_eq {l m : List ProcR} (h : errL l = errL m) (d : Int) : herr l d = herr m d := by unfold herr; rw [h]
theorem case_h (l : List ProcR) (d : Int) : (errL l = 0 ∧ 1 ≤ d ∧ d ≤ 64) ∨ herr l d ≠ 0 := by unfold herr; omega
theorem num_tr (e : Int) : Tr Try.prog 8 [.int .i64 e] [] [] (fun v m => v = .int .i64 e ∧ m = []) := by
  intro w0 S0 H0
  refine enterR Try.func8 rfl Try.ntmps8 rfl ?_
  intro g0
  refine seq_ ?_
  refine region_ ?_
  refine wl_valE (v := .int .i64 (0 : Int)) rfl (rf_assign rfl) rfl ?_
  refine wl_nil ?_
  refine thn ?_
  refine seq_ ?_
  refine region_ ?_
  refine wl_valE (v := .int .i64 e) rfl (rf_move rfl) rfl ?_
  refine wl_valE (v := .int .i64 e) rfl (rf_assign rfl) rfl ?_
  refine wl_nil ?_
  refine thn ?_
  refine ret_ ?_
  refine fin1 (v := .int .i64 e) Try.results8 rfl rfl ?_
  exact ⟨_, ⟨rfl, rfl⟩, H0.pick' [] rfl rfl⟩
set_option maxRecDepth 100000 in
theorem copyLib_tr (a : Option Addr) (n c : Nat) (lib : List ProcR) (hn : n ≤ 1048576) (hb : ∀ x ∈ lib, x.prog.code.n ≤ 1048576)  : Tr Try.prog 11 [.slice a n c] [rdH encProc 6 a n c lib, shH (lib.map mkC)] [] (fun v m => ∃ a' c' own, v = .slice a' n c' ∧ own.length = n ∧ errL own = errL lib ∧ (∀ x ∈ own, x.prog.code.n ≤ 1048576) ∧ m = [slH encProc 6 34 a' n c' own, allH (own.map mkCo)]) := by
  intro w0 S0 H0
  have hl := (rd_len (H0.rdR 0 Le.rfl)).1
  refine enterR Try.func11 rfl Try.ntmps11 rfl ?_
  intro g0
  refine seq_ ?_
  refine region_ ?_
  refine wl_valE (v := .slice none 0 0) rfl (rf_assign rfl) rfl ?_
  refine wl_nil ?_
  refine thn ?_
  refine seq_ ?_
  refine region_ ?_
  refine wl_valE (v := .slice none 0 0) rfl (rf_assign rfl) rfl ?_
  refine wl_nil ?_
  refine thn ?_
  refine seq_ ?_
  refine seq_ ?_
  refine region_ ?_
  refine wl_valE (v := .int .i64 (0 : Int)) rfl (rf_assign rfl) rfl ?_
  refine wl_nil ?_
  refine thn ?_
  refine block_ ?_
  have H1 := St.addM (α := ProcR) mkCo H0
  have H2 := H1.addNil encProc 6 34 (α := ProcR)
  refine loop_ (fun qk_ qf_ qw_ => ∃ (g : Nat → Value) (i : Nat) (oa : Option Addr) (oc : Nat) (own : List ProcR), qf_ = upds g [(0, .slice a n c), (3, .slice oa i oc), (4, .int .i64 ((i : Nat) : Int))] ∧ qk_ = n - i ∧ (i ≤ n ∧ own.length = i) ∧ (∀ (j : Nat) a b, lib[j]? = some a → own[j]? = some b → sameP a b) ∧ (∀ x ∈ own, x.prog.code.n ≤ 1048576) ∧ St w0 S0 [rdH encProc 6 a n c lib, shH (lib.map mkC)] qw_ [allH (own.map mkCo), slH encProc 6 34 oa i oc own]) (n - 0) ?_ ?_
  · refine ⟨_, 0, none, 0, [], upds_self ⟨rfl, rfl, rfl, trivial⟩, rfl, ⟨Nat.zero_le _, rfl⟩, fun j a b _ h => by simp at h, fun x h => by simp at h, H2.pick' [0, 1] rfl rfl⟩
  · rintro lk0 _ wl0 ⟨gl0, i, oa, oc, own, rfl, hlk0, ⟨hi, hol⟩, hsm, hob, HL0⟩
    refine seq_ ?_
    refine seq_ ?_
    refine region_ ?_
    refine wl_valE (v := .int .i64 ((i : Nat) : Int)) rfl (rf_move rfl) rfl ?_
    refine wl_valE (v := .slice a n c) rfl (rf_move rfl) rfl ?_
    refine wl_valE (v := .int .i64 ((n : Nat) : Int)) rfl (rf_len_slice Try.underlying24 rfl rfl) rfl ?_
    refine wl_valE (v := .bool (decide (((i : Nat) : Int) < ((n : Nat) : Int)))) rfl (rf_lss rfl rfl rfl rfl) rfl ?_
    refine wl_nil ?_
    refine thn ?_
    refine cond_ (t := decide (((i : Nat) : Int) < ((n : Nat) : Int))) rfl rfl (fun c10 => ?_) (fun c10 => ?_)
    · have c10p := of_decide_eq_true c10
      refine skip_ ?_
      refine thn ?_
      refine seq_ ?_
      refine block_ ?_
      refine seq_ ?_
      have hn3 := rd_len (HL0.rdR 0 Le.rfl)
      obtain ⟨x, hx⟩ : ∃ q_, lib[i]? = some q_ := ⟨_, List.getElem?_eq_getElem (by omega)⟩
      have H4 := HL0.shR 1 i rfl (getH_map mkC hx)
      try dsimp only [mkC, List.cons_append, List.nil_append] at H4
      have hxn := hb x (List.mem_of_getElem? hx)
      refine region_ ?_
      refine wl_valE (v := .slice a n c) rfl (rf_move rfl) rfl ?_
      refine wl_valE (v := .int .i64 ((i : Nat) : Int)) rfl (rf_move rfl) rfl ?_
      refine wl_valE (v := .pointer (some ⟨ab a, ao a + i * 6, none⟩)) rfl (rf_indexAddrH Try.underlying24 ti34 rfl rfl rfl rfl (by omega) (by omega) (H4.rdR 0 Le.rfl)) rfl ?_
      refine wl_valE (v := .agg #[.string x.name, .int .i64 x.prog.args, .int .i64 x.prog.reads, .int .i64 x.prog.writes, .int .i64 x.prog.locals, .slice x.prog.code.a x.prog.code.n x.prog.code.c]) rfl (rf_loadAgg (cs := [.string x.name, .int .i64 x.prog.args, .int .i64 x.prog.reads, .int .i64 x.prog.writes, .int .i64 x.prog.locals, .slice x.prog.code.a x.prog.code.n x.prog.code.c]) Try.underlying34 rfl ti34 rfl rfl (el_sub' (rd_el (H4.rdR 0 Le.rfl) hx) 0 6 rfl) rfl) rfl ?_
      refine wl_allocH H4 ti34 ?_
      intro bx w6 H6
      refine wl_storeAggH H6 2 (o := 0) (cs := [.string x.name, .int .i64 x.prog.args, .int .i64 x.prog.reads, .int .i64 x.prog.writes, .int .i64 x.prog.locals, .slice x.prog.code.a x.prog.code.n x.prog.code.c]) (A' := #[.string x.name, .int .i64 x.prog.args, .int .i64 x.prog.reads, .int .i64 x.prog.writes, .int .i64 x.prog.locals, .slice x.prog.code.a x.prog.code.n x.prog.code.c]) rfl rfl ti34 rfl rfl rfl rfl rfl oneAll (leb rfl) rfl ?_
      intro w7 H7
      try dsimp only [putsH, setH, List.cons_append, List.nil_append] at H7
      refine wl_nil ?_
      refine thn ?_
      refine seq_ ?_
      refine region_ ?_
      refine wl_valE (v := .slice none 0 0) rfl (rf_assign rfl) rfl ?_
      refine wl_nil ?_
      refine thn ?_
      refine seq_ ?_
      refine region_ ?_
      refine wl_valE (v := .slice none 0 0) rfl (rf_move rfl) rfl ?_
      refine wl_valE (v := .slice a n c) rfl (rf_move rfl) rfl ?_
      refine wl_valE (v := .int .i64 ((i : Nat) : Int)) rfl (rf_move rfl) rfl ?_
      refine wl_valE (v := .pointer (some ⟨ab a, ao a + i * 6, none⟩)) rfl (rf_indexAddrH Try.underlying24 ti34 rfl rfl rfl rfl (by omega) (by omega) (H7.rdR 0 Le.rfl)) rfl ?_
      refine wl_valE (v := .pointer (some ⟨ab a, ao a + i * 6 + 1, none⟩)) rfl (rf_fieldAddr Try.underlying34 rfl ti32 rfl rfl) rfl ?_
      refine wl_valE (v := .pointer (some ⟨ab a, ao a + i * 6 + 5, none⟩)) rfl (rf_fieldAddr Try.underlying32 rfl ti30 rfl rfl) rfl ?_
      refine wl_valE (v := .slice x.prog.code.a x.prog.code.n x.prog.code.c) rfl (rf_load Try.underlying30 rfl rfl rfl (rd_el (H7.rdR 0 Le.rfl) hx 5 _ rfl)) rfl ?_
      have Hn8 := H7.addNil encIns 2 87
      refine wl_appendH (enc := encIns) (N := x.prog.code.n) Hn8 3 rfl rfl encIns_len encIns_one Try.underlying30 ti87 rfl rfl rfl rfl rfl (Hn8.rdR 2 Le.rfl) (Nat.zero_add _) (by omega) (by omega) ?_
      intro ca cc w9 hc9 hd9 H9
      refine wl_valE (v := .pointer (some ⟨bx, 1, none⟩)) rfl (rf_fieldAddr Try.underlying34 rfl ti32 rfl rfl) rfl ?_
      refine wl_valE (v := .pointer (some ⟨bx, 5, none⟩)) rfl (rf_fieldAddr Try.underlying32 rfl ti30 rfl rfl) rfl ?_
      refine wl_storeH H9 2 (v := .slice ca x.prog.code.n cc) (A' := #[.string x.name, .int .i64 x.prog.args, .int .i64 x.prog.reads, .int .i64 x.prog.writes, .int .i64 x.prog.locals, .slice ca x.prog.code.n cc]) rfl rfl ti30 rfl rfl rfl rfl rfl (ltb rfl) rfl ?_
      intro w10 H10
      refine wl_nil ?_
      refine thn ?_
      have H11 := H10.pushM (f := mkCo) (l := own) 0 3 (⟨x.name, ⟨x.prog.args, x.prog.reads, x.prog.writes, x.prog.locals, ⟨ca, x.prog.code.n, cc⟩, x.prog.cl⟩⟩ : ProcR) rfl rfl rfl
      try dsimp only [putsH, setH, List.cons_append, List.nil_append] at H11
      refine region_ ?_
      refine wl_valE (v := .slice oa i oc) rfl (rf_move rfl) rfl ?_
      refine wl_valE (v := .agg #[.string x.name, .int .i64 x.prog.args, .int .i64 x.prog.reads, .int .i64 x.prog.writes, .int .i64 x.prog.locals, .slice ca x.prog.code.n cc]) rfl (rf_loadBlk Try.underlying34 rfl ti34 rfl rfl (H11.blk 2 rfl) (leb rfl)) rfl ?_
      refine wl_buildSliceH (enc := encProc) H11 [(⟨x.name, ⟨x.prog.args, x.prog.reads, x.prog.writes, x.prog.locals, ⟨ca, x.prog.code.n, cc⟩, x.prog.cl⟩⟩ : ProcR)] encProc_len Try.underlying24 ti34 rfl rfl rfl (.cons rfl rfl rfl rfl rfl rfl .nil) ?_
      intro a12 w13 H13
      refine wl_appendH (enc := encProc) (N := i + 1) H13 1 rfl rfl encProc_len encProc_one Try.underlying24 ti34 rfl rfl rfl rfl rfl (H13.rdO 4 slH_rd) rfl (by omega) (by omega) ?_
      intro a14 c14 w14 hc14 hd14 H14
      refine wl_valE (v := .slice a14 (i + 1) c14) rfl (rf_assign rfl) rfl ?_
      refine wl_nil ?_
      refine bln ?_
      refine thn ?_
      refine region_ ?_
      refine wl_valE (v := .int .i64 ((i : Nat) : Int)) rfl (rf_move rfl) rfl ?_
      refine wl_valE (v := .int .i64 ((i + 1 : Nat) : Int)) rfl (rf_add rfl rfl rfl rfl (IntWalk.i64_in _ (by omega))) rfl ?_
      refine wl_valE (v := .int .i64 ((i + 1 : Nat) : Int)) rfl (rf_assign rfl) rfl ?_
      refine wl_nil ?_
      refine thn ?_
      refine ⟨n - (i + 1), _, rfl, (by omega), _, i + 1, a14, c14, (own ++ [(⟨x.name, ⟨x.prog.args, x.prog.reads, x.prog.writes, x.prog.locals, ⟨ca, x.prog.code.n, cc⟩, x.prog.cl⟩⟩ : ProcR)]), upds_self ⟨rfl, rfl, rfl, trivial⟩, rfl, ⟨by omega, by rw [List.length_append, hol]; rfl⟩, same_push (x := x) hsm (by rw [hol]; exact hx) ⟨rfl, rfl, rfl, rfl, rfl, rfl, rfl⟩, bnd_push hob hxn, (H14.weakR 2 rfl).pick' [0, 1] rfl rfl⟩
    · have c10p := of_decide_eq_false c10
      refine exit_ ?_
      refine thx (thx (blx ?_))
      refine thn ?_
      refine seq_ ?_
      obtain rfl : n = i := by omega
      refine region_ ?_
      refine wl_valE (v := .slice oa n oc) rfl (rf_move rfl) rfl ?_
      refine wl_valE (v := .slice oa n oc) rfl (rf_assign rfl) rfl ?_
      refine wl_nil ?_
      refine thn ?_
      refine ret_ ?_
      refine fin1 (v := .slice oa n oc) Try.results11 rfl rfl ?_
      exact ⟨_, ⟨_, _, _, rfl, hol, (errL_same (by omega) hsm).symm, hob, rfl⟩, HL0.pick' [1, 0] rfl rfl⟩
set_option maxRecDepth 100000 in
theorem spoilLib_tr (a : Option Addr) (n c : Nat) (own : List ProcR) : Tr Try.prog 13 [.slice a n c] [] [slH encProc 6 34 a n c own, allH (own.map mkA)] (fun v m => v = .tuple #[] ∧ m = []) := by
  intro w0 S0 H0
  have hl := (slH_len H0 0 rfl).1
  refine enterR Try.func13 rfl Try.ntmps13 rfl ?_
  intro g0
  refine seq_ ?_
  refine region_ ?_
  refine wl_valE (v := .int .i64 (0 : Int)) rfl (rf_assign rfl) rfl ?_
  refine wl_nil ?_
  refine thn ?_
  refine block_ ?_
  refine loop_ (fun qk_ qf_ qw_ => ∃ (g : Nat → Value) (i : Nat) (ow : List ProcR), qf_ = upds g [(0, .slice a n c), (2, .int .i64 ((i : Nat) : Int))] ∧ qk_ = n - i ∧ (i ≤ n ∧ ow.length = n) ∧ (∀ j : Nat, i ≤ j → ow[j]? = own[j]?) ∧ St w0 S0 [] qw_ [slH encProc 6 34 a n c ow, allH (own.map mkA)]) (n - 0) ?_ ?_
  · refine ⟨_, 0, own, upds_self ⟨rfl, rfl, trivial⟩, rfl, ⟨Nat.zero_le _, hl.symm⟩, fun j _ => rfl, H0.pick' [0, 1] rfl rfl⟩
  · rintro lk0 _ wl0 ⟨gl0, i, ow, rfl, hlk0, ⟨hi, hol⟩, hsm, HL0⟩
    refine seq_ ?_
    refine seq_ ?_
    refine region_ ?_
    refine wl_valE (v := .int .i64 ((i : Nat) : Int)) rfl (rf_move rfl) rfl ?_
    refine wl_valE (v := .slice a n c) rfl (rf_move rfl) rfl ?_
    refine wl_valE (v := .int .i64 ((n : Nat) : Int)) rfl (rf_len_slice Try.underlying24 rfl rfl) rfl ?_
    refine wl_valE (v := .bool (decide (((i : Nat) : Int) < ((n : Nat) : Int)))) rfl (rf_lss rfl rfl rfl rfl) rfl ?_
    refine wl_nil ?_
    refine thn ?_
    refine cond_ (t := decide (((i : Nat) : Int) < ((n : Nat) : Int))) rfl rfl (fun c7 => ?_) (fun c7 => ?_)
    · have c7p := of_decide_eq_true c7
      refine skip_ ?_
      refine thn ?_
      refine seq_ ?_
      refine block_ ?_
      refine seq_ ?_
      refine seq_ ?_
      have hn1 := slH_len HL0 0 rfl
      obtain ⟨x, hx⟩ : ∃ q_, ow[i]? = some q_ := ⟨_, List.getElem?_eq_getElem (by omega)⟩
      have hx2 : own[i]? = some x := by rw [← hsm i (Nat.le_refl _)]; exact hx
      have H2 := HL0.takeM (f := mkA) (l := own) (i := i) 1 rfl rfl hx2
      obtain ⟨il, -, H3⟩ := mkA.open_ H2 2 rfl rfl
      try dsimp only [putsH, setH, List.cons_append, List.nil_append] at H3
      refine region_ ?_
      refine wl_valE (v := .int .i64 (0 : Int)) rfl (rf_assign rfl) rfl ?_
      refine wl_nil ?_
      refine thn ?_
      refine block_ ?_
      refine loop_ (fun qk_ qf_ qw_ => ∃ (g : Nat → Value) (k : Nat) (jl : List InsR), qf_ = upds g [(0, .slice a n c), (2, .int .i64 ((i : Nat) : Int)), (3, .int .i64 ((k : Nat) : Int))] ∧ qk_ = x.prog.code.n - k ∧ (k ≤ x.prog.code.n) ∧ St w0 S0 [] qw_ [slH encProc 6 34 a n c ow, allH (setH (own.map mkA) i emp), slH encIns 2 87 x.prog.code.a x.prog.code.n x.prog.code.c jl]) (x.prog.code.n - 0) ?_ ?_
      · refine ⟨_, 0, il, upds_self ⟨rfl, rfl, rfl, trivial⟩, rfl, Nat.zero_le _, H3.pick' [0, 1, 2] rfl rfl⟩
      · rintro lk1 _ wl1 ⟨gl1, k, jl, rfl, hlk1, hk, HL1⟩
        refine seq_ ?_
        refine seq_ ?_
        obtain ⟨x2, hx3⟩ : ∃ q_, ow[i]? = some q_ := ⟨_, List.getElem?_eq_getElem (by omega)⟩
        obtain rfl : x = x2 := by rw [hx] at hx3; exact Option.some.inj hx3
        refine region_ ?_
        refine wl_valE (v := .int .i64 ((k : Nat) : Int)) rfl (rf_move rfl) rfl ?_
        refine wl_valE (v := .slice a n c) rfl (rf_move rfl) rfl ?_
        refine wl_valE (v := .int .i64 ((i : Nat) : Int)) rfl (rf_move rfl) rfl ?_
        refine wl_valE (v := .pointer (some ⟨ab a, ao a + i * 6, none⟩)) rfl (rf_indexAddrH Try.underlying24 ti34 rfl rfl rfl rfl (by omega) (by omega) (HL1.rdO 0 slH_rd)) rfl ?_
        refine wl_valE (v := .pointer (some ⟨ab a, ao a + i * 6 + 1, none⟩)) rfl (rf_fieldAddr Try.underlying34 rfl ti32 rfl rfl) rfl ?_
        refine wl_valE (v := .pointer (some ⟨ab a, ao a + i * 6 + 5, none⟩)) rfl (rf_fieldAddr Try.underlying32 rfl ti30 rfl rfl) rfl ?_
        refine wl_valE (v := .slice x.prog.code.a x.prog.code.n x.prog.code.c) rfl (rf_load Try.underlying30 rfl rfl rfl (rd_el (HL1.rdO 0 slH_rd) hx 5 _ rfl)) rfl ?_
        refine wl_valE (v := .int .i64 ((x.prog.code.n : Nat) : Int)) rfl (rf_len_slice Try.underlying30 rfl rfl) rfl ?_
        refine wl_valE (v := .bool (decide (((k : Nat) : Int) < ((x.prog.code.n : Nat) : Int)))) rfl (rf_lss rfl rfl rfl rfl) rfl ?_
        refine wl_nil ?_
        refine thn ?_
        refine cond_ (t := decide (((k : Nat) : Int) < ((x.prog.code.n : Nat) : Int))) rfl rfl (fun c18 => ?_) (fun c18 => ?_)
        · have c18p := of_decide_eq_true c18
          refine skip_ ?_
          refine thn ?_
          refine seq_ ?_
          refine block_ ?_
          refine region_ ?_
          refine wl_valE (v := .slice a n c) rfl (rf_move rfl) rfl ?_
          refine wl_valE (v := .int .i64 ((i : Nat) : Int)) rfl (rf_move rfl) rfl ?_
          refine wl_valE (v := .pointer (some ⟨ab a, ao a + i * 6, none⟩)) rfl (rf_indexAddrH Try.underlying24 ti34 rfl rfl rfl rfl (by omega) (by omega) (HL1.rdO 0 slH_rd)) rfl ?_
          refine wl_valE (v := .pointer (some ⟨ab a, ao a + i * 6 + 1, none⟩)) rfl (rf_fieldAddr Try.underlying34 rfl ti32 rfl rfl) rfl ?_
          refine wl_valE (v := .pointer (some ⟨ab a, ao a + i * 6 + 5, none⟩)) rfl (rf_fieldAddr Try.underlying32 rfl ti30 rfl rfl) rfl ?_
          refine wl_valE (v := .slice x.prog.code.a x.prog.code.n x.prog.code.c) rfl (rf_load Try.underlying30 rfl rfl rfl (rd_el (HL1.rdO 0 slH_rd) hx 5 _ rfl)) rfl ?_
          refine wl_valE (v := .int .i64 ((k : Nat) : Int)) rfl (rf_move rfl) rfl ?_
          refine wl_valE (v := .agg #[.int .i64 (36 : Int), .int .i64 (0 : Int)]) rfl (rf_build (offs := [(0, [.int .i64 (36 : Int)])]) (places := #[(0, 1), (1, 1)]) Try.underlying87 ti87 (fun w => by kernel_rfl) (.cons rfl rfl rfl rfl rfl rfl .nil)) rfl ?_
          refine wl_valE (v := .pointer (some ⟨ab x.prog.code.a, ao x.prog.code.a + k * 2, none⟩)) rfl (rf_indexAddrH Try.underlying30 ti87 rfl rfl rfl rfl (by omega) (by omega) (HL1.rdO 2 slH_rd)) rfl ?_
          have hn5 := slH_len HL1 2 rfl
          obtain ⟨x4, hx4⟩ : ∃ q_, jl[k]? = some q_ := ⟨_, List.getElem?_eq_getElem (by omega)⟩
          refine wl_storeElH HL1 2 (enc := encIns) (i := k) (j := 0) (q := ⟨36, 0⟩) (u := .agg #[.int .i64 (36 : Int), .int .i64 (0 : Int)]) (cs := [.int .i64 (36 : Int), .int .i64 (0 : Int)]) rfl rfl encIns_len ti87 rfl rfl rfl rfl rfl rfl oneAll hx4 (leb rfl) rfl ?_
          intro w6 H6
          have hx6 : (jl.set k (⟨36, 0⟩))[k]? = some (⟨36, 0⟩) := List.getElem?_set_self (List.getElem?_eq_some_iff.1 hx4).1
          have hn6 := slH_len H6 2 rfl
          refine wl_nil ?_
          refine bln ?_
          refine thn ?_
          refine region_ ?_
          refine wl_valE (v := .int .i64 ((k : Nat) : Int)) rfl (rf_move rfl) rfl ?_
          refine wl_valE (v := .int .i64 ((k + 1 : Nat) : Int)) rfl (rf_add rfl rfl rfl rfl (IntWalk.i64_in _ (by omega))) rfl ?_
          refine wl_valE (v := .int .i64 ((k + 1 : Nat) : Int)) rfl (rf_assign rfl) rfl ?_
          refine wl_nil ?_
          refine thn ?_
          refine ⟨x.prog.code.n - (k + 1), _, rfl, (by omega), _, k + 1, (jl.set k (⟨36, 0⟩)), upds_self ⟨rfl, rfl, rfl, trivial⟩, rfl, by omega, H6.pick' [0, 1, 2] rfl rfl⟩
        · have c18p := of_decide_eq_false c18
          refine exit_ ?_
          refine thx (thx (blx ?_))
          refine thn ?_
          have H7 := mkA.close_ (x := x) HL1 [2] jl  rfl rfl
          have H8 := H7.giveM (f := mkA) (l := own) (i := i) (x := x) 1 2 rfl rfl rfl hx2
          try dsimp only [putsH, setH, List.cons_append, List.nil_append] at H8
          refine region_ ?_
          refine wl_valE (v := .slice a n c) rfl (rf_move rfl) rfl ?_
          refine wl_valE (v := .int .i64 ((i : Nat) : Int)) rfl (rf_move rfl) rfl ?_
          refine wl_valE (v := .agg #[.string (ByteArray.mk #[]), .int .i64 (0 : Int), .int .i64 (0 : Int), .int .i64 (0 : Int), .int .i64 (0 : Int), .slice none 0 0]) rfl (rf_build (offs := []) (places := #[(0, 1), (1, 5)]) Try.underlying34 ti34 (fun w => by kernel_rfl) .nil) rfl ?_
          refine wl_valE (v := .pointer (some ⟨ab a, ao a + i * 6, none⟩)) rfl (rf_indexAddrH Try.underlying24 ti34 rfl rfl rfl rfl (by omega) (by omega) (H8.rdO 0 slH_rd)) rfl ?_
          refine wl_storeElH H8 0 (enc := encProc) (i := i) (j := 0) (q := ⟨⟨#[]⟩, ⟨0, 0, 0, 0, ⟨none, 0, 0⟩, []⟩⟩) (u := .agg #[.string (ByteArray.mk #[]), .int .i64 (0 : Int), .int .i64 (0 : Int), .int .i64 (0 : Int), .int .i64 (0 : Int), .slice none 0 0]) (cs := [.string (ByteArray.mk #[]), .int .i64 (0 : Int), .int .i64 (0 : Int), .int .i64 (0 : Int), .int .i64 (0 : Int), .slice none 0 0]) rfl rfl encProc_len ti34 rfl rfl rfl rfl rfl rfl oneAll hx (leb rfl) rfl ?_
          intro w9 H9
          have hx9 : (ow.set i (⟨⟨#[]⟩, ⟨0, 0, 0, 0, ⟨none, 0, 0⟩, []⟩⟩))[i]? = some (⟨⟨#[]⟩, ⟨0, 0, 0, 0, ⟨none, 0, 0⟩, []⟩⟩) := List.getElem?_set_self (List.getElem?_eq_some_iff.1 hx).1
          have hn9 := slH_len H9 0 rfl
          refine wl_nil ?_
          refine bln ?_
          refine thn ?_
          refine region_ ?_
          refine wl_valE (v := .int .i64 ((i : Nat) : Int)) rfl (rf_move rfl) rfl ?_
          refine wl_valE (v := .int .i64 ((i + 1 : Nat) : Int)) rfl (rf_add rfl rfl rfl rfl (IntWalk.i64_in _ (by omega))) rfl ?_
          refine wl_valE (v := .int .i64 ((i + 1 : Nat) : Int)) rfl (rf_assign rfl) rfl ?_
          refine wl_nil ?_
          refine thn ?_
          refine ⟨n - (i + 1), _, rfl, (by omega), _, i + 1, (ow.set i (⟨⟨#[]⟩, ⟨0, 0, 0, 0, ⟨none, 0, 0⟩, []⟩⟩)), upds_self ⟨rfl, rfl, trivial⟩, rfl, ⟨by omega, by rw [List.length_set]; exact hol⟩, fun j hj => by rw [List.getElem?_set_ne (by omega)]; exact hsm j (by omega), H9.pick' [0, 1] rfl rfl⟩
    · have c7p := of_decide_eq_false c7
      refine exit_ ?_
      refine thx (thx (blx ?_))
      refine fin_ ?_
      refine fin0 Try.results13 ?_
      exact ⟨_, ⟨rfl, rfl⟩, HL0.pick' [] rfl rfl⟩
end Go.Proofs.Ytphllgfbjfajfaa.W
