import Derived.Test.YtiidihgimcebgaaC2
import Derived.KernelRfl
namespace Go.Proofs.Ytiidihgimcebgaa.W
open Go Go.Wk
set_option linter.unusedVariables false
set_option linter.unusedSimpArgs false
theorem meth30_Ready : Meth Try.prog 30 "Ready" 29 := fun a w => by kernel_rfl
theorem meth30_Step : Meth Try.prog 30 "Step" 37 := fun a w => by kernel_rfl
theorem steps_tr {p : Nat} {ps : List Nat} {ts : List (Option Nat)} {steps : Int} : Tr Try.prog 19 [.pointer (some ⟨p, 0, none⟩)] [lineH p ps ts steps] [] (fun v m => v = .int .i64 steps ∧ m = []) := by
  intro w0 S0 H0
  obtain ⟨x, _, H1⟩ := lineH.openR H0 0 rfl
  refine enterR Try.func19 rfl Try.ntmps19 rfl ?_
  intro g0
  refine seq_ ?_
  refine region_ ?_
  refine wl_valE (v := .int .i64 (0 : Int)) rfl (rf_assign rfl) rfl ?_
  refine wl_nil ?_
  refine thn ?_
  refine seq_ ?_
  refine region_ ?_
  refine wl_valE (v := .pointer (some ⟨p, 0, none⟩)) rfl (rf_move rfl) rfl ?_
  refine wl_valE (v := .pointer (some ⟨p, 0, none⟩)) rfl (rf_nilCheckP rfl rfl) rfl ?_
  refine wl_valE (v := .pointer (some ⟨p, 1, none⟩)) rfl (rf_fieldAddr Try.underlying59 rfl ti3 rfl rfl) rfl ?_
  refine wl_valE (v := .int .i64 steps) rfl (rf_load Try.underlying3 rfl rfl rfl ((H1.blkR 1 rfl).cell rfl)) rfl ?_
  refine wl_valE (v := .int .i64 steps) rfl (rf_assign rfl) rfl ?_
  refine wl_nil ?_
  refine thn ?_
  refine ret_ ?_
  refine fin1 (v := .int .i64 steps) Try.results19 rfl rfl ?_
  exact ⟨_, ⟨rfl, rfl⟩, (H1.weakR 1 rfl).pick' [] rfl rfl⟩
theorem lready_tr {p : Nat} {ps : List Nat} {ts : List (Option Nat)} {steps : Int} {cs : List Cho} (hok : OkB cs) (hbl : ∀ (i : Nat) (c : Cho), cs[i]? = some c → c.bh.length ≤ 4398046511104) (hts : ∀ i, some i ∈ ts → i < cs.length) (htl : ts.length ≤ 4398046511104) : Tr Try.prog 17 [.pointer (some ⟨p, 0, none⟩)] [lineH p ps ts steps, ChH ps cs] [] (fun v m => ∃ a n c, v = .slice a n c ∧ m = [slH encI 1 3 a n c (rdyL cs 0 ts)]) := by
  intro w0 S0 H0
  obtain ⟨x, _, H1⟩ := lineH.openR H0 0 rfl
  have hxn := (rd_len (H1.rdR 3 slH_rd)).1
  rw [List.length_map] at hxn
  refine enterR Try.func17 rfl Try.ntmps17 rfl ?_
  intro g0
  refine seq_ ?_
  refine region_ ?_
  refine wl_valE (v := .slice none 0 0) rfl (rf_assign rfl) rfl ?_
  refine wl_nil ?_
  refine thn ?_
  refine seq_ ?_
  refine region_ ?_
  refine wl_valE (v := .slice none 0 0) rfl (rf_assign rfl) rfl ?_
  refine wl_nil ?_
  refine thn ?_
  refine seq_ ?_
  refine seq_ ?_
  refine region_ ?_
  refine wl_valE (v := .pointer (some ⟨p, 0, none⟩)) rfl (rf_move rfl) rfl ?_
  refine wl_valE (v := .pointer (some ⟨p, 0, none⟩)) rfl (rf_nilCheckP rfl rfl) rfl ?_
  refine wl_valE (v := .pointer (some ⟨p, 0, none⟩)) rfl (rf_fieldAddr Try.underlying59 rfl ti53 rfl rfl) rfl ?_
  refine wl_valE (v := .slice x.a x.n x.c) rfl (rf_load Try.underlying53 rfl rfl rfl ((H1.blkR 2 rfl).cell rfl)) rfl ?_
  refine wl_valE (v := .int .i64 ((x.n : Nat) : Int)) rfl (rf_len_slice Try.underlying53 rfl rfl) rfl ?_
  refine wl_valE (v := .int .i64 (0 : Int)) rfl (rf_move rfl) rfl ?_
  refine wl_nil ?_
  refine thn ?_
  refine block_ ?_
  have H2 := H1.addNil encI 1 3 (α := Int)
  dsimp only [putsH, setH, List.cons_append, List.nil_append] at H2
  refine loop_ (fun qk_ qf_ qw_ => ∃ (g : Nat → Value) (k : Nat) (a3 : Option Addr) (n3 c3 : Nat) (l : List Int), qf_ = upds g [(3, .slice a3 n3 c3), (9, .slice x.a x.n x.c), (10, .int .i64 ((x.n : Nat) : Int)), (11, .int .i64 ((k : Nat) : Int))] ∧ qk_ = x.n - k ∧ (k ≤ x.n ∧ n3 ≤ k) ∧ (l ++ rdyL cs k (ts.drop k) = rdyL cs 0 ts) ∧ St w0 S0 [lineH p ps ts steps, ChH ps cs, blkH p #[.slice x.a x.n x.c, .int .i64 steps] 59, slH encT 1 57 x.a x.n x.c (ts.map (ppf ps))] qw_ [slH encI 1 3 a3 n3 c3 l]) (x.n - 0) ?_ ?_
  · refine ⟨_, 0, none, 0, 0, [], upds_self ⟨rfl, rfl, rfl, rfl, trivial⟩, rfl, ⟨Nat.zero_le _, Nat.le_refl _⟩, rfl, H2.pick' [0] rfl rfl⟩
  · rintro lk0 _ wl0 ⟨gl0, k, a3, n3, c3, l, rfl, hlk0, hk, hal, HL0⟩
    refine seq_ ?_
    refine region_ ?_
    refine wl_valE (v := .bool (decide (((k : Nat) : Int) < ((x.n : Nat) : Int)))) rfl (rf_lss rfl rfl rfl rfl) rfl ?_
    refine wl_nil ?_
    refine thn ?_
    refine seq_ ?_
    refine cond_ (t := decide (((k : Nat) : Int) < ((x.n : Nat) : Int))) rfl rfl (fun c12 => ?_) (fun c12 => ?_)
    · have c12p := of_decide_eq_true c12
      refine skip_ ?_
      refine thn ?_
      refine seq_ ?_
      refine block_ ?_
      refine seq_ ?_
      refine region_ ?_
      refine wl_valE (v := .int .i64 ((k : Nat) : Int)) rfl (rf_move rfl) rfl ?_
      refine wl_valE (v := .pointer (some ⟨ab x.a, ao x.a + k * 1, none⟩)) rfl (rf_indexAddrH Try.underlying53 ti57 rfl rfl rfl rfl (by omega) (by omega) (HL0.rdR 3 slH_rd)) rfl ?_
      have hn4 := rd_len (HL0.rdR 3 slH_rd)
      obtain ⟨x3, hx3⟩ : ∃ q_, (ts.map (ppf ps))[k]? = some q_ := ⟨_, List.getElem?_eq_getElem (by omega)⟩
      refine wl_valE (v := ifv x3) rfl (rf_load Try.underlying57 rfl rfl rfl (rd_el (HL0.rdR 3 slH_rd) hx3 0 _ rfl)) rfl ?_
      obtain ⟨o, ho, rfl⟩ : ∃ o, ts[k]? = some o ∧ x3 = ppf ps o := by rw [List.getElem?_map] at hx3; cases hq : ts[k]? with | none => (rw [hq] at hx3; cases hx3) | some o => (rw [hq] at hx3; exact ⟨o, rfl, (Option.some.inj hx3).symm⟩)
      refine wl_valE (v := .int .i64 ((k : Nat) : Int)) rfl (rf_assign rfl) rfl ?_
      refine wl_valE (v := ifv (ppf ps o)) rfl (rf_assign rfl) rfl ?_
      refine wl_nil ?_
      refine thn ?_
      refine seq_ ?_
      refine region_ ?_
      refine wl_valE (v := ifv (ppf ps o)) rfl (rf_move rfl) rfl ?_
      refine wl_valE (v := .bool o.isSome) rfl (rf_neqIN Try.underlying57 rfl rfl (by cases o with | none => exact .inl ⟨rfl, rfl⟩ | some j => exact .inr ⟨_, _, rfl, rfl⟩)) rfl ?_
      refine wl_valE (v := .bool o.isSome) rfl (rf_move rfl) rfl ?_
      refine wl_split (o.isSome) (fun u5_2 => ?_) (fun u5_2 => ?_)
      · obtain ⟨j, rfl⟩ := Option.isSome_iff_exists.1 u5_2
        obtain ⟨d, hd⟩ : ∃ d, cs[j]? = some d := ⟨_, List.getElem?_eq_getElem (hts j (List.mem_of_getElem? ho))⟩
        have hrd : rdy cs j = rdyC cs d := by unfold rdy; rw [hd]
        refine wl_guardT rfl rfl rfl u5_2 ?_
        refine wl_valE (v := .iface 30 (.pointer (some ⟨pof ps j, 0, none⟩))) rfl (rf_move rfl) rfl ?_
        refine wl_guardT rfl rfl rfl u5_2 ?_
        refine wl_tr HL0 rfl [] (ready_tr hok hbl j d hd) rfl (.ro 1 Le.rfl .nil) (rf_invoke Try.call29 meth30_Ready rfl rfl rfl rfl) rfl ?_
        rintro _ w5 _ ⟨rfl, rfl⟩ H5
        refine wl_valE (v := .bool (rdyC cs d)) rfl (rf_pickT rfl rfl rfl u5_2) rfl ?_
        refine wl_nil ?_
        refine thn ?_
        refine cond_ (t := rdyC cs d) rfl rfl (fun c21 => ?_) (fun c21 => ?_)
        · refine region_ ?_
          refine wl_valE (v := .slice a3 n3 c3) rfl (rf_move rfl) rfl ?_
          refine wl_valE (v := .int .i64 ((k : Nat) : Int)) rfl (rf_move rfl) rfl ?_
          refine wl_buildSliceH (enc := encI) H5 [((k : Nat) : Int)] encI_len Try.underlying23 ti3 rfl rfl rfl (.cons rfl rfl rfl rfl rfl rfl .nil) ?_
          intro a6 w7 H7
          refine wl_appendH (enc := encI) (N := n3 + 1) H7 0 rfl rfl encI_len encI_one Try.underlying23 ti3 rfl rfl rfl rfl rfl (H7.rdO 1 slH_rd) rfl (by omega) (by omega) ?_
          intro a8 c8 w8 hc8 hd8 H8
          refine wl_valE (v := .slice a8 (n3 + 1) c8) rfl (rf_assign rfl) rfl ?_
          refine wl_nil ?_
          refine bln ?_
          refine thn ?_
          refine region_ ?_
          refine wl_valE (v := .int .i64 ((k + 1 : Nat) : Int)) rfl (rf_add rfl rfl rfl rfl (IntWalk.i64_in _ (by omega))) rfl ?_
          refine wl_valE (v := .int .i64 ((k + 1 : Nat) : Int)) rfl (rf_move rfl) rfl ?_
          refine wl_nil ?_
          refine thn ?_
          refine ⟨x.n - (k + 1), _, rfl, (by omega), _, k + 1, a8, n3 + 1, c8, l ++ ([((k : Nat) : Int)]), upds_self ⟨rfl, rfl, rfl, rfl, trivial⟩, rfl, ⟨by omega, by omega⟩, by rw [← hal, drop_at ho]; simp only [rdyL, hrd, c21]; simp, H8.pick' [0] rfl rfl⟩
        · refine skip_ ?_
          refine bln ?_
          refine thn ?_
          refine region_ ?_
          refine wl_valE (v := .int .i64 ((k + 1 : Nat) : Int)) rfl (rf_add rfl rfl rfl rfl (IntWalk.i64_in _ (by omega))) rfl ?_
          refine wl_valE (v := .int .i64 ((k + 1 : Nat) : Int)) rfl (rf_move rfl) rfl ?_
          refine wl_nil ?_
          refine thn ?_
          refine ⟨x.n - (k + 1), _, rfl, (by omega), _, k + 1, a3, n3, c3, l, upds_self ⟨rfl, rfl, rfl, rfl, trivial⟩, rfl, ⟨by omega, by omega⟩, by rw [← hal, drop_at ho]; simp only [rdyL, hrd, c21]; simp, H5.pick' [0] rfl rfl⟩
      · obtain rfl : o = none := by cases o with | none => rfl | some j => cases u5_2
        refine wl_guardF rfl rfl rfl u5_2 ?_
        refine wl_guardF rfl rfl rfl u5_2 ?_
        refine wl_valE (v := .bool false) rfl (rf_pickF rfl rfl rfl u5_2) rfl ?_
        refine wl_nil ?_
        refine thn ?_
        refine condF rfl rfl ?_
        refine skip_ ?_
        refine bln ?_
        refine thn ?_
        refine region_ ?_
        refine wl_valE (v := .int .i64 ((k + 1 : Nat) : Int)) rfl (rf_add rfl rfl rfl rfl (IntWalk.i64_in _ (by omega))) rfl ?_
        refine wl_valE (v := .int .i64 ((k + 1 : Nat) : Int)) rfl (rf_move rfl) rfl ?_
        refine wl_nil ?_
        refine thn ?_
        refine ⟨x.n - (k + 1), _, rfl, (by omega), _, k + 1, a3, n3, c3, l, upds_self ⟨rfl, rfl, rfl, rfl, trivial⟩, rfl, ⟨by omega, by omega⟩, by rw [← hal, drop_at ho]; simp only [rdyL]; simp, HL0.pick' [0] rfl rfl⟩
    · have c12p := of_decide_eq_false c12
      refine exit_ ?_
      refine thx (thx (blx ?_))
      refine thn ?_
      refine seq_ ?_
      refine region_ ?_
      refine wl_valE (v := .slice a3 n3 c3) rfl (rf_move rfl) rfl ?_
      refine wl_valE (v := .slice a3 n3 c3) rfl (rf_assign rfl) rfl ?_
      refine wl_nil ?_
      refine thn ?_
      refine ret_ ?_
      refine fin1 (v := .slice a3 n3 c3) Try.results17 rfl rfl ?_
      rw [drop_all (by omega)] at hal
      simp only [rdyL, List.append_nil] at hal
      subst hal
      exact ⟨_, ⟨_, _, _, rfl, rfl⟩, (HL0.weakR 2 rfl).pick' [0] rfl rfl⟩
end Go.Proofs.Ytiidihgimcebgaa.W
