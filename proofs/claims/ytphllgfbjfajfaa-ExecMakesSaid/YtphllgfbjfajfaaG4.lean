import Derived.Test.YtphllgfbjfajfaaG3
import Derived.KernelRfl
namespace Go.Proofs.Ytphllgfbjfajfaa.W
open Go Go.Wk
set_option linter.unusedVariables false
set_option linter.unusedSimpArgs false

abbrev iv : Int → Value := fun x => Value.int .i64 x
abbrev pv : Nat → Value := fun b => Value.pointer (some ⟨b, 0, none⟩)
abbrev skv : ByteArray → Value := fun x => Value.string x
theorem chk_name {x : ProcR} {l : List ProcR} {i : Nat} {seen : List ByteArray} (hx : l[i]? = some x) (h : ¬ nameP x.name ∨ x.name ∈ seen) : chkE (l.drop i) seen = 35 := by rw [drop_at hx]; unfold chkE; rw [if_pos h]
theorem chk_ver {x : ProcR} {l : List ProcR} {i : Nat} {seen : List ByteArray} (hx : l[i]? = some x) (h : ¬ (¬ nameP x.name ∨ x.name ∈ seen)) (hv : verE x.prog ≠ 0) : chkE (l.drop i) seen = verE x.prog := by rw [drop_at hx]; unfold chkE; rw [if_neg h, if_pos hv]
theorem chk_ok {x : ProcR} {l : List ProcR} {i : Nat} {seen : List ByteArray} (hx : l[i]? = some x) (h : ¬ (¬ nameP x.name ∨ x.name ∈ seen)) (hv : ¬ verE x.prog ≠ 0) : chkE (l.drop i) seen = chkE (l.drop (i + 1)) (x.name :: seen) := by
  rw [drop_at hx]; conv => lhs; unfold chkE
  rw [if_neg h, if_neg hv]
theorem errL_big {l : List ProcR} (h : 64 < l.length) : errL l = 36 := by unfold errL; rw [if_pos h]
theorem errL_small {l : List ProcR} (h : ¬ 64 < l.length) : errL l = chkE l [] := by unfold errL; rw [if_neg h]
set_option maxRecDepth 100000 in
theorem checkL_tr (a : Option Addr) (n c : Nat) (lib : List ProcR) : Tr Try.prog 17 [.slice a n c] [rdH encProc 6 a n c lib, shH (lib.map mkC)] [] (fun v m => ∃ i, v = .tuple #[.int .i64 i, .int .i64 (errL lib)] ∧ m = []) := by
  intro w0 S0 H0
  have hl := (rd_len (H0.rdR 0 Le.rfl)).1
  refine enterR Try.func17 rfl Try.ntmps17 rfl ?_
  intro g0
  refine seq_ ?_
  refine region_ ?_
  refine wl_valE (v := .int .i64 (0 : Int)) rfl (rf_assign rfl) rfl ?_
  refine wl_valE (v := .int .i64 (0 : Int)) rfl (rf_assign rfl) rfl ?_
  refine wl_nil ?_
  refine thn ?_
  refine seq_ ?_
  refine seq_ ?_
  refine region_ ?_
  refine wl_valE (v := .slice a n c) rfl (rf_move rfl) rfl ?_
  refine wl_valE (v := .int .i64 ((n : Nat) : Int)) rfl (rf_len_slice Try.underlying24 rfl rfl) rfl ?_
  refine wl_valE (v := .bool (decide ((64 : Int) < ((n : Nat) : Int)))) rfl (rf_gtr rfl rfl rfl rfl) rfl ?_
  refine wl_nil ?_
  refine thn ?_
  refine cond_ (t := decide ((64 : Int) < ((n : Nat) : Int))) rfl rfl (fun c12 => ?_) (fun c12 => ?_)
  · have c12p := of_decide_eq_true c12
    have her := errL_big (l := lib) (by omega)
    refine seq_ ?_
    refine region_ ?_
    refine wl_valE (v := .int .i64 (0 : Int)) rfl (rf_assign rfl) rfl ?_
    refine wl_valE (v := .int .i64 (36 : Int)) rfl (rf_assign rfl) rfl ?_
    refine wl_nil ?_
    refine thn ?_
    refine ret_ ?_
    refine thr ?_
    refine fin2 (v1 := .int .i64 (0 : Int)) (v2 := .int .i64 (36 : Int)) Try.results17 rfl rfl rfl rfl ?_
    exact ⟨_, ⟨_, by rw [her], rfl⟩, H0.pick' [] rfl rfl⟩
  · have c12p := of_decide_eq_false c12
    have hsm := errL_small (l := lib) (by omega)
    refine skip_ ?_
    refine thn ?_
    refine seq_ ?_
    refine region_ ?_
    refine wl_makeMapH H0 skv iv ?_
    intro rm w2 H2
    refine wl_valE (v := .map (some rm)) rfl (rf_assign rfl) rfl ?_
    refine wl_nil ?_
    refine thn ?_
    refine seq_ ?_
    refine seq_ ?_
    refine region_ ?_
    refine wl_valE (v := .slice a n c) rfl (rf_move rfl) rfl ?_
    refine wl_valE (v := .int .i64 ((n : Nat) : Int)) rfl (rf_len_slice Try.underlying24 rfl rfl) rfl ?_
    refine wl_valE (v := .int .i64 (0 : Int)) rfl (rf_move rfl) rfl ?_
    refine wl_nil ?_
    refine thn ?_
    refine block_ ?_
    refine loop_ (fun qk_ qf_ qw_ => ∃ (g : Nat → Value) (i : Nat) (ms : List (ByteArray × Int)) (seen : List ByteArray), qf_ = upds g [(4, .map (some rm)), (14, .slice a n c), (15, .int .i64 ((n : Nat) : Int)), (16, .int .i64 ((i : Nat) : Int))] ∧ qk_ = n - i ∧ (i ≤ n) ∧ (chkE (lib.drop i) seen = chkE lib []) ∧ (∀ s, (getL ms s).isSome = decide (s ∈ seen)) ∧ St w0 S0 [rdH encProc 6 a n c lib, shH (lib.map mkC)] qw_ [mapH skv iv rm ms]) (n - 0) ?_ ?_
    · refine ⟨_, 0, [], [], upds_self ⟨rfl, rfl, rfl, rfl, trivial⟩, rfl, Nat.zero_le _, rfl, fun s => rfl, H2.pick' [0] rfl rfl⟩
    · rintro lk0 _ wl0 ⟨gl0, i, ms, seen, rfl, hlk0, hi, hE, hM, HL0⟩
      refine seq_ ?_
      refine region_ ?_
      refine wl_valE (v := .bool (decide (((i : Nat) : Int) < ((n : Nat) : Int)))) rfl (rf_lss rfl rfl rfl rfl) rfl ?_
      refine wl_nil ?_
      refine thn ?_
      refine seq_ ?_
      refine cond_ (t := decide (((i : Nat) : Int) < ((n : Nat) : Int))) rfl rfl (fun c17 => ?_) (fun c17 => ?_)
      · have c17p := of_decide_eq_true c17
        refine skip_ ?_
        refine thn ?_
        refine seq_ ?_
        refine block_ ?_
        refine seq_ ?_
        have hn3 := rd_len (HL0.rdR 0 Le.rfl)
        obtain ⟨x, hx⟩ : ∃ q_, lib[i]? = some q_ := ⟨_, List.getElem?_eq_getElem (by omega)⟩
        refine region_ ?_
        refine wl_valE (v := .int .i64 ((i : Nat) : Int)) rfl (rf_move rfl) rfl ?_
        refine wl_valE (v := .pointer (some ⟨ab a, ao a + i * 6, none⟩)) rfl (rf_indexAddrH Try.underlying24 ti34 rfl rfl rfl rfl (by omega) (by omega) (HL0.rdR 0 Le.rfl)) rfl ?_
        refine wl_valE (v := .agg #[.string x.name, .int .i64 x.prog.args, .int .i64 x.prog.reads, .int .i64 x.prog.writes, .int .i64 x.prog.locals, .slice x.prog.code.a x.prog.code.n x.prog.code.c]) rfl (rf_loadAgg (cs := [.string x.name, .int .i64 x.prog.args, .int .i64 x.prog.reads, .int .i64 x.prog.writes, .int .i64 x.prog.locals, .slice x.prog.code.a x.prog.code.n x.prog.code.c]) Try.underlying34 rfl ti34 rfl rfl (el_sub' (rd_el (HL0.rdR 0 Le.rfl) hx) 0 6 rfl) rfl) rfl ?_
        refine wl_allocH HL0 ti34 ?_
        intro bx w5 H5
        refine wl_valE (v := .int .i64 ((i : Nat) : Int)) rfl (rf_assign rfl) rfl ?_
        refine wl_storeAggH H5 1 (o := 0) (cs := [.string x.name, .int .i64 x.prog.args, .int .i64 x.prog.reads, .int .i64 x.prog.writes, .int .i64 x.prog.locals, .slice x.prog.code.a x.prog.code.n x.prog.code.c]) (A' := #[.string x.name, .int .i64 x.prog.args, .int .i64 x.prog.reads, .int .i64 x.prog.writes, .int .i64 x.prog.locals, .slice x.prog.code.a x.prog.code.n x.prog.code.c]) rfl rfl ti34 rfl rfl rfl rfl rfl oneAll (leb rfl) rfl ?_
        intro w6 H6
        refine wl_nil ?_
        refine thn ?_
        refine seq_ ?_
        refine seq_ ?_
        refine region_ ?_
        refine wl_valE (v := .map (some rm)) rfl (rf_move rfl) rfl ?_
        refine wl_valE (v := .pointer (some ⟨bx, 0, none⟩)) rfl (rf_fieldAddr Try.underlying34 rfl ti9 rfl rfl) rfl ?_
        refine wl_valE (v := .string x.name) rfl (rf_load Try.underlying9 rfl rfl rfl ((H6.blk 1 rfl).cell rfl)) rfl ?_
        refine wl_valE (v := .tuple #[.int .i64 ((getL ms x.name).getD 0), .bool ((getL ms x.name).isSome)]) rfl (rf_lookup2 (a := x.name) klStr9 Try.underlying104 ti3 rfl rfl rfl rfl (H6.map 0 rfl)) (by cases getL ms x.name <;> rfl) ?_
        refine wl_valE (v := .tuple #[.int .i64 ((getL ms x.name).getD 0), .bool ((getL ms x.name).isSome)]) rfl (rf_move rfl) rfl ?_
        refine wl_valE (v := .int .i64 ((getL ms x.name).getD 0)) rfl (rf_extract rfl rfl rfl) rfl ?_
        refine wl_valE (v := .bool ((getL ms x.name).isSome)) rfl (rf_extract rfl rfl rfl) rfl ?_
        refine wl_valE (v := .int .i64 ((getL ms x.name).getD 0)) rfl (rf_assign rfl) rfl ?_
        refine wl_valE (v := .bool ((getL ms x.name).isSome)) rfl (rf_assign rfl) rfl ?_
        refine wl_nil ?_
        refine thn ?_
        refine seq_ ?_
        refine region_ ?_
        refine wl_valE (v := .bool ((getL ms x.name).isSome)) rfl (rf_move rfl) rfl ?_
        refine wl_valE (v := .bool ((getL ms x.name).isSome)) rfl (rf_move rfl) rfl ?_
        refine wl_split ((getL ms x.name).isSome) (fun u8_1 => ?_) (fun u8_1 => ?_)
        · refine wl_guardF rfl rfl rfl u8_1 ?_
          refine wl_guardF rfl rfl rfl u8_1 ?_
          refine wl_guardF rfl rfl rfl u8_1 ?_
          refine wl_guardF rfl rfl rfl u8_1 ?_
          refine wl_valE (v := .bool true) rfl (rf_pickT rfl rfl rfl u8_1) rfl ?_
          refine wl_nil ?_
          refine thn ?_
          refine condT rfl rfl ?_
          have her : errL lib = 35 := by rw [hsm, ← hE, chk_name hx (by first | exact .inr (by have := hM x.name; rw [u8_1] at this; exact of_decide_eq_true this.symm) | exact .inl (by simpa using c34))]
          refine seq_ ?_
          refine region_ ?_
          refine wl_valE (v := .int .i64 ((i : Nat) : Int)) rfl (rf_move rfl) rfl ?_
          refine wl_valE (v := .int .i64 ((i : Nat) : Int)) rfl (rf_assign rfl) rfl ?_
          refine wl_valE (v := .int .i64 (35 : Int)) rfl (rf_assign rfl) rfl ?_
          refine wl_nil ?_
          refine thn ?_
          refine ret_ ?_
          refine thr (blr (thr (thr (blr (thr ?_)))))
          refine fin2 (v1 := .int .i64 ((i : Nat) : Int)) (v2 := .int .i64 (35 : Int)) Try.results17 rfl rfl rfl rfl ?_
          exact ⟨_, ⟨_, by rw [her], rfl⟩, H6.pick' [] rfl rfl⟩
        · refine wl_guardT rfl rfl rfl u8_1 ?_
          refine wl_valE (v := .pointer (some ⟨bx, 0, none⟩)) rfl (rf_fieldAddr Try.underlying34 rfl ti9 rfl rfl) rfl ?_
          refine wl_guardT rfl rfl rfl u8_1 ?_
          refine wl_valE (v := .string x.name) rfl (rf_load Try.underlying9 rfl rfl rfl ((H6.blk 1 rfl).cell rfl)) rfl ?_
          refine wl_guardT rfl rfl rfl u8_1 ?_
          refine wl_tr H6 rfl [] (isName_tr x.name) rfl .nil (rf_call Try.call24 rfl rfl) rfl ?_
          rintro _ w7 _ ⟨rfl, rfl⟩ H7
          refine wl_guardT rfl rfl rfl u8_1 ?_
          refine wl_valE (v := .bool (!(decide (nameP x.name)))) rfl (rf_not rfl rfl) rfl ?_
          refine wl_valE (v := .bool (!(decide (nameP x.name)))) rfl (rf_pickF rfl rfl rfl u8_1) rfl ?_
          refine wl_nil ?_
          refine thn ?_
          refine cond_ (t := !(decide (nameP x.name))) rfl rfl (fun c34 => ?_) (fun c34 => ?_)
          · have c34p := of_decide_eq_false (bnotT c34)
            have her : errL lib = 35 := by rw [hsm, ← hE, chk_name hx (by first | exact .inr (by have := hM x.name; rw [u8_1] at this; exact of_decide_eq_true this.symm) | exact .inl (by simpa using c34))]
            refine seq_ ?_
            refine region_ ?_
            refine wl_valE (v := .int .i64 ((i : Nat) : Int)) rfl (rf_move rfl) rfl ?_
            refine wl_valE (v := .int .i64 ((i : Nat) : Int)) rfl (rf_assign rfl) rfl ?_
            refine wl_valE (v := .int .i64 (35 : Int)) rfl (rf_assign rfl) rfl ?_
            refine wl_nil ?_
            refine thn ?_
            refine ret_ ?_
            refine thr (blr (thr (thr (blr (thr ?_)))))
            refine fin2 (v1 := .int .i64 ((i : Nat) : Int)) (v2 := .int .i64 (35 : Int)) Try.results17 rfl rfl rfl rfl ?_
            exact ⟨_, ⟨_, by rw [her], rfl⟩, H7.pick' [] rfl rfl⟩
          · have c34p := of_decide_eq_true (bnotF c34)
            have hnm : ¬ (¬ nameP x.name ∨ x.name ∈ seen) := fun h => h.elim (fun h => h (by simpa using c34)) (fun h => by have h2 := hM x.name; rw [u8_1, decide_eq_true h] at h2; cases h2)
            refine skip_ ?_
            refine thn ?_
            refine seq_ ?_
            refine region_ ?_
            refine wl_valE (v := .map (some rm)) rfl (rf_move rfl) rfl ?_
            refine wl_valE (v := .pointer (some ⟨bx, 0, none⟩)) rfl (rf_fieldAddr Try.underlying34 rfl ti9 rfl rfl) rfl ?_
            refine wl_valE (v := .string x.name) rfl (rf_load Try.underlying9 rfl rfl rfl ((H7.blk 1 rfl).cell rfl)) rfl ?_
            refine wl_valE (v := .int .i64 ((i : Nat) : Int)) rfl (rf_move rfl) rfl ?_
            refine wl_mapUpdateH H7 0 (a := x.name) (u := ((i : Nat) : Int)) rfl rfl klStr9 Try.underlying104 rfl rfl rfl rfl rfl rfl ?_
            intro w8 H8
            refine wl_nil ?_
            refine thn ?_
            refine seq_ ?_
            have H9 := H8.shR 1 i rfl (getH_map mkC hx)
            try dsimp only [mkC, List.cons_append, List.nil_append] at H9
            try dsimp only [putsH, setH, List.cons_append, List.nil_append] at H9
            refine region_ ?_
            refine wl_valE (v := .pointer (some ⟨bx, 1, none⟩)) rfl (rf_fieldAddr Try.underlying34 rfl ti32 rfl rfl) rfl ?_
            refine wl_valE (v := .agg #[.int .i64 x.prog.args, .int .i64 x.prog.reads, .int .i64 x.prog.writes, .int .i64 x.prog.locals, .slice x.prog.code.a x.prog.code.n x.prog.code.c]) rfl (rf_loadBlk Try.underlying32 rfl ti32 rfl rfl (H9.blk 1 rfl) (leb rfl)) rfl ?_
            refine wl_tr H9 rfl [] (verifyL_tr x.prog) rfl (.ro 2 Le.rfl .nil) (rf_call Try.call25 rfl rfl) rfl ?_
            rintro _ w10 _ ⟨rfl, rfl⟩ H10
            refine wl_valE (v := .int .i64 (verE x.prog)) rfl (rf_assign rfl) rfl ?_
            refine wl_nil ?_
            refine thn ?_
            refine seq_ ?_
            refine region_ ?_
            refine wl_valE (v := .int .i64 (verE x.prog)) rfl (rf_move rfl) rfl ?_
            refine wl_valE (v := .bool (decide (verE x.prog ≠ (0 : Int)))) rfl (rf_neq rfl rfl rfl rfl) rfl ?_
            refine wl_nil ?_
            refine thn ?_
            refine cond_ (t := decide (verE x.prog ≠ (0 : Int))) rfl rfl (fun c44 => ?_) (fun c44 => ?_)
            · have c44p := of_decide_eq_true c44
              have her : errL lib = verE x.prog := by rw [hsm, ← hE, chk_ver hx (hnm) (by omega)]
              refine seq_ ?_
              refine region_ ?_
              refine wl_valE (v := .int .i64 ((i : Nat) : Int)) rfl (rf_move rfl) rfl ?_
              refine wl_valE (v := .int .i64 (verE x.prog)) rfl (rf_move rfl) rfl ?_
              refine wl_valE (v := .int .i64 ((i : Nat) : Int)) rfl (rf_assign rfl) rfl ?_
              refine wl_valE (v := .int .i64 (verE x.prog)) rfl (rf_assign rfl) rfl ?_
              refine wl_nil ?_
              refine thn ?_
              refine ret_ ?_
              refine blr (thr (thr (blr (thr ?_))))
              refine fin2 (v1 := .int .i64 ((i : Nat) : Int)) (v2 := .int .i64 (verE x.prog)) Try.results17 rfl rfl rfl rfl ?_
              exact ⟨_, ⟨_, by rw [her], rfl⟩, (H10.weakR 2 rfl).pick' [] rfl rfl⟩
            · have c44p := of_decide_eq_false c44
              refine skip_ ?_
              refine bln ?_
              refine thn ?_
              refine region_ ?_
              refine wl_valE (v := .int .i64 ((i + 1 : Nat) : Int)) rfl (rf_add rfl rfl rfl rfl (IntWalk.i64_in _ (by omega))) rfl ?_
              refine wl_valE (v := .int .i64 ((i + 1 : Nat) : Int)) rfl (rf_move rfl) rfl ?_
              refine wl_nil ?_
              refine thn ?_
              refine ⟨n - (i + 1), _, rfl, (by omega), _, i + 1, (putL ms x.name ((i : Nat) : Int)), (x.name :: seen), upds_self ⟨rfl, rfl, rfl, rfl, trivial⟩, rfl, by omega, by rw [← hE, chk_ok hx hnm (by omega)], fun s => by rw [getL_putL]; by_cases e : s = x.name <;> simp [e, hM], (H10.weakR 2 rfl).pick' [0] rfl rfl⟩
      · have c17p := of_decide_eq_false c17
        refine exit_ ?_
        refine thx (thx (blx ?_))
        refine thn ?_
        refine seq_ ?_
        obtain rfl : n = i := by omega
        have her : errL lib = 0 := by rw [hsm, ← hE, drop_all (by omega)]; rfl
        refine region_ ?_
        refine wl_valE (v := .int .i64 (0 : Int)) rfl (rf_assign rfl) rfl ?_
        refine wl_valE (v := .int .i64 (0 : Int)) rfl (rf_assign rfl) rfl ?_
        refine wl_nil ?_
        refine thn ?_
        refine ret_ ?_
        refine fin2 (v1 := .int .i64 (0 : Int)) (v2 := .int .i64 (0 : Int)) Try.results17 rfl rfl rfl rfl ?_
        exact ⟨_, ⟨_, by rw [her], rfl⟩, HL0.pick' [] rfl rfl⟩
set_option maxRecDepth 100000 in
theorem checkR_tr (a : Option Addr) (n c : Nat) (lib : List ProcR) : Tr Try.prog 20 [.slice a n c] [rdH encProc 6 a n c lib, shH (lib.map mkC)] [] (fun v m => ∃ i, v = .tuple #[.int .i64 i, .int .i64 (errL lib)] ∧ m = []) := by
  intro w0 S0 H0
  have hl := (rd_len (H0.rdR 0 Le.rfl)).1
  refine enterR Try.func20 rfl Try.ntmps20 rfl ?_
  intro g0
  refine seq_ ?_
  refine region_ ?_
  refine wl_valE (v := .int .i64 (0 : Int)) rfl (rf_assign rfl) rfl ?_
  refine wl_valE (v := .int .i64 (0 : Int)) rfl (rf_assign rfl) rfl ?_
  refine wl_nil ?_
  refine thn ?_
  refine seq_ ?_
  refine seq_ ?_
  refine region_ ?_
  refine wl_valE (v := .slice a n c) rfl (rf_move rfl) rfl ?_
  refine wl_valE (v := .int .i64 ((n : Nat) : Int)) rfl (rf_len_slice Try.underlying24 rfl rfl) rfl ?_
  refine wl_valE (v := .bool (decide ((64 : Int) < ((n : Nat) : Int)))) rfl (rf_gtr rfl rfl rfl rfl) rfl ?_
  refine wl_nil ?_
  refine thn ?_
  refine cond_ (t := decide ((64 : Int) < ((n : Nat) : Int))) rfl rfl (fun c9 => ?_) (fun c9 => ?_)
  · have c9p := of_decide_eq_true c9
    have her := errL_big (l := lib) (by omega)
    refine seq_ ?_
    refine region_ ?_
    refine wl_valE (v := .int .i64 (0 : Int)) rfl (rf_assign rfl) rfl ?_
    refine wl_valE (v := .int .i64 (36 : Int)) rfl (rf_assign rfl) rfl ?_
    refine wl_nil ?_
    refine thn ?_
    refine ret_ ?_
    refine thr ?_
    refine fin2 (v1 := .int .i64 (0 : Int)) (v2 := .int .i64 (36 : Int)) Try.results20 rfl rfl rfl rfl ?_
    exact ⟨_, ⟨_, by rw [her], rfl⟩, H0.pick' [] rfl rfl⟩
  · have c9p := of_decide_eq_false c9
    have hsm := errL_small (l := lib) (by omega)
    refine skip_ ?_
    refine thn ?_
    refine seq_ ?_
    refine seq_ ?_
    refine region_ ?_
    refine wl_valE (v := .int .i64 (0 : Int)) rfl (rf_assign rfl) rfl ?_
    refine wl_nil ?_
    refine thn ?_
    refine block_ ?_
    refine loop_ (fun qk_ qf_ qw_ => ∃ (g : Nat → Value) (i : Nat) (seen : List ByteArray), qf_ = upds g [(0, .slice a n c), (4, .int .i64 ((i : Nat) : Int))] ∧ qk_ = n - i ∧ (i ≤ n) ∧ (chkE (lib.drop i) seen = chkE lib []) ∧ (∀ s, s ∈ seen ↔ ∃ (k : Nat) (y : ProcR), k < i ∧ lib[k]? = some y ∧ y.name = s) ∧ St w0 S0 [rdH encProc 6 a n c lib, shH (lib.map mkC)] qw_ []) (n - 0) ?_ ?_
    · refine ⟨_, 0, [], upds_self ⟨rfl, rfl, trivial⟩, rfl, Nat.zero_le _, rfl, fun s => ⟨fun h => (by cases h), fun ⟨k, _, h, _⟩ => (by omega)⟩, H0.pick' [] rfl rfl⟩
    · rintro lk0 _ wl0 ⟨gl0, i, seen, rfl, hlk0, hi, hE, hM, HL0⟩
      refine seq_ ?_
      refine seq_ ?_
      refine region_ ?_
      refine wl_valE (v := .int .i64 ((i : Nat) : Int)) rfl (rf_move rfl) rfl ?_
      refine wl_valE (v := .slice a n c) rfl (rf_move rfl) rfl ?_
      refine wl_valE (v := .int .i64 ((n : Nat) : Int)) rfl (rf_len_slice Try.underlying24 rfl rfl) rfl ?_
      refine wl_valE (v := .bool (decide (((i : Nat) : Int) < ((n : Nat) : Int)))) rfl (rf_lss rfl rfl rfl rfl) rfl ?_
      refine wl_nil ?_
      refine thn ?_
      refine cond_ (t := decide (((i : Nat) : Int) < ((n : Nat) : Int))) rfl rfl (fun c13 => ?_) (fun c13 => ?_)
      · have c13p := of_decide_eq_true c13
        refine skip_ ?_
        refine thn ?_
        refine seq_ ?_
        refine block_ ?_
        refine seq_ ?_
        refine seq_ ?_
        have hn1 := rd_len (HL0.rdR 0 Le.rfl)
        obtain ⟨x, hx⟩ : ∃ q_, lib[i]? = some q_ := ⟨_, List.getElem?_eq_getElem (by omega)⟩
        refine region_ ?_
        refine wl_valE (v := .slice a n c) rfl (rf_move rfl) rfl ?_
        refine wl_valE (v := .int .i64 ((i : Nat) : Int)) rfl (rf_move rfl) rfl ?_
        refine wl_valE (v := .pointer (some ⟨ab a, ao a + i * 6, none⟩)) rfl (rf_indexAddrH Try.underlying24 ti34 rfl rfl rfl rfl (by omega) (by omega) (HL0.rdR 0 Le.rfl)) rfl ?_
        refine wl_valE (v := .pointer (some ⟨ab a, ao a + i * 6, none⟩)) rfl (rf_fieldAddr Try.underlying34 rfl ti9 rfl rfl) rfl ?_
        refine wl_valE (v := .string x.name) rfl (rf_load Try.underlying9 rfl rfl rfl (rd_el (HL0.rdR 0 Le.rfl) hx 0 _ rfl)) rfl ?_
        refine wl_tr HL0 rfl [] (name_tr x.name) rfl .nil (rf_call Try.call26 rfl rfl) rfl ?_
        rintro _ w2 _ ⟨rfl, rfl⟩ H2
        refine wl_valE (v := .bool (!(decide (nameP x.name)))) rfl (rf_not rfl rfl) rfl ?_
        refine wl_nil ?_
        refine thn ?_
        refine cond_ (t := !(decide (nameP x.name))) rfl rfl (fun c22 => ?_) (fun c22 => ?_)
        · have c22p := of_decide_eq_false (bnotT c22)
          have her : errL lib = 35 := by rw [hsm, ← hE, chk_name hx (.inl (by simpa using c22))]
          refine seq_ ?_
          refine region_ ?_
          refine wl_valE (v := .int .i64 ((i : Nat) : Int)) rfl (rf_move rfl) rfl ?_
          refine wl_valE (v := .int .i64 ((i : Nat) : Int)) rfl (rf_assign rfl) rfl ?_
          refine wl_valE (v := .int .i64 (35 : Int)) rfl (rf_assign rfl) rfl ?_
          refine wl_nil ?_
          refine thn ?_
          refine ret_ ?_
          refine thr (blr (thr (thr (blr (thr ?_)))))
          refine fin2 (v1 := .int .i64 ((i : Nat) : Int)) (v2 := .int .i64 (35 : Int)) Try.results20 rfl rfl rfl rfl ?_
          exact ⟨_, ⟨_, by rw [her], rfl⟩, H2.pick' [] rfl rfl⟩
        · have c22p := of_decide_eq_true (bnotF c22)
          have hnm : nameP x.name := by simpa using c22
          refine skip_ ?_
          refine thn ?_
          refine seq_ ?_
          refine seq_ ?_
          refine region_ ?_
          refine wl_valE (v := .int .i64 (0 : Int)) rfl (rf_assign rfl) rfl ?_
          refine wl_nil ?_
          refine thn ?_
          refine block_ ?_
          refine loop_ (fun qk_ qf_ qw_ => ∃ (g : Nat → Value) (k : Nat), qf_ = upds g [(0, .slice a n c), (4, .int .i64 ((i : Nat) : Int)), (5, .int .i64 ((k : Nat) : Int))] ∧ qk_ = i - k ∧ (k ≤ i) ∧ (∀ j y, j < k → lib[j]? = some y → y.name ≠ x.name) ∧ St w0 S0 [rdH encProc 6 a n c lib, shH (lib.map mkC)] qw_ []) (i - 0) ?_ ?_
          · refine ⟨_, 0, upds_self ⟨rfl, rfl, rfl, trivial⟩, rfl, Nat.zero_le _, fun j y h => by omega, H2.pick' [] rfl rfl⟩
          · rintro lk1 _ wl1 ⟨gl1, k, rfl, hlk1, hk, hno, HL1⟩
            refine seq_ ?_
            refine seq_ ?_
            refine region_ ?_
            refine wl_valE (v := .int .i64 ((k : Nat) : Int)) rfl (rf_move rfl) rfl ?_
            refine wl_valE (v := .int .i64 ((i : Nat) : Int)) rfl (rf_move rfl) rfl ?_
            refine wl_valE (v := .bool (decide (((k : Nat) : Int) < ((i : Nat) : Int)))) rfl (rf_lss rfl rfl rfl rfl) rfl ?_
            refine wl_nil ?_
            refine thn ?_
            refine cond_ (t := decide (((k : Nat) : Int) < ((i : Nat) : Int))) rfl rfl (fun c26 => ?_) (fun c26 => ?_)
            · have c26p := of_decide_eq_true c26
              refine skip_ ?_
              refine thn ?_
              refine seq_ ?_
              refine block_ ?_
              refine seq_ ?_
              obtain ⟨y, hy⟩ : ∃ q_, lib[k]? = some q_ := ⟨_, List.getElem?_eq_getElem (by omega)⟩
              refine region_q mixedP (by kernel_rfl) ?_
              refine qt_valE (v := .slice a n c) rfl (fun wq hq => rf_move rfl) rfl ?_
              refine qt_valE (v := .int .i64 ((k : Nat) : Int)) rfl (fun wq hq => rf_move rfl) rfl ?_
              refine qt_valE (v := .pointer (some ⟨ab a, ao a + k * 6, none⟩)) rfl (fun wq hq => rf_indexAddrH Try.underlying24 ti34 rfl rfl rfl rfl (by omega) (by omega) ((HL1.keep hq).rdR 0 Le.rfl)) rfl ?_
              refine qt_valE (v := .pointer (some ⟨ab a, ao a + k * 6, none⟩)) rfl (fun wq hq => rf_fieldAddr Try.underlying34 rfl ti9 rfl rfl) rfl ?_
              refine qt_valE (v := .string y.name) rfl (fun wq hq => rf_load Try.underlying9 rfl rfl rfl (rd_el ((HL1.keep hq).rdR 0 Le.rfl) hy 0 _ rfl)) rfl ?_
              refine qt_valE (v := .slice a n c) rfl (fun wq hq => rf_move rfl) rfl ?_
              refine qt_valE (v := .int .i64 ((i : Nat) : Int)) rfl (fun wq hq => rf_move rfl) rfl ?_
              refine qt_valE (v := .pointer (some ⟨ab a, ao a + i * 6, none⟩)) rfl (fun wq hq => rf_indexAddrH Try.underlying24 ti34 rfl rfl rfl rfl (by omega) (by omega) ((HL1.keep hq).rdR 0 Le.rfl)) rfl ?_
              refine qt_valE (v := .pointer (some ⟨ab a, ao a + i * 6, none⟩)) rfl (fun wq hq => rf_fieldAddr Try.underlying34 rfl ti9 rfl rfl) rfl ?_
              refine qt_valE (v := .string x.name) rfl (fun wq hq => rf_load Try.underlying9 rfl rfl rfl (rd_el ((HL1.keep hq).rdR 0 Le.rfl) hx 0 _ rfl)) rfl ?_
              refine qt_valE (v := .bool (decide (y.name = x.name))) rfl (fun wq hq => rf_eqlStr rfl rfl rfl rfl) rfl ?_
              refine qt_nil ?_
              intro w3 hk3
              have H3 := HL1.keep hk3
              refine thn ?_
              refine cond_ (t := decide (y.name = x.name)) rfl rfl (fun c39 => ?_) (fun c39 => ?_)
              · have c39p := of_decide_eq_true c39
                have her : errL lib = 35 := by rw [hsm, ← hE, chk_name hx (.inr ((hM _).2 ⟨k, y, by omega, hy, c39p⟩))]
                refine seq_ ?_
                refine region_ ?_
                refine wl_valE (v := .int .i64 ((i : Nat) : Int)) rfl (rf_move rfl) rfl ?_
                refine wl_valE (v := .int .i64 ((i : Nat) : Int)) rfl (rf_assign rfl) rfl ?_
                refine wl_valE (v := .int .i64 (35 : Int)) rfl (rf_assign rfl) rfl ?_
                refine wl_nil ?_
                refine thn ?_
                refine ret_ ?_
                refine blr (thr (thr (blr (thr (blr (thr (thr (blr (thr ?_)))))))))
                refine fin2 (v1 := .int .i64 ((i : Nat) : Int)) (v2 := .int .i64 (35 : Int)) Try.results20 rfl rfl rfl rfl ?_
                exact ⟨_, ⟨_, by rw [her], rfl⟩, H3.pick' [] rfl rfl⟩
              · have c39p := of_decide_eq_false c39
                refine skip_ ?_
                refine bln ?_
                refine thn ?_
                refine region_ ?_
                refine wl_valE (v := .int .i64 ((k : Nat) : Int)) rfl (rf_move rfl) rfl ?_
                refine wl_valE (v := .int .i64 ((k + 1 : Nat) : Int)) rfl (rf_add rfl rfl rfl rfl (IntWalk.i64_in _ (by omega))) rfl ?_
                refine wl_valE (v := .int .i64 ((k + 1 : Nat) : Int)) rfl (rf_assign rfl) rfl ?_
                refine wl_nil ?_
                refine thn ?_
                refine ⟨i - (k + 1), _, rfl, (by omega), _, k + 1, upds_self ⟨rfl, rfl, rfl, trivial⟩, rfl, by omega, fun j z h1 h2 => by
                  rcases Nat.lt_or_eq_of_le (Nat.le_of_lt_succ h1) with h3 | h3
                  · exact hno j z h3 h2
                  · subst h3; rw [hy] at h2; cases h2; exact c39p, H3.pick' [] rfl rfl⟩
            · have c26p := of_decide_eq_false c26
              refine exit_ ?_
              refine thx (thx (blx ?_))
              refine thn ?_
              refine seq_ ?_
              have hnm2 : ¬ (¬ nameP x.name ∨ x.name ∈ seen) := fun h => h.elim (fun h => h hnm) (fun h => by obtain ⟨j, y, h1, h2, h3⟩ := (hM _).1 h; exact hno j y (by omega) h2 h3)
              have H4 := HL1.shR 1 i rfl (getH_map mkC hx)
              try dsimp only [mkC, List.cons_append, List.nil_append] at H4
              refine region_ ?_
              refine wl_valE (v := .slice a n c) rfl (rf_move rfl) rfl ?_
              refine wl_valE (v := .int .i64 ((i : Nat) : Int)) rfl (rf_move rfl) rfl ?_
              refine wl_valE (v := .pointer (some ⟨ab a, ao a + i * 6, none⟩)) rfl (rf_indexAddrH Try.underlying24 ti34 rfl rfl rfl rfl (by omega) (by omega) (H4.rdR 0 Le.rfl)) rfl ?_
              refine wl_valE (v := .pointer (some ⟨ab a, ao a + i * 6 + 1, none⟩)) rfl (rf_fieldAddr Try.underlying34 rfl ti32 rfl rfl) rfl ?_
              refine wl_valE (v := .agg #[.int .i64 x.prog.args, .int .i64 x.prog.reads, .int .i64 x.prog.writes, .int .i64 x.prog.locals, .slice x.prog.code.a x.prog.code.n x.prog.code.c]) rfl (rf_loadAgg (cs := [.int .i64 x.prog.args, .int .i64 x.prog.reads, .int .i64 x.prog.writes, .int .i64 x.prog.locals, .slice x.prog.code.a x.prog.code.n x.prog.code.c]) Try.underlying32 rfl ti32 rfl rfl (el_sub' (rd_el (H4.rdR 0 Le.rfl) hx) 1 5 rfl) rfl) rfl ?_
              refine wl_tr H4 rfl [] (verifyR_tr x.prog) rfl (.ro 2 Le.rfl .nil) (rf_call Try.call27 rfl rfl) rfl ?_
              rintro _ w5 _ ⟨rfl, rfl⟩ H5
              refine wl_valE (v := .int .i64 (verE x.prog)) rfl (rf_assign rfl) rfl ?_
              refine wl_nil ?_
              refine thn ?_
              refine seq_ ?_
              refine region_ ?_
              refine wl_valE (v := .int .i64 (verE x.prog)) rfl (rf_move rfl) rfl ?_
              refine wl_valE (v := .bool (decide (verE x.prog ≠ (0 : Int)))) rfl (rf_neq rfl rfl rfl rfl) rfl ?_
              refine wl_nil ?_
              refine thn ?_
              refine cond_ (t := decide (verE x.prog ≠ (0 : Int))) rfl rfl (fun c48 => ?_) (fun c48 => ?_)
              · have c48p := of_decide_eq_true c48
                have her : errL lib = verE x.prog := by rw [hsm, ← hE, chk_ver hx (hnm2) (by omega)]
                refine seq_ ?_
                refine region_ ?_
                refine wl_valE (v := .int .i64 ((i : Nat) : Int)) rfl (rf_move rfl) rfl ?_
                refine wl_valE (v := .int .i64 (verE x.prog)) rfl (rf_move rfl) rfl ?_
                refine wl_valE (v := .int .i64 ((i : Nat) : Int)) rfl (rf_assign rfl) rfl ?_
                refine wl_valE (v := .int .i64 (verE x.prog)) rfl (rf_assign rfl) rfl ?_
                refine wl_nil ?_
                refine thn ?_
                refine ret_ ?_
                refine blr (thr (thr (blr (thr ?_))))
                refine fin2 (v1 := .int .i64 ((i : Nat) : Int)) (v2 := .int .i64 (verE x.prog)) Try.results20 rfl rfl rfl rfl ?_
                exact ⟨_, ⟨_, by rw [her], rfl⟩, (H5.weakR 2 rfl).pick' [] rfl rfl⟩
              · have c48p := of_decide_eq_false c48
                refine skip_ ?_
                refine bln ?_
                refine thn ?_
                refine region_ ?_
                refine wl_valE (v := .int .i64 ((i : Nat) : Int)) rfl (rf_move rfl) rfl ?_
                refine wl_valE (v := .int .i64 ((i + 1 : Nat) : Int)) rfl (rf_add rfl rfl rfl rfl (IntWalk.i64_in _ (by omega))) rfl ?_
                refine wl_valE (v := .int .i64 ((i + 1 : Nat) : Int)) rfl (rf_assign rfl) rfl ?_
                refine wl_nil ?_
                refine thn ?_
                refine ⟨n - (i + 1), _, rfl, (by omega), _, i + 1, (x.name :: seen), upds_self ⟨rfl, rfl, trivial⟩, rfl, by omega, by rw [← hE, chk_ok hx hnm2 (by omega)], fun s => by
                  rw [List.mem_cons, hM]
                  constructor
                  · rintro (rfl | ⟨k, y, h1, h2, h3⟩)
                    · exact ⟨i, x, by omega, hx, rfl⟩
                    · exact ⟨k, y, by omega, h2, h3⟩
                  · rintro ⟨k, y, h1, h2, h3⟩
                    rcases Nat.lt_or_eq_of_le (Nat.le_of_lt_succ h1) with h4 | h4
                    · exact .inr ⟨k, y, h4, h2, h3⟩
                    · subst h4; rw [hx] at h2; cases h2; exact .inl h3.symm, (H5.weakR 2 rfl).pick' [] rfl rfl⟩
      · have c13p := of_decide_eq_false c13
        refine exit_ ?_
        refine thx (thx (blx ?_))
        refine thn ?_
        refine seq_ ?_
        obtain rfl : n = i := by omega
        have her : errL lib = 0 := by rw [hsm, ← hE, drop_all (by omega)]; rfl
        refine region_ ?_
        refine wl_valE (v := .int .i64 (0 : Int)) rfl (rf_assign rfl) rfl ?_
        refine wl_valE (v := .int .i64 (0 : Int)) rfl (rf_assign rfl) rfl ?_
        refine wl_nil ?_
        refine thn ?_
        refine ret_ ?_
        refine fin2 (v1 := .int .i64 (0 : Int)) (v2 := .int .i64 (0 : Int)) Try.results20 rfl rfl rfl rfl ?_
        exact ⟨_, ⟨_, by rw [her], rfl⟩, HL0.pick' [] rfl rfl⟩
end Go.Proofs.Ytphllgfbjfajfaa.W
