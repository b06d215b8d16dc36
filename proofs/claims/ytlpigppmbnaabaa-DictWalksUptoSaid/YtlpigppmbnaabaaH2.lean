import Derived.Test.YtlpigppmbnaabaaH1
import Derived.KernelRfl
namespace Go.Proofs.Ytlpigppmbnaabaa.W
open Go Go.Wk
set_option linter.unusedVariables false
set_option linter.unusedSimpArgs false
theorem each_tr {b m N : Nat} {l : List (Key × Int)} (p : Int) (hN : N ≤ 2932031007400) : Tr Try.prog 8 [.pointer (some ⟨b, 0, none⟩), .int .i64 p] [dicH b m l N] [] (fun v m => ∃ tb a c R, R.map kvp = allP l p ∧ v = .func (.func 16) #[] #[.pointer (some ⟨tb, 0, none⟩)] ∧ m = [blkH tb #[.slice a R.length c] 52, slH encSlotI 4 50 a R.length c R]) := by
  intro w0 S0 H0
  refine enterR Try.func8 rfl Try.ntmps8 rfl ?_
  intro g0
  refine seq_ ?_
  refine region_ ?_
  refine wl_valE (v := .nilFunc) rfl (rf_assign rfl) rfl ?_
  refine wl_nil ?_
  refine thn ?_
  refine seq_ ?_
  refine region_ ?_
  refine wl_valE (v := .pointer (some ⟨b, 0, none⟩)) rfl (rf_move rfl) rfl ?_
  refine wl_valE (v := .int .i64 p) rfl (rf_move rfl) rfl ?_
  refine wl_tr H0 rfl [] (row_tr p hN) rfl (.ro 0 Le.rfl .nil) (rf_call Try.call15 rfl rfl) rfl ?_
  rintro _ w1 _ ⟨ra1, rc1, Rr1, hRr1, rfl, rfl⟩ H1
  refine wl_allocH H1 ti52 ?_
  intro tb w3 H3
  refine wl_storeH H3 1 (v := .slice ra1 Rr1.length rc1) (A' := #[.slice ra1 Rr1.length rc1]) rfl rfl ti52 rfl rfl rfl rfl rfl (ltb rfl) rfl ?_
  intro w4 H4
  refine wl_nil ?_
  refine thn ?_
  refine seq_ ?_
  refine region_ ?_
  refine wl_valE (v := .func (.func 16) #[] #[.pointer (some ⟨tb, 0, none⟩)]) rfl (rf_makeFunc (vfs := []) (vcs := [.pointer (some ⟨tb, 0, none⟩)]) rfl rfl rfl rfl) rfl ?_
  refine wl_valE (v := .func (.func 16) #[] #[.pointer (some ⟨tb, 0, none⟩)]) rfl (rf_assign rfl) rfl ?_
  refine wl_nil ?_
  refine thn ?_
  refine ret_ ?_
  refine fin1 (v := .func (.func 16) #[] #[.pointer (some ⟨tb, 0, none⟩)]) Try.results8 rfl rfl ?_
  exact ⟨_, ⟨_, _, _, _, hRr1, rfl, rfl⟩, H4.pick' [1, 0] rfl rfl⟩
theorem each_it (tb : Nat) (a : Option Addr) (c : Nat) (R : List SlotI) (hRn : R.length ≤ 9223372036854775806) : IterC Try.prog 16 #[.pointer (some ⟨tb, 0, none⟩)] (fun s => #[.agg (encKey s.key).toArray, .int .i64 s.val]) R (fun W => Blk W tb (.cells #[.slice a R.length c] 52 (0, 0)) ∧ ∃ S, (rdH encSlotI 4 a R.length c R).P W S) := by
  intro ln J Jx w0 hJk hJxk hRep hY h0
  obtain ⟨S0, hS0⟩ : ∃ S : Nat → Prop, S = fun _ => True := ⟨_, rfl⟩
  have H0 : St w0 S0 [] w0 [sinceH (J 0)] := by rw [hS0]; exact St.base h0
  rw [show (#[.func (.yield ln) #[] #[]] ++ #[.pointer (some ⟨tb, 0, none⟩)] : Array Value) = [.func (.yield ln) #[] #[], .pointer (some ⟨tb, 0, none⟩)].toArray from by simp]
  show Ret Try.prog 16 [.func (.yield ln) #[] #[], .pointer (some ⟨tb, 0, none⟩)] w0 (fun _ B => J R.length B ∨ Jx B)
  refine enterR Try.func16 rfl Try.ntmps16 rfl ?_
  intro g0
  refine seq_ ?_
  obtain ⟨WJ1, hJ1, hkJ1⟩ := H0.since 0 rfl
  obtain ⟨hblk1, hrd1⟩ := hRep _ _ (hJk _ _ _ hJ1 hkJ1)
  refine region_ ?_
  refine wl_valE (v := .slice a R.length c) rfl (rf_load Try.underlying52 rfl rfl rfl (hblk1.cell rfl)) rfl ?_
  refine wl_valE (v := .int .i64 ((R.length : Nat) : Int)) rfl (rf_len_slice Try.underlying52 rfl rfl) rfl ?_
  refine wl_valE (v := .int .i64 (0 : Int)) rfl (rf_move rfl) rfl ?_
  refine wl_nil ?_
  refine thn ?_
  refine block_ ?_
  refine loop_ (fun qk_ qf_ qw_ => ∃ (g : Nat → Value) (i : Nat) (wb : World), qf_ = upds g [(0, .func (.yield ln) #[] #[]), (5, .slice a R.length c), (6, .int .i64 ((R.length : Nat) : Int)), (7, .int .i64 ((i : Nat) : Int))] ∧ qk_ = R.length - i ∧ (i ≤ R.length) ∧ St wb S0 [] qw_ [sinceH (J i)]) (R.length - 0) ?_ ?_
  · refine ⟨_, 0, w0, upds_self ⟨rfl, rfl, rfl, rfl, trivial⟩, rfl, Nat.zero_le _, H0.pick' [0] rfl rfl⟩
  · rintro lk0 _ wl0 ⟨gl0, i, wb, rfl, hlk0, hi, HL0⟩
    refine seq_ ?_
    refine region_ ?_
    refine wl_valE (v := .bool (decide (((i : Nat) : Int) < ((R.length : Nat) : Int)))) rfl (rf_lss rfl rfl rfl rfl) rfl ?_
    refine wl_nil ?_
    refine thn ?_
    refine seq_ ?_
    refine cond_ (t := decide (((i : Nat) : Int) < ((R.length : Nat) : Int))) rfl rfl (fun c8 => ?_) (fun c8 => ?_)
    · have c8p := of_decide_eq_true c8
      refine skip_ ?_
      refine thn ?_
      refine seq_ ?_
      refine block_ ?_
      refine seq_ ?_
      obtain ⟨WJ2, hJ2, hkJ2⟩ := HL0.since 0 rfl
      obtain ⟨hblk2, hrd2⟩ := hRep _ _ (hJk _ _ _ hJ2 hkJ2)
      have hn3 := rd_len hrd2
      obtain ⟨xs, hxs⟩ : ∃ q_, R[i]? = some q_ := ⟨_, List.getElem?_eq_getElem (by omega)⟩
      refine region_ ?_
      refine wl_valE (v := .pointer (some ⟨ab a, ao a + i * 4, none⟩)) rfl (rf_indexAddrH Try.underlying52 ti50 rfl rfl rfl rfl (by omega) (by omega) hrd2) rfl ?_
      refine wl_valE (v := .agg #[.int .i64 xs.key.table, .int .i64 xs.key.row, .int .i64 xs.val, .int .i64 xs.came]) rfl (rf_loadAgg (cs := [.int .i64 xs.key.table, .int .i64 xs.key.row, .int .i64 xs.val, .int .i64 xs.came]) Try.underlying50 rfl ti50 rfl rfl (el_sub' (rd_el hrd2 hxs) 0 4 rfl) rfl) rfl ?_
      refine wl_allocH HL0 ti50 ?_
      intro b4 w5 H5
      refine wl_storeAggH H5 1 (o := 0) (cs := [.int .i64 xs.key.table, .int .i64 xs.key.row, .int .i64 xs.val, .int .i64 xs.came]) (A' := #[.int .i64 xs.key.table, .int .i64 xs.key.row, .int .i64 xs.val, .int .i64 xs.came]) rfl rfl ti50 rfl rfl rfl rfl rfl oneAll (leb rfl) rfl ?_
      intro w6 H6
      refine wl_nil ?_
      refine thn ?_
      refine seq_ ?_
      refine region_y 5 rfl ?_
      refine wl_valE (v := .func (.yield ln) #[] #[]) rfl (rf_move rfl) rfl ?_
      refine wl_valE (v := .pointer (some ⟨b4, 0, none⟩)) rfl (rf_fieldAddr Try.underlying50 rfl ti28 rfl rfl) rfl ?_
      refine wl_valE (v := .agg #[.int .i64 xs.key.table, .int .i64 xs.key.row]) rfl (rf_loadBlk Try.underlying28 rfl ti28 rfl rfl (H6.blk 1 rfl) (leb rfl)) rfl ?_
      refine wl_valE (v := .pointer (some ⟨b4, 2, none⟩)) rfl (rf_fieldAddr Try.underlying50 rfl ti2 rfl rfl) rfl ?_
      refine wl_valE (v := .int .i64 xs.val) rfl (rf_load Try.underlying2 rfl rfl rfl ((H6.blk 1 rfl).cell rfl)) rfl ?_
      obtain ⟨WJ, hJ, hkJ⟩ := H6.since 0 rfl
      refine wl_nil ?_
      refine yq (xs := [Go.Operand.tmp 13, Go.Operand.tmp 15]) (vs := [.agg #[.int .i64 xs.key.table, .int .i64 xs.key.row], .int .i64 xs.val]) rfl rfl rfl rfl rfl (hY i xs _ hxs (hJk _ _ _ hJ hkJ)) (fun by3 wy3 hy3 => ?_)
      cases by3 with
      | true =>
        have Hy3 : St wy3 S0 [] wy3 [sinceH (J (i + 1))] := by rw [hS0]; exact St.base hy3
        refine wl_valE (v := .bool false) rfl (rf_not rfl rfl) rfl ?_
        refine wl_nil ?_
        refine thn ?_
        refine condF rfl rfl ?_
        refine skip_ ?_
        refine bln ?_
        refine thn ?_
        refine region_ ?_
        refine wl_valE (v := .int .i64 ((i + 1 : Nat) : Int)) rfl (rf_add rfl rfl rfl rfl (IntWalk.i64_in _ (by omega))) rfl ?_
        refine wl_valE (v := .int .i64 ((i + 1 : Nat) : Int)) rfl (rf_move rfl) rfl ?_
        refine wl_nil ?_
        refine thn ?_
        refine ⟨R.length - (i + 1), _, rfl, (by omega), _, i + 1, wy3, upds_self ⟨rfl, rfl, rfl, rfl, trivial⟩, rfl, by omega, Hy3.pick' [0] rfl rfl⟩
      | false =>
        have Hy3 : St wy3 S0 [] wy3 [sinceH (Jx)] := by rw [hS0]; exact St.base hy3
        refine wl_valE (v := .bool true) rfl (rf_not rfl rfl) rfl ?_
        refine wl_nil ?_
        refine thn ?_
        refine condT rfl rfl ?_
        refine ret_ ?_
        refine blr (thr (thr (blr ?_)))
        refine fin0 Try.results16 ?_
        obtain ⟨WZ, hZ, hkZ⟩ := Hy3.since 0 rfl
        exact .inr (hJxk _ _ hZ hkZ)
    · have c8p := of_decide_eq_false c8
      refine exit_ ?_
      refine thx (thx (blx ?_))
      refine fin_ ?_
      refine fin0 Try.results16 ?_
      obtain rfl : i = R.length := by omega
      obtain ⟨WZ, hZ, hkZ⟩ := HL0.since 0 rfl
      exact .inl (hJk _ _ _ hZ hkZ)
end Go.Proofs.Ytlpigppmbnaabaa.W
