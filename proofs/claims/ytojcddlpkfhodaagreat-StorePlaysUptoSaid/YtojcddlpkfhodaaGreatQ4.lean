import Derived.Test.YtojcddlpkfhodaaGreatQ3
import Derived.KernelRfl
namespace Go.Proofs.YtojcddlpkfhodaaGreat.W
open Go Go.Wk
set_option linter.unusedVariables false
set_option linter.unusedSimpArgs false
def rfH (rb : Nat) (x : RS) : HP := repH (fun (y : Option Addr × Nat) => True) fun y => [blkH rb #[.int .i64 x.parts, .int .i64 x.cap, .slice y.1 x.all.length y.2, .int .i64 x.last] 50, slH encEnt 8 110 y.1 x.all.length y.2 x.all]
theorem rfH.open_ {w0 w : World} {S0 : Nat → Prop} {R L : List HP} {rb : Nat} {x : RS} (H : St w0 S0 R w L) (k : Nat) (hA : getH L k = rfH rb x) (hlt : hasH L k = true) : ∃ y : Option Addr × Nat, (True) ∧ St w0 S0 R w (putsH L [k] [blkH rb #[.int .i64 x.parts, .int .i64 x.cap, .slice y.1 x.all.length y.2, .int .i64 x.last] 50, slH encEnt 8 110 y.1 x.all.length y.2 x.all]) := H.open_ k hA hlt
theorem rfH.openR {w0 w : World} {S0 : Nat → Prop} {R L : List HP} {rb : Nat} {x : RS} (H : St w0 S0 R w L) (k : Nat) (hA : getH R k = rfH rb x) : ∃ y : Option Addr × Nat, (True) ∧ St w0 S0 (R ++ [blkH rb #[.int .i64 x.parts, .int .i64 x.cap, .slice y.1 x.all.length y.2, .int .i64 x.last] 50, slH encEnt 8 110 y.1 x.all.length y.2 x.all]) w L := H.openR k hA
theorem rfH.close_ {w0 w : World} {S0 : Nat → Prop} {R L : List HP} {rb : Nat} {x : RS} (H : St w0 S0 R w L) (is : List Nat) (y : Option Addr × Nat) (hx : True) (hM : pickH L is = [blkH rb #[.int .i64 x.parts, .int .i64 x.cap, .slice y.1 x.all.length y.2, .int .i64 x.last] 50, slH encEnt 8 110 y.1 x.all.length y.2 x.all]) (hi : okI L is = true) : St w0 S0 R w (putsH L is [rfH rb x]) := H.close_ is y hx hM hi
attribute [irreducible] rfH
theorem later_tr (a b : Ver) : Tr Tryz.prog 49 [.agg #[.int .i64 a.batch, .int .i64 a.index, .bool a.filled, .bool a.cell.is_, .int .i64 a.cell.value], .agg #[.int .i64 b.batch, .int .i64 b.index, .bool b.filled, .bool b.cell.is_, .int .i64 b.cell.value]] [] [] (fun v m => v = .bool (laterV a b) ∧ m = []) := by
  intro w0 S0 H0
  refine enterR Tryz.func49 rfl Tryz.ntmps49 rfl ?_
  intro g0
  refine seq_ ?_
  refine region_ ?_
  refine wl_boxH H0 (v := .agg #[.int .i64 a.batch, .int .i64 a.index, .bool a.filled, .bool a.cell.is_, .int .i64 a.cell.value]) rfl rfl ?_
  intro b1 w2 H2
  refine wl_boxH H2 (v := .agg #[.int .i64 b.batch, .int .i64 b.index, .bool b.filled, .bool b.cell.is_, .int .i64 b.cell.value]) rfl rfl ?_
  intro b3 w4 H4
  refine wl_valE (v := .bool false) rfl (rf_assign rfl) rfl ?_
  refine wl_nil ?_
  refine thn ?_
  refine seq_ ?_
  refine region_ ?_
  refine wl_valE (v := .pointer (some ⟨b1, 0, none⟩)) rfl (rf_fieldAddr Tryz.underlying71 rfl ti3 rfl rfl) rfl ?_
  refine wl_valE (v := .int .i64 a.batch) rfl (rf_load Tryz.underlying3 rfl rfl rfl ((H4.blk 0 rfl).cell rfl)) rfl ?_
  refine wl_valE (v := .pointer (some ⟨b3, 0, none⟩)) rfl (rf_fieldAddr Tryz.underlying71 rfl ti3 rfl rfl) rfl ?_
  refine wl_valE (v := .int .i64 b.batch) rfl (rf_load Tryz.underlying3 rfl rfl rfl ((H4.blk 1 rfl).cell rfl)) rfl ?_
  refine wl_valE (v := .bool (decide (b.batch < a.batch))) rfl (rf_gtr rfl rfl rfl rfl) rfl ?_
  refine wl_valE (v := .bool (decide (b.batch < a.batch))) rfl (rf_move rfl) rfl ?_
  refine wl_split (decide (b.batch < a.batch)) (fun u1_5 => ?_) (fun u1_5 => ?_)
  · have u1_5p := of_decide_eq_true u1_5
    refine wl_guardF rfl rfl rfl u1_5 ?_
    refine wl_guardF rfl rfl rfl u1_5 ?_
    refine wl_guardF rfl rfl rfl u1_5 ?_
    refine wl_guardF rfl rfl rfl u1_5 ?_
    refine wl_guardF rfl rfl rfl u1_5 ?_
    refine wl_guardF rfl rfl rfl u1_5 ?_
    refine wl_guardS rfl rfl rfl ?_
    refine wl_guardS rfl rfl rfl ?_
    refine wl_guardS rfl rfl rfl ?_
    refine wl_guardS rfl rfl rfl ?_
    refine wl_guardS rfl rfl rfl ?_
    refine wl_guardF rfl rfl rfl u1_5 ?_
    refine wl_valE (v := .bool true) rfl (rf_pickT rfl rfl rfl u1_5) rfl ?_
    refine wl_valE (v := .bool true) rfl (rf_assign rfl) rfl ?_
    refine wl_nil ?_
    refine thn ?_
    refine ret_ ?_
    refine fin1 (v := .bool true) Tryz.results49 rfl rfl ?_
    exact ⟨_, ⟨by unfold laterV; rw [decide_eq_true u1_5p]; rfl, rfl⟩, H4.pick' [] rfl rfl⟩
  · have u1_5p := of_decide_eq_false u1_5
    refine wl_guardT rfl rfl rfl u1_5 ?_
    refine wl_valE (v := .pointer (some ⟨b1, 0, none⟩)) rfl (rf_fieldAddr Tryz.underlying71 rfl ti3 rfl rfl) rfl ?_
    refine wl_guardT rfl rfl rfl u1_5 ?_
    refine wl_valE (v := .int .i64 a.batch) rfl (rf_load Tryz.underlying3 rfl rfl rfl ((H4.blk 0 rfl).cell rfl)) rfl ?_
    refine wl_guardT rfl rfl rfl u1_5 ?_
    refine wl_valE (v := .pointer (some ⟨b3, 0, none⟩)) rfl (rf_fieldAddr Tryz.underlying71 rfl ti3 rfl rfl) rfl ?_
    refine wl_guardT rfl rfl rfl u1_5 ?_
    refine wl_valE (v := .int .i64 b.batch) rfl (rf_load Tryz.underlying3 rfl rfl rfl ((H4.blk 1 rfl).cell rfl)) rfl ?_
    refine wl_guardT rfl rfl rfl u1_5 ?_
    refine wl_valE (v := .bool (decide (a.batch = b.batch))) rfl (rf_eql rfl rfl rfl rfl) rfl ?_
    refine wl_guardT rfl rfl rfl u1_5 ?_
    refine wl_valE (v := .bool (decide (a.batch = b.batch))) rfl (rf_move rfl) rfl ?_
    refine wl_split (decide (a.batch = b.batch)) (fun u1_11 => ?_) (fun u1_11 => ?_)
    · have u1_11p := of_decide_eq_true u1_11
      refine wl_guardT rfl rfl rfl u1_11 ?_
      refine wl_valE (v := .pointer (some ⟨b1, 1, none⟩)) rfl (rf_fieldAddr Tryz.underlying71 rfl ti3 rfl rfl) rfl ?_
      refine wl_guardT rfl rfl rfl u1_11 ?_
      refine wl_valE (v := .int .i64 a.index) rfl (rf_load Tryz.underlying3 rfl rfl rfl ((H4.blk 0 rfl).cell rfl)) rfl ?_
      refine wl_guardT rfl rfl rfl u1_11 ?_
      refine wl_valE (v := .pointer (some ⟨b3, 1, none⟩)) rfl (rf_fieldAddr Tryz.underlying71 rfl ti3 rfl rfl) rfl ?_
      refine wl_guardT rfl rfl rfl u1_11 ?_
      refine wl_valE (v := .int .i64 b.index) rfl (rf_load Tryz.underlying3 rfl rfl rfl ((H4.blk 1 rfl).cell rfl)) rfl ?_
      refine wl_guardT rfl rfl rfl u1_11 ?_
      refine wl_valE (v := .bool (decide (b.index < a.index))) rfl (rf_gtr rfl rfl rfl rfl) rfl ?_
      refine wl_guardT rfl rfl rfl u1_5 ?_
      refine wl_valE (v := .bool (decide (b.index < a.index))) rfl (rf_pickT rfl rfl rfl u1_11) rfl ?_
      refine wl_valE (v := .bool (decide (b.index < a.index))) rfl (rf_pickF rfl rfl rfl u1_5) rfl ?_
      refine wl_valE (v := .bool (decide (b.index < a.index))) rfl (rf_assign rfl) rfl ?_
      refine wl_nil ?_
      refine thn ?_
      refine ret_ ?_
      refine fin1 (v := .bool (decide (b.index < a.index))) Tryz.results49 rfl rfl ?_
      exact ⟨_, ⟨by unfold laterV; rw [decide_eq_false u1_5p, decide_eq_true u1_11p]; rfl, rfl⟩, H4.pick' [] rfl rfl⟩
    · have u1_11p := of_decide_eq_false u1_11
      refine wl_guardF rfl rfl rfl u1_11 ?_
      refine wl_guardF rfl rfl rfl u1_11 ?_
      refine wl_guardF rfl rfl rfl u1_11 ?_
      refine wl_guardF rfl rfl rfl u1_11 ?_
      refine wl_guardF rfl rfl rfl u1_11 ?_
      refine wl_guardT rfl rfl rfl u1_5 ?_
      refine wl_valE (v := .bool false) rfl (rf_pickF rfl rfl rfl u1_11) rfl ?_
      refine wl_valE (v := .bool false) rfl (rf_pickF rfl rfl rfl u1_5) rfl ?_
      refine wl_valE (v := .bool false) rfl (rf_assign rfl) rfl ?_
      refine wl_nil ?_
      refine thn ?_
      refine ret_ ?_
      refine fin1 (v := .bool false) Tryz.results49 rfl rfl ?_
      exact ⟨_, ⟨by unfold laterV; rw [decide_eq_false u1_5p, decide_eq_false u1_11p]; rfl, rfl⟩, H4.pick' [] rfl rfl⟩

theorem laterT_tr {a b : Ver} (h : laterV a b = true) : Tr Tryz.prog 49 [.agg #[.int .i64 a.batch, .int .i64 a.index, .bool a.filled, .bool a.cell.is_, .int .i64 a.cell.value], .agg #[.int .i64 b.batch, .int .i64 b.index, .bool b.filled, .bool b.cell.is_, .int .i64 b.cell.value]] [] [] fun v m => v = .bool true ∧ m = [] := by
  have := later_tr a b
  rw [h] at this; exact this
theorem top_tr  : Tr Tryz.prog 48 [] [] [] (fun v m => v = .agg #[.int .i64 9223372036854775807, .int .i64 9223372036854775807, .bool false, .bool false, .int .i64 0] ∧ m = []) := by
  intro w0 S0 H0
  refine enterR Tryz.func48 rfl Tryz.ntmps48 rfl ?_
  intro g0
  refine seq_ ?_
  refine region_ ?_
  refine wl_allocH H0 ti71 ?_
  intro b1 w2 H2
  refine wl_nil ?_
  refine thn ?_
  refine seq_ ?_
  refine region_ ?_
  refine wl_valE (v := .agg #[.int .i64 (9223372036854775807 : Int), .int .i64 (9223372036854775807 : Int), .bool false, .bool false, .int .i64 (0 : Int)]) rfl (rf_build (offs := [(0, [.int .i64 (9223372036854775807 : Int)]), (1, [.int .i64 (9223372036854775807 : Int)])]) (places := #[(0, 1), (1, 1), (2, 1), (3, 2)]) Tryz.underlying71 ti71 (fun w => by kernel_rfl) (.cons rfl rfl rfl rfl rfl rfl (.cons rfl rfl rfl rfl rfl rfl .nil))) rfl ?_
  refine wl_storeAggH H2 0 (o := 0) (cs := [.int .i64 (9223372036854775807 : Int), .int .i64 (9223372036854775807 : Int), .bool false, .bool false, .int .i64 (0 : Int)]) (A' := #[.int .i64 (9223372036854775807 : Int), .int .i64 (9223372036854775807 : Int), .bool false, .bool false, .int .i64 (0 : Int)]) rfl rfl ti71 rfl rfl rfl rfl rfl oneAll (leb rfl) rfl ?_
  intro w3 H3
  refine wl_nil ?_
  refine thn ?_
  refine ret_ ?_
  refine finV1 Tryz.results48 (RV.blk rfl Tryz.underlying71 rfl ti71 rfl (H3.blk 0 rfl) (leb rfl)) ?_
  exact ⟨_, ⟨rfl, rfl⟩, H3.pick' [] rfl rfl⟩
theorem number_tr (rb : Nat) (x : RS) (b : Int) {p : EntR → Bool} {i : Nat} (hb : IsLast p x.all i b) : Tr Tryz.prog 57 [.pointer (some ⟨rb, 0, none⟩), .int .i64 b] [rfH rb x] [] (fun v m => v = .int .i64 (numE x.all b) ∧ m = []) := by
  intro w0 S0 H0
  obtain ⟨⟨ya, yc⟩, -, H1⟩ := rfH.openR H0 0 rfl
  try dsimp only [List.cons_append, List.nil_append] at H1
  refine enterR Tryz.func57 rfl Tryz.ntmps57 rfl ?_
  intro g0
  refine seq_ ?_
  refine region_ ?_
  refine wl_valE (v := .int .i64 (0 : Int)) rfl (rf_assign rfl) rfl ?_
  refine wl_nil ?_
  refine thn ?_
  refine seq_ ?_
  refine seq_ ?_
  refine region_ ?_
  refine wl_valE (v := .int .i64 b) rfl (rf_move rfl) rfl ?_
  refine wl_valE (v := .bool (decide (b < (0 : Int)))) rfl (rf_lss rfl rfl rfl rfl) rfl ?_
  refine wl_nil ?_
  refine thn ?_
  refine cond_ (t := decide (b < (0 : Int))) rfl rfl (fun c6 => ?_) (fun c6 => ?_)
  · have c6p := of_decide_eq_true c6
    refine seq_ ?_
    refine region_ ?_
    refine wl_valE (v := .int .i64 (0 : Int)) rfl (rf_assign rfl) rfl ?_
    refine wl_nil ?_
    refine thn ?_
    refine ret_ ?_
    refine thr ?_
    refine fin1 (v := .int .i64 (0 : Int)) Tryz.results57 rfl rfl ?_
    exact ⟨_, ⟨by unfold numE; rw [if_pos c6p], rfl⟩, (H1.weakR 1 rfl).pick' [] rfl rfl⟩
  · have c6p := of_decide_eq_false c6
    obtain ⟨q, y, rfl, _, hy, _, _⟩ := hb.some c6p
    have hql := (List.getElem?_eq_some_iff.1 hy).1
    refine skip_ ?_
    refine thn ?_
    refine seq_ ?_
    refine region_ ?_
    refine wl_valE (v := .pointer (some ⟨rb, 0, none⟩)) rfl (rf_move rfl) rfl ?_
    refine wl_valE (v := .pointer (some ⟨rb, 0, none⟩)) rfl (rf_nilCheckP rfl rfl) rfl ?_
    refine wl_valE (v := .pointer (some ⟨rb, 2, none⟩)) rfl (rf_fieldAddr Tryz.underlying50 rfl ti48 rfl rfl) rfl ?_
    refine wl_valE (v := .slice ya x.all.length yc) rfl (rf_load Tryz.underlying48 rfl rfl rfl ((H1.blkR 1 rfl).cell rfl)) rfl ?_
    refine wl_valE (v := .int .i64 ((q : Nat) : Int)) rfl (rf_move rfl) rfl ?_
    refine wl_valE (v := .pointer (some ⟨ab ya, ao ya + q * 8, none⟩)) rfl (rf_indexAddrH Tryz.underlying48 ti110 rfl rfl rfl rfl (by omega) (by omega) (H1.rdR 2 slH_rd)) rfl ?_
    refine wl_valE (v := .pointer (some ⟨ab ya, ao ya + q * 8, none⟩)) rfl (rf_fieldAddr Tryz.underlying110 rfl ti3 rfl rfl) rfl ?_
    refine wl_valE (v := .int .i64 y.v) rfl (rf_load Tryz.underlying3 rfl rfl rfl (rd_el (H1.rdR 2 slH_rd) hy 0 _ rfl)) rfl ?_
    refine wl_valE (v := .int .i64 y.v) rfl (rf_assign rfl) rfl ?_
    refine wl_nil ?_
    refine thn ?_
    refine ret_ ?_
    refine fin1 (v := .int .i64 y.v) Tryz.results57 rfl rfl ?_
    exact ⟨_, ⟨by unfold numE; rw [if_neg c6p, Int.toNat_natCast, hy]; rfl, rfl⟩, (H1.weakR 1 rfl).pick' [] rfl rfl⟩
theorem at_tr (rb : Nat) (x : RS) (v : Int) (hn : (x.all.map (·.v)).Nodup) (hl : x.all.length ≤ 65536) : Tr Tryz.prog 50 [.pointer (some ⟨rb, 0, none⟩), .int .i64 v] [rfH rb x] [] (fun vv m => ∃ b, IsLast (numP v) x.all x.all.length b ∧ vv = .int .i64 b ∧ m = []) := by
  intro w0 S0 H0
  obtain ⟨⟨ya, yc⟩, -, H1⟩ := rfH.openR H0 0 rfl
  try dsimp only [List.cons_append, List.nil_append] at H1
  refine enterR Tryz.func50 rfl Tryz.ntmps50 rfl ?_
  intro g0
  refine seq_ ?_
  refine region_ ?_
  refine wl_valE (v := .int .i64 (0 : Int)) rfl (rf_assign rfl) rfl ?_
  refine wl_nil ?_
  refine thn ?_
  refine seq_ ?_
  refine seq_ ?_
  refine region_ ?_
  refine wl_valE (v := .int .i64 (0 : Int)) rfl (rf_assign rfl) rfl ?_
  refine wl_nil ?_
  refine thn ?_
  refine block_ ?_
  refine loop_ (fun qk_ qf_ qw_ => ∃ (g : Nat → Value) (i : Nat), qf_ = upds g [(0, .pointer (some ⟨rb, 0, none⟩)), (1, .int .i64 v), (5, .int .i64 ((i : Nat) : Int))] ∧ qk_ = x.all.length - i ∧ (i ≤ x.all.length) ∧ (∀ j y, j < i → x.all[j]? = some y → numP v y = false) ∧ St w0 S0 [rfH rb x, blkH rb #[.int .i64 x.parts, .int .i64 x.cap, .slice ya x.all.length yc, .int .i64 x.last] 50, slH encEnt 8 110 ya x.all.length yc x.all] qw_ []) (x.all.length - 0) ?_ ?_
  · refine ⟨_, 0, upds_self ⟨rfl, rfl, rfl, trivial⟩, rfl, Nat.zero_le _, fun j y h => by omega, H1.pick' [] rfl rfl⟩
  · rintro lk0 _ wl0 ⟨gl0, i, rfl, hlk0, hi, hno, HL0⟩
    refine seq_ ?_
    refine seq_ ?_
    refine region_ ?_
    refine wl_valE (v := .int .i64 ((i : Nat) : Int)) rfl (rf_move rfl) rfl ?_
    refine wl_valE (v := .pointer (some ⟨rb, 0, none⟩)) rfl (rf_move rfl) rfl ?_
    refine wl_valE (v := .pointer (some ⟨rb, 0, none⟩)) rfl (rf_nilCheckP rfl rfl) rfl ?_
    refine wl_valE (v := .pointer (some ⟨rb, 2, none⟩)) rfl (rf_fieldAddr Tryz.underlying50 rfl ti48 rfl rfl) rfl ?_
    refine wl_valE (v := .slice ya x.all.length yc) rfl (rf_load Tryz.underlying48 rfl rfl rfl ((HL0.blkR 1 rfl).cell rfl)) rfl ?_
    refine wl_valE (v := .int .i64 ((x.all.length : Nat) : Int)) rfl (rf_len_slice Tryz.underlying48 rfl rfl) rfl ?_
    refine wl_valE (v := .bool (decide (((i : Nat) : Int) < ((x.all.length : Nat) : Int)))) rfl (rf_lss rfl rfl rfl rfl) rfl ?_
    refine wl_nil ?_
    refine thn ?_
    refine cond_ (t := decide (((i : Nat) : Int) < ((x.all.length : Nat) : Int))) rfl rfl (fun c12 => ?_) (fun c12 => ?_)
    · have c12p := of_decide_eq_true c12
      refine skip_ ?_
      refine thn ?_
      refine seq_ ?_
      refine block_ ?_
      refine seq_ ?_
      have hn2 := rd_len (HL0.rdR 2 slH_rd)
      obtain ⟨y, hy⟩ : ∃ q_, x.all[i]? = some q_ := ⟨_, List.getElem?_eq_getElem (by omega)⟩
      refine region_ ?_
      refine wl_valE (v := .pointer (some ⟨rb, 0, none⟩)) rfl (rf_move rfl) rfl ?_
      refine wl_valE (v := .pointer (some ⟨rb, 0, none⟩)) rfl (rf_nilCheckP rfl rfl) rfl ?_
      refine wl_valE (v := .pointer (some ⟨rb, 2, none⟩)) rfl (rf_fieldAddr Tryz.underlying50 rfl ti48 rfl rfl) rfl ?_
      refine wl_valE (v := .slice ya x.all.length yc) rfl (rf_load Tryz.underlying48 rfl rfl rfl ((HL0.blkR 1 rfl).cell rfl)) rfl ?_
      refine wl_valE (v := .int .i64 ((i : Nat) : Int)) rfl (rf_move rfl) rfl ?_
      refine wl_valE (v := .pointer (some ⟨ab ya, ao ya + i * 8, none⟩)) rfl (rf_indexAddrH Tryz.underlying48 ti110 rfl rfl rfl rfl (by omega) (by omega) (HL0.rdR 2 slH_rd)) rfl ?_
      refine wl_valE (v := .pointer (some ⟨ab ya, ao ya + i * 8, none⟩)) rfl (rf_fieldAddr Tryz.underlying110 rfl ti3 rfl rfl) rfl ?_
      refine wl_valE (v := .int .i64 y.v) rfl (rf_load Tryz.underlying3 rfl rfl rfl (rd_el (HL0.rdR 2 slH_rd) hy 0 _ rfl)) rfl ?_
      refine wl_valE (v := .int .i64 v) rfl (rf_move rfl) rfl ?_
      refine wl_valE (v := .bool (decide (y.v = v))) rfl (rf_eql rfl rfl rfl rfl) rfl ?_
      refine wl_nil ?_
      refine thn ?_
      refine cond_ (t := decide (y.v = v)) rfl rfl (fun c24 => ?_) (fun c24 => ?_)
      · have c24p := of_decide_eq_true c24
        refine seq_ ?_
        refine region_ ?_
        refine wl_valE (v := .int .i64 ((i : Nat) : Int)) rfl (rf_move rfl) rfl ?_
        refine wl_valE (v := .int .i64 ((i : Nat) : Int)) rfl (rf_assign rfl) rfl ?_
        refine wl_nil ?_
        refine thn ?_
        refine ret_ ?_
        refine blr (thr (thr (blr (thr ?_))))
        refine fin1 (v := .int .i64 ((i : Nat) : Int)) Tryz.results50 rfl rfl ?_
        exact ⟨_, ⟨_, .inr ⟨i, y, rfl, (List.getElem?_eq_some_iff.1 hy).1, hy, decide_eq_true c24p, fun j z h1 h2 h3 => decide_eq_false (fun e => by
          have := nodup_inj hn (i := j) (j := i) (x := v) (by rw [List.getElem?_map, h3]; exact congrArg some e) (by rw [List.getElem?_map, hy]; exact congrArg some c24p)
          omega)⟩, rfl, rfl⟩, (HL0.weakR 1 rfl).pick' [] rfl rfl⟩
      · have c24p := of_decide_eq_false c24
        refine skip_ ?_
        refine bln ?_
        refine thn ?_
        refine region_ ?_
        refine wl_valE (v := .int .i64 ((i : Nat) : Int)) rfl (rf_move rfl) rfl ?_
        refine wl_valE (v := .int .i64 ((i + 1 : Nat) : Int)) rfl (rf_add rfl rfl rfl rfl (IntWalk.i64_in _ (by omega))) rfl ?_
        refine wl_valE (v := .int .i64 ((i + 1 : Nat) : Int)) rfl (rf_assign rfl) rfl ?_
        refine wl_nil ?_
        refine thn ?_
        refine ⟨x.all.length - (i + 1), _, rfl, (by omega), _, i + 1, upds_self ⟨rfl, rfl, rfl, trivial⟩, rfl, by omega, fun j z h1 h2 => by
          rcases Nat.lt_or_eq_of_le (Nat.le_of_lt_succ h1) with h3 | h3
          · exact hno j z h3 h2
          · subst h3; rw [hy] at h2; cases h2; exact decide_eq_false c24p, HL0.pick' [] rfl rfl⟩
    · have c12p := of_decide_eq_false c12
      refine exit_ ?_
      refine thx (thx (blx ?_))
      refine thn ?_
      refine seq_ ?_
      refine region_ ?_
      refine wl_valE (v := .int .i64 (-1 : Int)) rfl (rf_assign rfl) rfl ?_
      refine wl_nil ?_
      refine thn ?_
      refine ret_ ?_
      refine fin1 (v := .int .i64 (-1 : Int)) Tryz.results50 rfl rfl ?_
      exact ⟨_, ⟨_, .inl ⟨rfl, fun j y h1 h2 => hno j y (by omega) h2⟩, rfl, rfl⟩, (HL0.weakR 1 rfl).pick' [] rfl rfl⟩
set_option maxRecDepth 100000 in
theorem below_tr (rb : Nat) (x : RS) (k : Key) (lim : Ver) (hs : ∀ {i j : Nat} {a b : EntR}, i < j → x.all[i]? = some a → x.all[j]? = some b → a.key = b.key → ltE a b) (hl : x.all.length ≤ 65536) : Tr Tryz.prog 47 [.pointer (some ⟨rb, 0, none⟩), .agg #[.int .i64 k.table, .int .i64 k.row], .agg #[.int .i64 lim.batch, .int .i64 lim.index, .bool lim.filled, .bool lim.cell.is_, .int .i64 lim.cell.value]] [rfH rb x] [] (fun v m => v = .int .i64 (topI (blwE k lim) x.all) ∧ m = []) := by
  intro w0 S0 H0
  obtain ⟨⟨ya, yc⟩, -, H1⟩ := rfH.openR H0 0 rfl
  try dsimp only [List.cons_append, List.nil_append] at H1
  refine enterR Tryz.func47 rfl Tryz.ntmps47 rfl ?_
  intro g0
  refine seq_ ?_
  refine region_ ?_
  refine wl_boxH H1 (v := .agg #[.int .i64 k.table, .int .i64 k.row]) rfl rfl ?_
  intro b2 w3 H3
  refine wl_boxH H3 (v := .agg #[.int .i64 lim.batch, .int .i64 lim.index, .bool lim.filled, .bool lim.cell.is_, .int .i64 lim.cell.value]) rfl rfl ?_
  intro b4 w5 H5
  try dsimp only [putsH, setH, List.cons_append, List.nil_append] at H5
  refine wl_valE (v := .int .i64 (0 : Int)) rfl (rf_assign rfl) rfl ?_
  refine wl_nil ?_
  refine thn ?_
  refine seq_ ?_
  refine region_ ?_
  refine wl_valE (v := .int .i64 (-1 : Int)) rfl (rf_assign rfl) rfl ?_
  refine wl_nil ?_
  refine thn ?_
  refine seq_ ?_
  refine seq_ ?_
  refine region_ ?_
  refine wl_valE (v := .int .i64 (0 : Int)) rfl (rf_assign rfl) rfl ?_
  refine wl_nil ?_
  refine thn ?_
  refine block_ ?_
  refine loop_ (fun qk_ qf_ qw_ => ∃ (g : Nat → Value) (i : Nat) (b : Int), qf_ = upds g [(0, .pointer (some ⟨rb, 0, none⟩)), (4, .pointer (some ⟨b2, 0, none⟩)), (5, .pointer (some ⟨b4, 0, none⟩)), (7, .int .i64 b), (8, .int .i64 ((i : Nat) : Int))] ∧ qk_ = x.all.length - i ∧ (i ≤ x.all.length) ∧ (IsLast (blwE k lim) x.all i b) ∧ St w0 S0 [rfH rb x, blkH rb #[.int .i64 x.parts, .int .i64 x.cap, .slice ya x.all.length yc, .int .i64 x.last] 50, slH encEnt 8 110 ya x.all.length yc x.all] qw_ [blkH b2 #[.int .i64 k.table, .int .i64 k.row] 41, blkH b4 #[.int .i64 lim.batch, .int .i64 lim.index, .bool lim.filled, .bool lim.cell.is_, .int .i64 lim.cell.value] 71]) (x.all.length - 0) ?_ ?_
  · refine ⟨_, 0, -1, upds_self ⟨rfl, rfl, rfl, rfl, rfl, trivial⟩, rfl, Nat.zero_le _, .zero _ _, H5.pick' [0, 1] rfl rfl⟩
  · rintro lk0 _ wl0 ⟨gl0, i, b, rfl, hlk0, hi, hb, HL0⟩
    refine seq_ ?_
    refine seq_ ?_
    refine region_ ?_
    refine wl_valE (v := .int .i64 ((i : Nat) : Int)) rfl (rf_move rfl) rfl ?_
    refine wl_valE (v := .pointer (some ⟨rb, 0, none⟩)) rfl (rf_move rfl) rfl ?_
    refine wl_valE (v := .pointer (some ⟨rb, 0, none⟩)) rfl (rf_nilCheckP rfl rfl) rfl ?_
    refine wl_valE (v := .pointer (some ⟨rb, 2, none⟩)) rfl (rf_fieldAddr Tryz.underlying50 rfl ti48 rfl rfl) rfl ?_
    refine wl_valE (v := .slice ya x.all.length yc) rfl (rf_load Tryz.underlying48 rfl rfl rfl ((HL0.blkR 1 rfl).cell rfl)) rfl ?_
    refine wl_valE (v := .int .i64 ((x.all.length : Nat) : Int)) rfl (rf_len_slice Tryz.underlying48 rfl rfl) rfl ?_
    refine wl_valE (v := .bool (decide (((i : Nat) : Int) < ((x.all.length : Nat) : Int)))) rfl (rf_lss rfl rfl rfl rfl) rfl ?_
    refine wl_nil ?_
    refine thn ?_
    refine cond_ (t := decide (((i : Nat) : Int) < ((x.all.length : Nat) : Int))) rfl rfl (fun c16 => ?_) (fun c16 => ?_)
    · have c16p := of_decide_eq_true c16
      refine skip_ ?_
      refine thn ?_
      refine seq_ ?_
      refine block_ ?_
      refine seq_ ?_
      have hn6 := rd_len (HL0.rdR 2 slH_rd)
      obtain ⟨e, he⟩ : ∃ q_, x.all[i]? = some q_ := ⟨_, List.getElem?_eq_getElem (by omega)⟩
      refine region_ ?_
      refine wl_valE (v := .pointer (some ⟨rb, 0, none⟩)) rfl (rf_move rfl) rfl ?_
      refine wl_valE (v := .pointer (some ⟨rb, 0, none⟩)) rfl (rf_nilCheckP rfl rfl) rfl ?_
      refine wl_valE (v := .pointer (some ⟨rb, 2, none⟩)) rfl (rf_fieldAddr Tryz.underlying50 rfl ti48 rfl rfl) rfl ?_
      refine wl_valE (v := .slice ya x.all.length yc) rfl (rf_load Tryz.underlying48 rfl rfl rfl ((HL0.blkR 1 rfl).cell rfl)) rfl ?_
      refine wl_valE (v := .int .i64 ((i : Nat) : Int)) rfl (rf_move rfl) rfl ?_
      refine wl_valE (v := .pointer (some ⟨ab ya, ao ya + i * 8, none⟩)) rfl (rf_indexAddrH Tryz.underlying48 ti110 rfl rfl rfl rfl (by omega) (by omega) (HL0.rdR 2 slH_rd)) rfl ?_
      refine wl_valE (v := .agg #[.int .i64 e.v, .int .i64 e.key.table, .int .i64 e.key.row, .int .i64 e.batch, .int .i64 e.index, .bool e.fill, .bool e.cell.is_, .int .i64 e.cell.value]) rfl (rf_loadAgg (cs := [.int .i64 e.v, .int .i64 e.key.table, .int .i64 e.key.row, .int .i64 e.batch, .int .i64 e.index, .bool e.fill, .bool e.cell.is_, .int .i64 e.cell.value]) Tryz.underlying110 rfl ti110 rfl rfl (el_sub' (rd_el (HL0.rdR 2 slH_rd) he) 0 8 rfl) rfl) rfl ?_
      refine wl_allocH HL0 ti110 ?_
      intro be w8 H8
      refine wl_storeAggH H8 2 (o := 0) (cs := [.int .i64 e.v, .int .i64 e.key.table, .int .i64 e.key.row, .int .i64 e.batch, .int .i64 e.index, .bool e.fill, .bool e.cell.is_, .int .i64 e.cell.value]) (A' := #[.int .i64 e.v, .int .i64 e.key.table, .int .i64 e.key.row, .int .i64 e.batch, .int .i64 e.index, .bool e.fill, .bool e.cell.is_, .int .i64 e.cell.value]) rfl rfl ti110 rfl rfl rfl rfl rfl oneAll (leb rfl) rfl ?_
      intro w9 H9
      refine wl_nil ?_
      refine thn ?_
      refine seq_ ?_
      refine region_q mixedP (by kernel_rfl) ?_
      refine qt_valE (v := .pointer (some ⟨be, 1, none⟩)) rfl (fun wq hq => rf_fieldAddr Tryz.underlying110 rfl ti41 rfl rfl) rfl ?_
      refine qt_valE (v := .agg #[.int .i64 e.key.table, .int .i64 e.key.row]) rfl (fun wq hq => rf_loadBlk Tryz.underlying41 rfl ti41 rfl rfl ((H9.keep hq).blk 2 rfl) (leb rfl)) rfl ?_
      refine qt_valE (v := .agg #[.int .i64 k.table, .int .i64 k.row]) rfl (fun wq hq => rf_loadBlk Tryz.underlying41 rfl ti41 rfl rfl ((H9.keep hq).blk 0 rfl) (leb rfl)) rfl ?_
      refine qt_valE (v := .bool (decide (e.key = k))) rfl (fun wq hq => rf_eqlS (by kernel_rfl) (eqKey e.key k _) rfl rfl rfl rfl) rfl ?_
      refine qt_valE (v := .bool (decide (e.key = k))) rfl (fun wq hq => rf_move rfl) rfl ?_
      refine qt_split (decide (e.key = k)) (fun u6_4 => ?_) (fun u6_4 => ?_)
      · have u6_4p := of_decide_eq_true u6_4
        refine qt_guardT rfl rfl rfl u6_4 ?_
        refine qt_valE (v := .agg #[.int .i64 lim.batch, .int .i64 lim.index, .bool lim.filled, .bool lim.cell.is_, .int .i64 lim.cell.value]) rfl (fun wq hq => rf_loadBlk Tryz.underlying71 rfl ti71 rfl rfl ((H9.keep hq).blk 1 rfl) (leb rfl)) rfl ?_
        refine qt_guardT rfl rfl rfl u6_4 ?_
        refine qt_valE (v := .pointer (some ⟨be, 3, none⟩)) rfl (fun wq hq => rf_fieldAddr Tryz.underlying110 rfl ti71 rfl rfl) rfl ?_
        refine qt_guardT rfl rfl rfl u6_4 ?_
        refine qt_valE (v := .agg #[.int .i64 e.batch, .int .i64 e.index, .bool e.fill, .bool e.cell.is_, .int .i64 e.cell.value]) rfl (fun wq hq => rf_loadBlk Tryz.underlying71 rfl ti71 rfl rfl ((H9.keep hq).blk 2 rfl) (leb rfl)) rfl ?_
        refine qt_guardT rfl rfl rfl u6_4 ?_
        refine qt_ret (v := .bool (laterV lim (⟨e.batch, e.index, e.fill, ⟨e.cell.is_, e.cell.value⟩⟩ : Ver))) rfl (fun wq hq => ((later_tr lim (⟨e.batch, e.index, e.fill, ⟨e.cell.is_, e.cell.value⟩⟩ : Ver)).quiet (H9.keep hq) .nil (by rintro _ _ ⟨rfl, rfl⟩; exact rfl)).mono (fun _ _ h => ⟨h.1, hq.trans h.2⟩)) (fun wq hq => rf_call Tryz.call49 rfl rfl) ?_
        refine qt_valE (v := .bool (laterV lim (⟨e.batch, e.index, e.fill, ⟨e.cell.is_, e.cell.value⟩⟩ : Ver))) rfl (fun wq hq => rf_pickT rfl rfl rfl u6_4) rfl ?_
        refine qt_valE (v := .bool (laterV lim (⟨e.batch, e.index, e.fill, ⟨e.cell.is_, e.cell.value⟩⟩ : Ver))) rfl (fun wq hq => rf_move rfl) rfl ?_
        refine qt_split (laterV lim (⟨e.batch, e.index, e.fill, ⟨e.cell.is_, e.cell.value⟩⟩ : Ver)) (fun u6_10 => ?_) (fun u6_10 => ?_)
        · refine qt_guardT rfl rfl rfl u6_10 ?_
          refine qt_valE (v := .int .i64 b) rfl (fun wq hq => rf_move rfl) rfl ?_
          refine qt_guardT rfl rfl rfl u6_10 ?_
          refine qt_valE (v := .bool (decide (b < (0 : Int)))) rfl (fun wq hq => rf_lss rfl rfl rfl rfl) rfl ?_
          refine qt_guardT rfl rfl rfl u6_10 ?_
          refine qt_valE (v := .bool (decide (b < (0 : Int)))) rfl (fun wq hq => rf_move rfl) rfl ?_
          refine qt_split (decide (b < (0 : Int))) (fun u6_13 => ?_) (fun u6_13 => ?_)
          · have u6_13p := of_decide_eq_true u6_13
            refine qt_guardF rfl rfl rfl u6_13 ?_
            refine qt_guardF rfl rfl rfl u6_13 ?_
            refine qt_guardF rfl rfl rfl u6_13 ?_
            refine qt_guardF rfl rfl rfl u6_13 ?_
            refine qt_guardF rfl rfl rfl u6_13 ?_
            refine qt_guardF rfl rfl rfl u6_13 ?_
            refine qt_guardF rfl rfl rfl u6_13 ?_
            refine qt_guardF rfl rfl rfl u6_13 ?_
            refine qt_guardF rfl rfl rfl u6_13 ?_
            refine qt_guardF rfl rfl rfl u6_13 ?_
            refine qt_guardF rfl rfl rfl u6_13 ?_
            refine qt_guardT rfl rfl rfl u6_10 ?_
            refine qt_valE (v := .bool true) rfl (fun wq hq => rf_pickT rfl rfl rfl u6_13) rfl ?_
            refine qt_valE (v := .bool true) rfl (fun wq hq => rf_pickT rfl rfl rfl u6_10) rfl ?_
            refine qt_nil ?_
            intro w10 hk10
            have H10 := H9.keep hk10
            refine thn ?_
            refine condT rfl rfl ?_
            refine region_ ?_
            refine wl_valE (v := .int .i64 ((i : Nat) : Int)) rfl (rf_move rfl) rfl ?_
            refine wl_valE (v := .int .i64 ((i : Nat) : Int)) rfl (rf_assign rfl) rfl ?_
            refine wl_nil ?_
            refine bln ?_
            refine thn ?_
            refine region_ ?_
            refine wl_valE (v := .int .i64 ((i : Nat) : Int)) rfl (rf_move rfl) rfl ?_
            refine wl_valE (v := .int .i64 ((i + 1 : Nat) : Int)) rfl (rf_add rfl rfl rfl rfl (IntWalk.i64_in _ (by omega))) rfl ?_
            refine wl_valE (v := .int .i64 ((i + 1 : Nat) : Int)) rfl (rf_assign rfl) rfl ?_
            refine wl_nil ?_
            refine thn ?_
            refine ⟨x.all.length - (i + 1), _, rfl, (by omega), _, i + 1, ((i : Nat) : Int), upds_self ⟨rfl, rfl, rfl, rfl, rfl, trivial⟩, rfl, by omega, .hit he (by unfold blwE; rw [decide_eq_true u6_4p]; exact u6_10), H10.pick' [0, 1] rfl rfl⟩
          · have u6_13p := of_decide_eq_false u6_13
            obtain ⟨q, y, rfl, hq1, hy, hpy, _⟩ := hb.some u6_13p
            have hql := (List.getElem?_eq_some_iff.1 hy).1
            have hky : y.key = e.key := by unfold blwE at hpy; rw [Bool.and_eq_true] at hpy; rw [u6_4p]; exact of_decide_eq_true hpy.1
            refine qt_guardT rfl rfl rfl u6_13 ?_
            refine qt_valE (v := .pointer (some ⟨be, 3, none⟩)) rfl (fun wq hq => rf_fieldAddr Tryz.underlying110 rfl ti71 rfl rfl) rfl ?_
            refine qt_guardT rfl rfl rfl u6_13 ?_
            refine qt_valE (v := .agg #[.int .i64 e.batch, .int .i64 e.index, .bool e.fill, .bool e.cell.is_, .int .i64 e.cell.value]) rfl (fun wq hq => rf_loadBlk Tryz.underlying71 rfl ti71 rfl rfl ((H9.keep hq).blk 2 rfl) (leb rfl)) rfl ?_
            refine qt_guardT rfl rfl rfl u6_13 ?_
            refine qt_valE (v := .pointer (some ⟨rb, 0, none⟩)) rfl (fun wq hq => rf_move rfl) rfl ?_
            refine qt_guardT rfl rfl rfl u6_13 ?_
            refine qt_valE (v := .pointer (some ⟨rb, 0, none⟩)) rfl (fun wq hq => rf_nilCheckP rfl rfl) rfl ?_
            refine qt_guardT rfl rfl rfl u6_13 ?_
            refine qt_valE (v := .pointer (some ⟨rb, 2, none⟩)) rfl (fun wq hq => rf_fieldAddr Tryz.underlying50 rfl ti48 rfl rfl) rfl ?_
            refine qt_guardT rfl rfl rfl u6_13 ?_
            refine qt_valE (v := .slice ya x.all.length yc) rfl (fun wq hq => rf_load Tryz.underlying48 rfl rfl rfl (((H9.keep hq).blkR 1 rfl).cell rfl)) rfl ?_
            refine qt_guardT rfl rfl rfl u6_13 ?_
            refine qt_valE (v := .int .i64 ((q : Nat) : Int)) rfl (fun wq hq => rf_move rfl) rfl ?_
            refine qt_guardT rfl rfl rfl u6_13 ?_
            refine qt_valE (v := .pointer (some ⟨ab ya, ao ya + q * 8, none⟩)) rfl (fun wq hq => rf_indexAddrH Tryz.underlying48 ti110 rfl rfl rfl rfl (by omega) (by omega) ((H9.keep hq).rdR 2 slH_rd)) rfl ?_
            refine qt_guardT rfl rfl rfl u6_13 ?_
            refine qt_valE (v := .pointer (some ⟨ab ya, ao ya + q * 8 + 3, none⟩)) rfl (fun wq hq => rf_fieldAddr Tryz.underlying110 rfl ti71 rfl rfl) rfl ?_
            refine qt_guardT rfl rfl rfl u6_13 ?_
            refine qt_valE (v := .agg #[.int .i64 y.batch, .int .i64 y.index, .bool y.fill, .bool y.cell.is_, .int .i64 y.cell.value]) rfl (fun wq hq => rf_loadAgg (cs := [.int .i64 y.batch, .int .i64 y.index, .bool y.fill, .bool y.cell.is_, .int .i64 y.cell.value]) Tryz.underlying71 rfl ti71 rfl rfl (el_sub' (rd_el ((H9.keep hq).rdR 2 slH_rd) hy) 3 5 rfl) rfl) rfl ?_
            refine qt_guardT rfl rfl rfl u6_13 ?_
            refine qt_ret (v := .bool true) rfl (fun wq hq => ((laterT_tr (a := verE e) (b := verE y) (later_lt.2 (hs hq1 hy he hky))).quiet (H9.keep hq) .nil (by rintro _ _ ⟨rfl, rfl⟩; exact rfl)).mono (fun _ _ h => ⟨h.1, hq.trans h.2⟩)) (fun wq hq => rf_call Tryz.call49 rfl rfl) ?_
            refine qt_guardT rfl rfl rfl u6_10 ?_
            refine qt_valE (v := .bool true) rfl (fun wq hq => rf_pickF rfl rfl rfl u6_13) rfl ?_
            refine qt_valE (v := .bool true) rfl (fun wq hq => rf_pickT rfl rfl rfl u6_10) rfl ?_
            refine qt_nil ?_
            intro w11 hk11
            have H11 := H9.keep hk11
            refine thn ?_
            refine condT rfl rfl ?_
            refine region_ ?_
            refine wl_valE (v := .int .i64 ((i : Nat) : Int)) rfl (rf_move rfl) rfl ?_
            refine wl_valE (v := .int .i64 ((i : Nat) : Int)) rfl (rf_assign rfl) rfl ?_
            refine wl_nil ?_
            refine bln ?_
            refine thn ?_
            refine region_ ?_
            refine wl_valE (v := .int .i64 ((i : Nat) : Int)) rfl (rf_move rfl) rfl ?_
            refine wl_valE (v := .int .i64 ((i + 1 : Nat) : Int)) rfl (rf_add rfl rfl rfl rfl (IntWalk.i64_in _ (by omega))) rfl ?_
            refine wl_valE (v := .int .i64 ((i + 1 : Nat) : Int)) rfl (rf_assign rfl) rfl ?_
            refine wl_nil ?_
            refine thn ?_
            refine ⟨x.all.length - (i + 1), _, rfl, (by omega), _, i + 1, ((i : Nat) : Int), upds_self ⟨rfl, rfl, rfl, rfl, rfl, trivial⟩, rfl, by omega, .hit he (by unfold blwE; rw [decide_eq_true u6_4p]; exact u6_10), H11.pick' [0, 1] rfl rfl⟩
        · refine qt_guardF rfl rfl rfl u6_10 ?_
          refine qt_guardF rfl rfl rfl u6_10 ?_
          refine qt_guardF rfl rfl rfl u6_10 ?_
          refine qt_guardS rfl rfl rfl ?_
          refine qt_guardS rfl rfl rfl ?_
          refine qt_guardS rfl rfl rfl ?_
          refine qt_guardS rfl rfl rfl ?_
          refine qt_guardS rfl rfl rfl ?_
          refine qt_guardS rfl rfl rfl ?_
          refine qt_guardS rfl rfl rfl ?_
          refine qt_guardS rfl rfl rfl ?_
          refine qt_guardS rfl rfl rfl ?_
          refine qt_guardS rfl rfl rfl ?_
          refine qt_guardS rfl rfl rfl ?_
          refine qt_guardF rfl rfl rfl u6_10 ?_
          refine qt_valE (v := .bool false) rfl (fun wq hq => rf_pickF rfl rfl rfl u6_10) rfl ?_
          refine qt_nil ?_
          intro w12 hk12
          have H12 := H9.keep hk12
          refine thn ?_
          refine condF rfl rfl ?_
          refine skip_ ?_
          refine bln ?_
          refine thn ?_
          refine region_ ?_
          refine wl_valE (v := .int .i64 ((i : Nat) : Int)) rfl (rf_move rfl) rfl ?_
          refine wl_valE (v := .int .i64 ((i + 1 : Nat) : Int)) rfl (rf_add rfl rfl rfl rfl (IntWalk.i64_in _ (by omega))) rfl ?_
          refine wl_valE (v := .int .i64 ((i + 1 : Nat) : Int)) rfl (rf_assign rfl) rfl ?_
          refine wl_nil ?_
          refine thn ?_
          refine ⟨x.all.length - (i + 1), _, rfl, (by omega), _, i + 1, b, upds_self ⟨rfl, rfl, rfl, rfl, rfl, trivial⟩, rfl, by omega, hb.miss he (by unfold blwE; rw [decide_eq_true u6_4p]; exact u6_10), H12.pick' [0, 1] rfl rfl⟩
      · have u6_4p := of_decide_eq_false u6_4
        refine qt_guardF rfl rfl rfl u6_4 ?_
        refine qt_guardF rfl rfl rfl u6_4 ?_
        refine qt_guardF rfl rfl rfl u6_4 ?_
        refine qt_guardF rfl rfl rfl u6_4 ?_
        refine qt_valE (v := .bool false) rfl (fun wq hq => rf_pickF rfl rfl rfl u6_4) rfl ?_
        refine qt_valE (v := .bool false) rfl (fun wq hq => rf_move rfl) rfl ?_
        refine qt_guardF rfl rfl rfl rfl ?_
        refine qt_guardF rfl rfl rfl rfl ?_
        refine qt_guardF rfl rfl rfl rfl ?_
        refine qt_guardS rfl rfl rfl ?_
        refine qt_guardS rfl rfl rfl ?_
        refine qt_guardS rfl rfl rfl ?_
        refine qt_guardS rfl rfl rfl ?_
        refine qt_guardS rfl rfl rfl ?_
        refine qt_guardS rfl rfl rfl ?_
        refine qt_guardS rfl rfl rfl ?_
        refine qt_guardS rfl rfl rfl ?_
        refine qt_guardS rfl rfl rfl ?_
        refine qt_guardS rfl rfl rfl ?_
        refine qt_guardS rfl rfl rfl ?_
        refine qt_guardF rfl rfl rfl rfl ?_
        refine qt_valE (v := .bool false) rfl (fun wq hq => rf_pickF rfl rfl rfl rfl) rfl ?_
        refine qt_nil ?_
        intro w13 hk13
        have H13 := H9.keep hk13
        refine thn ?_
        refine condF rfl rfl ?_
        refine skip_ ?_
        refine bln ?_
        refine thn ?_
        refine region_ ?_
        refine wl_valE (v := .int .i64 ((i : Nat) : Int)) rfl (rf_move rfl) rfl ?_
        refine wl_valE (v := .int .i64 ((i + 1 : Nat) : Int)) rfl (rf_add rfl rfl rfl rfl (IntWalk.i64_in _ (by omega))) rfl ?_
        refine wl_valE (v := .int .i64 ((i + 1 : Nat) : Int)) rfl (rf_assign rfl) rfl ?_
        refine wl_nil ?_
        refine thn ?_
        refine ⟨x.all.length - (i + 1), _, rfl, (by omega), _, i + 1, b, upds_self ⟨rfl, rfl, rfl, rfl, rfl, trivial⟩, rfl, by omega, hb.miss he (by unfold blwE; rw [decide_eq_false u6_4p]; rfl), H13.pick' [0, 1] rfl rfl⟩
    · have c16p := of_decide_eq_false c16
      refine exit_ ?_
      refine thx (thx (blx ?_))
      refine thn ?_
      refine seq_ ?_
      refine region_ ?_
      refine wl_valE (v := .int .i64 b) rfl (rf_move rfl) rfl ?_
      refine wl_valE (v := .int .i64 b) rfl (rf_assign rfl) rfl ?_
      refine wl_nil ?_
      refine thn ?_
      refine ret_ ?_
      refine fin1 (v := .int .i64 b) Tryz.results47 rfl rfl ?_
      obtain rfl : i = x.all.length := by omega
      exact ⟨_, ⟨by rw [hb.top], rfl⟩, (HL0.weakR 1 rfl).pick' [] rfl rfl⟩
set_option maxRecDepth 100000 in
theorem visible9_tr (rb : Nat) (x : RS) (st : StS) (hr : Rel st x) (hal : x.all.length ≤ 65536) (k : Key) (bt : Int) : Tr Tryz.prog 27 [.pointer (some ⟨rb, 0, none⟩), .agg #[.int .i64 k.table, .int .i64 k.row], .int .i64 bt] [rfH rb x] [] (fun v m => v = .int .i64 (visF st k bt) ∧ m = []) := by
  intro w0 S0 H0
  obtain ⟨⟨ya, yc⟩, -, H1⟩ := rfH.openR H0 0 rfl
  try dsimp only [List.cons_append, List.nil_append] at H1
  refine enterR Tryz.func27 rfl Tryz.ntmps27 rfl ?_
  intro g0
  refine seq_ ?_
  refine region_ ?_
  refine wl_boxH H1 (v := .agg #[.int .i64 k.table, .int .i64 k.row]) rfl rfl ?_
  intro b2 w3 H3
  refine wl_valE (v := .int .i64 (0 : Int)) rfl (rf_assign rfl) rfl ?_
  refine wl_nil ?_
  refine thn ?_
  refine seq_ ?_
  refine region_ ?_
  refine wl_valE (v := .int .i64 (-1 : Int)) rfl (rf_assign rfl) rfl ?_
  refine wl_nil ?_
  refine thn ?_
  refine seq_ ?_
  refine seq_ ?_
  refine region_ ?_
  refine wl_valE (v := .int .i64 (0 : Int)) rfl (rf_assign rfl) rfl ?_
  refine wl_nil ?_
  refine thn ?_
  refine block_ ?_
  refine loop_ (fun qk_ qf_ qw_ => ∃ (g : Nat → Value) (i : Nat) (b : Int), qf_ = upds g [(0, .pointer (some ⟨rb, 0, none⟩)), (2, .int .i64 bt), (4, .pointer (some ⟨b2, 0, none⟩)), (7, .int .i64 b), (8, .int .i64 ((i : Nat) : Int))] ∧ qk_ = x.all.length - i ∧ (i ≤ x.all.length) ∧ (IsLast (latE k bt) x.all i b) ∧ St w0 S0 [rfH rb x, blkH rb #[.int .i64 x.parts, .int .i64 x.cap, .slice ya x.all.length yc, .int .i64 x.last] 50, slH encEnt 8 110 ya x.all.length yc x.all] qw_ [blkH b2 #[.int .i64 k.table, .int .i64 k.row] 41]) (x.all.length - 0) ?_ ?_
  · refine ⟨_, 0, -1, upds_self ⟨rfl, rfl, rfl, rfl, rfl, trivial⟩, rfl, Nat.zero_le _, .zero _ _, H3.pick' [0] rfl rfl⟩
  · rintro lk0 _ wl0 ⟨gl0, i, b, rfl, hlk0, hi, hb, HL0⟩
    refine seq_ ?_
    refine seq_ ?_
    refine region_ ?_
    refine wl_valE (v := .int .i64 ((i : Nat) : Int)) rfl (rf_move rfl) rfl ?_
    refine wl_valE (v := .pointer (some ⟨rb, 0, none⟩)) rfl (rf_move rfl) rfl ?_
    refine wl_valE (v := .pointer (some ⟨rb, 0, none⟩)) rfl (rf_nilCheckP rfl rfl) rfl ?_
    refine wl_valE (v := .pointer (some ⟨rb, 2, none⟩)) rfl (rf_fieldAddr Tryz.underlying50 rfl ti48 rfl rfl) rfl ?_
    refine wl_valE (v := .slice ya x.all.length yc) rfl (rf_load Tryz.underlying48 rfl rfl rfl ((HL0.blkR 1 rfl).cell rfl)) rfl ?_
    refine wl_valE (v := .int .i64 ((x.all.length : Nat) : Int)) rfl (rf_len_slice Tryz.underlying48 rfl rfl) rfl ?_
    refine wl_valE (v := .bool (decide (((i : Nat) : Int) < ((x.all.length : Nat) : Int)))) rfl (rf_lss rfl rfl rfl rfl) rfl ?_
    refine wl_nil ?_
    refine thn ?_
    refine cond_ (t := decide (((i : Nat) : Int) < ((x.all.length : Nat) : Int))) rfl rfl (fun c16 => ?_) (fun c16 => ?_)
    · have c16p := of_decide_eq_true c16
      refine skip_ ?_
      refine thn ?_
      refine seq_ ?_
      refine block_ ?_
      refine seq_ ?_
      have hn4 := rd_len (HL0.rdR 2 slH_rd)
      obtain ⟨e, he⟩ : ∃ q_, x.all[i]? = some q_ := ⟨_, List.getElem?_eq_getElem (by omega)⟩
      refine region_ ?_
      refine wl_valE (v := .pointer (some ⟨rb, 0, none⟩)) rfl (rf_move rfl) rfl ?_
      refine wl_valE (v := .pointer (some ⟨rb, 0, none⟩)) rfl (rf_nilCheckP rfl rfl) rfl ?_
      refine wl_valE (v := .pointer (some ⟨rb, 2, none⟩)) rfl (rf_fieldAddr Tryz.underlying50 rfl ti48 rfl rfl) rfl ?_
      refine wl_valE (v := .slice ya x.all.length yc) rfl (rf_load Tryz.underlying48 rfl rfl rfl ((HL0.blkR 1 rfl).cell rfl)) rfl ?_
      refine wl_valE (v := .int .i64 ((i : Nat) : Int)) rfl (rf_move rfl) rfl ?_
      refine wl_valE (v := .pointer (some ⟨ab ya, ao ya + i * 8, none⟩)) rfl (rf_indexAddrH Tryz.underlying48 ti110 rfl rfl rfl rfl (by omega) (by omega) (HL0.rdR 2 slH_rd)) rfl ?_
      refine wl_valE (v := .agg #[.int .i64 e.v, .int .i64 e.key.table, .int .i64 e.key.row, .int .i64 e.batch, .int .i64 e.index, .bool e.fill, .bool e.cell.is_, .int .i64 e.cell.value]) rfl (rf_loadAgg (cs := [.int .i64 e.v, .int .i64 e.key.table, .int .i64 e.key.row, .int .i64 e.batch, .int .i64 e.index, .bool e.fill, .bool e.cell.is_, .int .i64 e.cell.value]) Tryz.underlying110 rfl ti110 rfl rfl (el_sub' (rd_el (HL0.rdR 2 slH_rd) he) 0 8 rfl) rfl) rfl ?_
      refine wl_allocH HL0 ti110 ?_
      intro be w6 H6
      refine wl_storeAggH H6 1 (o := 0) (cs := [.int .i64 e.v, .int .i64 e.key.table, .int .i64 e.key.row, .int .i64 e.batch, .int .i64 e.index, .bool e.fill, .bool e.cell.is_, .int .i64 e.cell.value]) (A' := #[.int .i64 e.v, .int .i64 e.key.table, .int .i64 e.key.row, .int .i64 e.batch, .int .i64 e.index, .bool e.fill, .bool e.cell.is_, .int .i64 e.cell.value]) rfl rfl ti110 rfl rfl rfl rfl rfl oneAll (leb rfl) rfl ?_
      intro w7 H7
      refine wl_nil ?_
      refine thn ?_
      refine seq_ ?_
      refine region_q mixedP (by kernel_rfl) ?_
      refine qt_valE (v := .pointer (some ⟨be, 1, none⟩)) rfl (fun wq hq => rf_fieldAddr Tryz.underlying110 rfl ti41 rfl rfl) rfl ?_
      refine qt_valE (v := .agg #[.int .i64 e.key.table, .int .i64 e.key.row]) rfl (fun wq hq => rf_loadBlk Tryz.underlying41 rfl ti41 rfl rfl ((H7.keep hq).blk 1 rfl) (leb rfl)) rfl ?_
      refine qt_valE (v := .agg #[.int .i64 k.table, .int .i64 k.row]) rfl (fun wq hq => rf_loadBlk Tryz.underlying41 rfl ti41 rfl rfl ((H7.keep hq).blk 0 rfl) (leb rfl)) rfl ?_
      refine qt_valE (v := .bool (decide (e.key = k))) rfl (fun wq hq => rf_eqlS (by kernel_rfl) (eqKey e.key k _) rfl rfl rfl rfl) rfl ?_
      refine qt_valE (v := .bool (decide (e.key = k))) rfl (fun wq hq => rf_move rfl) rfl ?_
      refine qt_split (decide (e.key = k)) (fun u6_4 => ?_) (fun u6_4 => ?_)
      · have u6_4p := of_decide_eq_true u6_4
        refine qt_guardT rfl rfl rfl u6_4 ?_
        refine qt_valE (v := .pointer (some ⟨be, 3, none⟩)) rfl (fun wq hq => rf_fieldAddr Tryz.underlying110 rfl ti71 rfl rfl) rfl ?_
        refine qt_guardT rfl rfl rfl u6_4 ?_
        refine qt_valE (v := .pointer (some ⟨be, 3, none⟩)) rfl (fun wq hq => rf_fieldAddr Tryz.underlying71 rfl ti3 rfl rfl) rfl ?_
        refine qt_guardT rfl rfl rfl u6_4 ?_
        refine qt_valE (v := .int .i64 e.batch) rfl (fun wq hq => rf_load Tryz.underlying3 rfl rfl rfl (((H7.keep hq).blk 1 rfl).cell rfl)) rfl ?_
        refine qt_guardT rfl rfl rfl u6_4 ?_
        refine qt_valE (v := .int .i64 bt) rfl (fun wq hq => rf_move rfl) rfl ?_
        refine qt_guardT rfl rfl rfl u6_4 ?_
        refine qt_valE (v := .bool (decide (e.batch ≤ bt))) rfl (fun wq hq => rf_leq rfl rfl rfl rfl) rfl ?_
        refine qt_valE (v := .bool (decide (e.batch ≤ bt))) rfl (fun wq hq => rf_pickT rfl rfl rfl u6_4) rfl ?_
        refine qt_valE (v := .bool (decide (e.batch ≤ bt))) rfl (fun wq hq => rf_move rfl) rfl ?_
        refine qt_split (decide (e.batch ≤ bt)) (fun u6_11 => ?_) (fun u6_11 => ?_)
        · have u6_11p := of_decide_eq_true u6_11
          refine qt_guardT rfl rfl rfl u6_11 ?_
          refine qt_valE (v := .int .i64 b) rfl (fun wq hq => rf_move rfl) rfl ?_
          refine qt_guardT rfl rfl rfl u6_11 ?_
          refine qt_valE (v := .bool (decide (b < (0 : Int)))) rfl (fun wq hq => rf_lss rfl rfl rfl rfl) rfl ?_
          refine qt_guardT rfl rfl rfl u6_11 ?_
          refine qt_valE (v := .bool (decide (b < (0 : Int)))) rfl (fun wq hq => rf_move rfl) rfl ?_
          refine qt_split (decide (b < (0 : Int))) (fun u6_14 => ?_) (fun u6_14 => ?_)
          · have u6_14p := of_decide_eq_true u6_14
            refine qt_guardF rfl rfl rfl u6_14 ?_
            refine qt_guardF rfl rfl rfl u6_14 ?_
            refine qt_guardF rfl rfl rfl u6_14 ?_
            refine qt_guardF rfl rfl rfl u6_14 ?_
            refine qt_guardF rfl rfl rfl u6_14 ?_
            refine qt_guardF rfl rfl rfl u6_14 ?_
            refine qt_guardF rfl rfl rfl u6_14 ?_
            refine qt_guardF rfl rfl rfl u6_14 ?_
            refine qt_guardF rfl rfl rfl u6_14 ?_
            refine qt_guardF rfl rfl rfl u6_14 ?_
            refine qt_guardF rfl rfl rfl u6_14 ?_
            refine qt_guardT rfl rfl rfl u6_11 ?_
            refine qt_valE (v := .bool true) rfl (fun wq hq => rf_pickT rfl rfl rfl u6_14) rfl ?_
            refine qt_valE (v := .bool true) rfl (fun wq hq => rf_pickT rfl rfl rfl u6_11) rfl ?_
            refine qt_nil ?_
            intro w8 hk8
            have H8 := H7.keep hk8
            refine thn ?_
            refine condT rfl rfl ?_
            refine region_ ?_
            refine wl_valE (v := .int .i64 ((i : Nat) : Int)) rfl (rf_move rfl) rfl ?_
            refine wl_valE (v := .int .i64 ((i : Nat) : Int)) rfl (rf_assign rfl) rfl ?_
            refine wl_nil ?_
            refine bln ?_
            refine thn ?_
            refine region_ ?_
            refine wl_valE (v := .int .i64 ((i : Nat) : Int)) rfl (rf_move rfl) rfl ?_
            refine wl_valE (v := .int .i64 ((i + 1 : Nat) : Int)) rfl (rf_add rfl rfl rfl rfl (IntWalk.i64_in _ (by omega))) rfl ?_
            refine wl_valE (v := .int .i64 ((i + 1 : Nat) : Int)) rfl (rf_assign rfl) rfl ?_
            refine wl_nil ?_
            refine thn ?_
            refine ⟨x.all.length - (i + 1), _, rfl, (by omega), _, i + 1, ((i : Nat) : Int), upds_self ⟨rfl, rfl, rfl, rfl, rfl, trivial⟩, rfl, by omega, .hit he (by unfold latE; rw [decide_eq_true u6_4p, decide_eq_true u6_11p]; rfl), H8.pick' [0] rfl rfl⟩
          · have u6_14p := of_decide_eq_false u6_14
            obtain ⟨q, y, rfl, hq1, hy, hpy, _⟩ := hb.some u6_14p
            have hql := (List.getElem?_eq_some_iff.1 hy).1
            have hky : y.key = e.key := by unfold latE at hpy; rw [Bool.and_eq_true] at hpy; rw [u6_4p]; exact of_decide_eq_true hpy.1
            refine qt_guardT rfl rfl rfl u6_14 ?_
            refine qt_valE (v := .pointer (some ⟨be, 3, none⟩)) rfl (fun wq hq => rf_fieldAddr Tryz.underlying110 rfl ti71 rfl rfl) rfl ?_
            refine qt_guardT rfl rfl rfl u6_14 ?_
            refine qt_valE (v := .agg #[.int .i64 e.batch, .int .i64 e.index, .bool e.fill, .bool e.cell.is_, .int .i64 e.cell.value]) rfl (fun wq hq => rf_loadBlk Tryz.underlying71 rfl ti71 rfl rfl ((H7.keep hq).blk 1 rfl) (leb rfl)) rfl ?_
            refine qt_guardT rfl rfl rfl u6_14 ?_
            refine qt_valE (v := .pointer (some ⟨rb, 0, none⟩)) rfl (fun wq hq => rf_move rfl) rfl ?_
            refine qt_guardT rfl rfl rfl u6_14 ?_
            refine qt_valE (v := .pointer (some ⟨rb, 0, none⟩)) rfl (fun wq hq => rf_nilCheckP rfl rfl) rfl ?_
            refine qt_guardT rfl rfl rfl u6_14 ?_
            refine qt_valE (v := .pointer (some ⟨rb, 2, none⟩)) rfl (fun wq hq => rf_fieldAddr Tryz.underlying50 rfl ti48 rfl rfl) rfl ?_
            refine qt_guardT rfl rfl rfl u6_14 ?_
            refine qt_valE (v := .slice ya x.all.length yc) rfl (fun wq hq => rf_load Tryz.underlying48 rfl rfl rfl (((H7.keep hq).blkR 1 rfl).cell rfl)) rfl ?_
            refine qt_guardT rfl rfl rfl u6_14 ?_
            refine qt_valE (v := .int .i64 ((q : Nat) : Int)) rfl (fun wq hq => rf_move rfl) rfl ?_
            refine qt_guardT rfl rfl rfl u6_14 ?_
            refine qt_valE (v := .pointer (some ⟨ab ya, ao ya + q * 8, none⟩)) rfl (fun wq hq => rf_indexAddrH Tryz.underlying48 ti110 rfl rfl rfl rfl (by omega) (by omega) ((H7.keep hq).rdR 2 slH_rd)) rfl ?_
            refine qt_guardT rfl rfl rfl u6_14 ?_
            refine qt_valE (v := .pointer (some ⟨ab ya, ao ya + q * 8 + 3, none⟩)) rfl (fun wq hq => rf_fieldAddr Tryz.underlying110 rfl ti71 rfl rfl) rfl ?_
            refine qt_guardT rfl rfl rfl u6_14 ?_
            refine qt_valE (v := .agg #[.int .i64 y.batch, .int .i64 y.index, .bool y.fill, .bool y.cell.is_, .int .i64 y.cell.value]) rfl (fun wq hq => rf_loadAgg (cs := [.int .i64 y.batch, .int .i64 y.index, .bool y.fill, .bool y.cell.is_, .int .i64 y.cell.value]) Tryz.underlying71 rfl ti71 rfl rfl (el_sub' (rd_el ((H7.keep hq).rdR 2 slH_rd) hy) 3 5 rfl) rfl) rfl ?_
            refine qt_guardT rfl rfl rfl u6_14 ?_
            refine qt_ret (v := .bool true) rfl (fun wq hq => ((laterT_tr (a := verE e) (b := verE y) (later_lt.2 (hr.srt hq1 hy he hky))).quiet (H7.keep hq) .nil (by rintro _ _ ⟨rfl, rfl⟩; exact rfl)).mono (fun _ _ h => ⟨h.1, hq.trans h.2⟩)) (fun wq hq => rf_call Tryz.call49 rfl rfl) ?_
            refine qt_guardT rfl rfl rfl u6_11 ?_
            refine qt_valE (v := .bool true) rfl (fun wq hq => rf_pickF rfl rfl rfl u6_14) rfl ?_
            refine qt_valE (v := .bool true) rfl (fun wq hq => rf_pickT rfl rfl rfl u6_11) rfl ?_
            refine qt_nil ?_
            intro w9 hk9
            have H9 := H7.keep hk9
            refine thn ?_
            refine condT rfl rfl ?_
            refine region_ ?_
            refine wl_valE (v := .int .i64 ((i : Nat) : Int)) rfl (rf_move rfl) rfl ?_
            refine wl_valE (v := .int .i64 ((i : Nat) : Int)) rfl (rf_assign rfl) rfl ?_
            refine wl_nil ?_
            refine bln ?_
            refine thn ?_
            refine region_ ?_
            refine wl_valE (v := .int .i64 ((i : Nat) : Int)) rfl (rf_move rfl) rfl ?_
            refine wl_valE (v := .int .i64 ((i + 1 : Nat) : Int)) rfl (rf_add rfl rfl rfl rfl (IntWalk.i64_in _ (by omega))) rfl ?_
            refine wl_valE (v := .int .i64 ((i + 1 : Nat) : Int)) rfl (rf_assign rfl) rfl ?_
            refine wl_nil ?_
            refine thn ?_
            refine ⟨x.all.length - (i + 1), _, rfl, (by omega), _, i + 1, ((i : Nat) : Int), upds_self ⟨rfl, rfl, rfl, rfl, rfl, trivial⟩, rfl, by omega, .hit he (by unfold latE; rw [decide_eq_true u6_4p, decide_eq_true u6_11p]; rfl), H9.pick' [0] rfl rfl⟩
        · have u6_11p := of_decide_eq_false u6_11
          refine qt_guardF rfl rfl rfl u6_11 ?_
          refine qt_guardF rfl rfl rfl u6_11 ?_
          refine qt_guardF rfl rfl rfl u6_11 ?_
          refine qt_guardS rfl rfl rfl ?_
          refine qt_guardS rfl rfl rfl ?_
          refine qt_guardS rfl rfl rfl ?_
          refine qt_guardS rfl rfl rfl ?_
          refine qt_guardS rfl rfl rfl ?_
          refine qt_guardS rfl rfl rfl ?_
          refine qt_guardS rfl rfl rfl ?_
          refine qt_guardS rfl rfl rfl ?_
          refine qt_guardS rfl rfl rfl ?_
          refine qt_guardS rfl rfl rfl ?_
          refine qt_guardS rfl rfl rfl ?_
          refine qt_guardF rfl rfl rfl u6_11 ?_
          refine qt_valE (v := .bool false) rfl (fun wq hq => rf_pickF rfl rfl rfl u6_11) rfl ?_
          refine qt_nil ?_
          intro w10 hk10
          have H10 := H7.keep hk10
          refine thn ?_
          refine condF rfl rfl ?_
          refine skip_ ?_
          refine bln ?_
          refine thn ?_
          refine region_ ?_
          refine wl_valE (v := .int .i64 ((i : Nat) : Int)) rfl (rf_move rfl) rfl ?_
          refine wl_valE (v := .int .i64 ((i + 1 : Nat) : Int)) rfl (rf_add rfl rfl rfl rfl (IntWalk.i64_in _ (by omega))) rfl ?_
          refine wl_valE (v := .int .i64 ((i + 1 : Nat) : Int)) rfl (rf_assign rfl) rfl ?_
          refine wl_nil ?_
          refine thn ?_
          refine ⟨x.all.length - (i + 1), _, rfl, (by omega), _, i + 1, b, upds_self ⟨rfl, rfl, rfl, rfl, rfl, trivial⟩, rfl, by omega, hb.miss he (by unfold latE; rw [decide_eq_true u6_4p, decide_eq_false u6_11p]; rfl), H10.pick' [0] rfl rfl⟩
      · have u6_4p := of_decide_eq_false u6_4
        refine qt_guardF rfl rfl rfl u6_4 ?_
        refine qt_guardF rfl rfl rfl u6_4 ?_
        refine qt_guardF rfl rfl rfl u6_4 ?_
        refine qt_guardF rfl rfl rfl u6_4 ?_
        refine qt_guardF rfl rfl rfl u6_4 ?_
        refine qt_valE (v := .bool false) rfl (fun wq hq => rf_pickF rfl rfl rfl u6_4) rfl ?_
        refine qt_valE (v := .bool false) rfl (fun wq hq => rf_move rfl) rfl ?_
        refine qt_guardF rfl rfl rfl rfl ?_
        refine qt_guardF rfl rfl rfl rfl ?_
        refine qt_guardF rfl rfl rfl rfl ?_
        refine qt_guardS rfl rfl rfl ?_
        refine qt_guardS rfl rfl rfl ?_
        refine qt_guardS rfl rfl rfl ?_
        refine qt_guardS rfl rfl rfl ?_
        refine qt_guardS rfl rfl rfl ?_
        refine qt_guardS rfl rfl rfl ?_
        refine qt_guardS rfl rfl rfl ?_
        refine qt_guardS rfl rfl rfl ?_
        refine qt_guardS rfl rfl rfl ?_
        refine qt_guardS rfl rfl rfl ?_
        refine qt_guardS rfl rfl rfl ?_
        refine qt_guardF rfl rfl rfl rfl ?_
        refine qt_valE (v := .bool false) rfl (fun wq hq => rf_pickF rfl rfl rfl rfl) rfl ?_
        refine qt_nil ?_
        intro w11 hk11
        have H11 := H7.keep hk11
        refine thn ?_
        refine condF rfl rfl ?_
        refine skip_ ?_
        refine bln ?_
        refine thn ?_
        refine region_ ?_
        refine wl_valE (v := .int .i64 ((i : Nat) : Int)) rfl (rf_move rfl) rfl ?_
        refine wl_valE (v := .int .i64 ((i + 1 : Nat) : Int)) rfl (rf_add rfl rfl rfl rfl (IntWalk.i64_in _ (by omega))) rfl ?_
        refine wl_valE (v := .int .i64 ((i + 1 : Nat) : Int)) rfl (rf_assign rfl) rfl ?_
        refine wl_nil ?_
        refine thn ?_
        refine ⟨x.all.length - (i + 1), _, rfl, (by omega), _, i + 1, b, upds_self ⟨rfl, rfl, rfl, rfl, rfl, trivial⟩, rfl, by omega, hb.miss he (by unfold latE; rw [decide_eq_false u6_4p]; rfl), H11.pick' [0] rfl rfl⟩
    · have c16p := of_decide_eq_false c16
      refine exit_ ?_
      refine thx (thx (blx ?_))
      refine thn ?_
      refine seq_ ?_
      refine region_ ?_
      refine wl_valE (v := .pointer (some ⟨rb, 0, none⟩)) rfl (rf_move rfl) rfl ?_
      refine wl_valE (v := .int .i64 b) rfl (rf_move rfl) rfl ?_
      refine wl_tr HL0 rfl [] (number_tr rb x b hb) rfl (.ro 0 Le.rfl .nil) (rf_call Tryz.call57 rfl rfl) rfl ?_
      rintro _ w12 _ ⟨rfl, rfl⟩ H12
      refine wl_valE (v := .int .i64 (numE x.all b)) rfl (rf_assign rfl) rfl ?_
      refine wl_nil ?_
      refine thn ?_
      refine ret_ ?_
      refine fin1 (v := .int .i64 (numE x.all b)) Tryz.results27 rfl rfl ?_
      obtain rfl : i = x.all.length := by omega
      exact ⟨_, ⟨by rw [hb.top, hr.visible], rfl⟩, (H12.weakR 1 rfl).pick' [] rfl rfl⟩
theorem newest9_tr (rb : Nat) (x : RS) (st : StS) (hr : Rel st x) (hal : x.all.length ≤ 65536) (k : Key) : Tr Tryz.prog 25 [.pointer (some ⟨rb, 0, none⟩), .agg #[.int .i64 k.table, .int .i64 k.row]] [rfH rb x] [] (fun v m => v = .int .i64 (visF st k 1099511627776) ∧ m = []) := by
  intro w0 S0 H0
  refine enterR Tryz.func25 rfl Tryz.ntmps25 rfl ?_
  intro g0
  refine seq_ ?_
  refine region_ ?_
  refine wl_boxH H0 (v := .agg #[.int .i64 k.table, .int .i64 k.row]) rfl rfl ?_
  intro b1 w2 H2
  refine wl_valE (v := .int .i64 (0 : Int)) rfl (rf_assign rfl) rfl ?_
  refine wl_nil ?_
  refine thn ?_
  refine seq_ ?_
  refine region_q mixedP (by kernel_rfl) ?_
  refine qt_valE (v := .pointer (some ⟨rb, 0, none⟩)) rfl (fun wq hq => rf_move rfl) rfl ?_
  refine qt_valE (v := .pointer (some ⟨rb, 0, none⟩)) rfl (fun wq hq => rf_move rfl) rfl ?_
  refine qt_valE (v := .agg #[.int .i64 k.table, .int .i64 k.row]) rfl (fun wq hq => rf_loadBlk Tryz.underlying41 rfl ti41 rfl rfl ((H2.keep hq).blk 0 rfl) (leb rfl)) rfl ?_
  refine qt_ret (v := .agg #[.int .i64 9223372036854775807, .int .i64 9223372036854775807, .bool false, .bool false, .int .i64 0]) rfl (fun wq hq => ((top_tr).quiet (H2.keep hq) .nil (by rintro _ _ ⟨rfl, rfl⟩; exact rfl)).mono (fun _ _ h => ⟨h.1, hq.trans h.2⟩)) (fun wq hq => rf_call Tryz.call48 rfl rfl) ?_
  refine qt_ret (v := .int .i64 (topI (blwE k (⟨9223372036854775807, 9223372036854775807, false, ⟨false, 0⟩⟩ : Ver)) x.all)) rfl (fun wq hq => ((below_tr rb x k (⟨9223372036854775807, 9223372036854775807, false, ⟨false, 0⟩⟩ : Ver) (fun h1 h2 h3 h4 => hr.srt h1 h2 h3 h4) hal).quiet (H2.keep hq) (.ro 0 Le.rfl .nil) (by rintro _ _ ⟨rfl, rfl⟩; exact rfl)).mono (fun _ _ h => ⟨h.1, hq.trans h.2⟩)) (fun wq hq => rf_call Tryz.call47 rfl rfl) ?_
  refine qt_ret (v := .int .i64 (numE x.all (topI (blwE k (⟨9223372036854775807, 9223372036854775807, false, ⟨false, 0⟩⟩ : Ver)) x.all))) rfl (fun wq hq => ((number_tr rb x (topI (blwE k (⟨9223372036854775807, 9223372036854775807, false, ⟨false, 0⟩⟩ : Ver)) x.all) (topI_is _ _)).quiet (H2.keep hq) (.ro 0 Le.rfl .nil) (by rintro _ _ ⟨rfl, rfl⟩; exact rfl)).mono (fun _ _ h => ⟨h.1, hq.trans h.2⟩)) (fun wq hq => rf_call Tryz.call57 rfl rfl) ?_
  refine qt_valE (v := .int .i64 (numE x.all (topI (blwE k (⟨9223372036854775807, 9223372036854775807, false, ⟨false, 0⟩⟩ : Ver)) x.all))) rfl (fun wq hq => rf_assign rfl) rfl ?_
  refine qt_nil ?_
  intro w3 hk3
  have H3 := H2.keep hk3
  refine thn ?_
  refine ret_ ?_
  refine fin1 (v := .int .i64 (numE x.all (topI (blwE k (⟨9223372036854775807, 9223372036854775807, false, ⟨false, 0⟩⟩ : Ver)) x.all))) Tryz.results25 rfl rfl ?_
  exact ⟨_, ⟨congrArg _ (hr.newest k), rfl⟩, H3.pick' [] rfl rfl⟩
theorem before9_tr (rb : Nat) (x : RS) (st : StS) (hr : Rel st x) (hal : x.all.length ≤ 65536) (v : Int) : Tr Tryz.prog 23 [.pointer (some ⟨rb, 0, none⟩), .int .i64 v] [rfH rb x] [] (fun vv m => vv = .int .i64 (befF st v) ∧ m = []) := by
  intro w0 S0 H0
  obtain ⟨⟨ya, yc⟩, -, H1⟩ := rfH.openR H0 0 rfl
  try dsimp only [List.cons_append, List.nil_append] at H1
  refine enterR Tryz.func23 rfl Tryz.ntmps23 rfl ?_
  intro g0
  refine seq_ ?_
  refine region_ ?_
  refine wl_valE (v := .int .i64 (0 : Int)) rfl (rf_assign rfl) rfl ?_
  refine wl_nil ?_
  refine thn ?_
  refine seq_ ?_
  refine region_ ?_
  refine wl_valE (v := .pointer (some ⟨rb, 0, none⟩)) rfl (rf_move rfl) rfl ?_
  refine wl_valE (v := .int .i64 v) rfl (rf_move rfl) rfl ?_
  refine wl_tr H1 rfl [] (at_tr rb x v hr.nod hal) rfl (.ro 0 Le.rfl .nil) (rf_call Tryz.call50 rfl rfl) rfl ?_
  rintro _ w2 _ ⟨bv, hbv, rfl, rfl⟩ H2
  refine wl_valE (v := .int .i64 bv) rfl (rf_assign rfl) rfl ?_
  refine wl_nil ?_
  refine thn ?_
  refine seq_ ?_
  refine seq_ ?_
  refine region_ ?_
  refine wl_valE (v := .int .i64 bv) rfl (rf_move rfl) rfl ?_
  refine wl_valE (v := .bool (decide (bv < (0 : Int)))) rfl (rf_lss rfl rfl rfl rfl) rfl ?_
  refine wl_nil ?_
  refine thn ?_
  refine cond_ (t := decide (bv < (0 : Int))) rfl rfl (fun c10 => ?_) (fun c10 => ?_)
  · have c10p := of_decide_eq_true c10
    have hnone := hr.no hbv c10p
    refine seq_ ?_
    refine region_ ?_
    refine wl_valE (v := .int .i64 (0 : Int)) rfl (rf_assign rfl) rfl ?_
    refine wl_nil ?_
    refine thn ?_
    refine ret_ ?_
    refine thr ?_
    refine fin1 (v := .int .i64 (0 : Int)) Tryz.results23 rfl rfl ?_
    exact ⟨_, ⟨by unfold befF; rw [hnone], rfl⟩, (H2.weakR 1 rfl).pick' [] rfl rfl⟩
  · have c10p := of_decide_eq_false c10
    obtain ⟨q, y, rfl, hq, hy, hpy, _⟩ := hbv.some c10p
    have hpv : y.v = v := of_decide_eq_true hpy
    subst hpv
    have hat := hr.at hy
    refine skip_ ?_
    refine thn ?_
    refine seq_ ?_
    refine region_q mixedP (by kernel_rfl) ?_
    refine qt_valE (v := .pointer (some ⟨rb, 0, none⟩)) rfl (fun wq hq => rf_move rfl) rfl ?_
    refine qt_valE (v := .pointer (some ⟨rb, 0, none⟩)) rfl (fun wq hq => rf_move rfl) rfl ?_
    refine qt_valE (v := .pointer (some ⟨rb, 0, none⟩)) rfl (fun wq hq => rf_move rfl) rfl ?_
    refine qt_valE (v := .pointer (some ⟨rb, 0, none⟩)) rfl (fun wq hq => rf_nilCheckP rfl rfl) rfl ?_
    refine qt_valE (v := .pointer (some ⟨rb, 2, none⟩)) rfl (fun wq hq => rf_fieldAddr Tryz.underlying50 rfl ti48 rfl rfl) rfl ?_
    refine qt_valE (v := .slice ya x.all.length yc) rfl (fun wq hq => rf_load Tryz.underlying48 rfl rfl rfl (((H2.keep hq).blkR 1 rfl).cell rfl)) rfl ?_
    refine qt_valE (v := .int .i64 ((q : Nat) : Int)) rfl (fun wq hq => rf_move rfl) rfl ?_
    refine qt_valE (v := .pointer (some ⟨ab ya, ao ya + q * 8, none⟩)) rfl (fun wq hq => rf_indexAddrH Tryz.underlying48 ti110 rfl rfl rfl rfl (by omega) (by omega) ((H2.keep hq).rdR 2 slH_rd)) rfl ?_
    refine qt_valE (v := .pointer (some ⟨ab ya, ao ya + q * 8 + 1, none⟩)) rfl (fun wq hq => rf_fieldAddr Tryz.underlying110 rfl ti41 rfl rfl) rfl ?_
    refine qt_valE (v := .agg #[.int .i64 y.key.table, .int .i64 y.key.row]) rfl (fun wq hq => rf_loadAgg (cs := [.int .i64 y.key.table, .int .i64 y.key.row]) Tryz.underlying41 rfl ti41 rfl rfl (el_sub' (rd_el ((H2.keep hq).rdR 2 slH_rd) hy) 1 2 rfl) rfl) rfl ?_
    refine qt_valE (v := .pointer (some ⟨rb, 0, none⟩)) rfl (fun wq hq => rf_move rfl) rfl ?_
    refine qt_valE (v := .pointer (some ⟨rb, 0, none⟩)) rfl (fun wq hq => rf_nilCheckP rfl rfl) rfl ?_
    refine qt_valE (v := .pointer (some ⟨rb, 2, none⟩)) rfl (fun wq hq => rf_fieldAddr Tryz.underlying50 rfl ti48 rfl rfl) rfl ?_
    refine qt_valE (v := .slice ya x.all.length yc) rfl (fun wq hq => rf_load Tryz.underlying48 rfl rfl rfl (((H2.keep hq).blkR 1 rfl).cell rfl)) rfl ?_
    refine qt_valE (v := .int .i64 ((q : Nat) : Int)) rfl (fun wq hq => rf_move rfl) rfl ?_
    refine qt_valE (v := .pointer (some ⟨ab ya, ao ya + q * 8, none⟩)) rfl (fun wq hq => rf_indexAddrH Tryz.underlying48 ti110 rfl rfl rfl rfl (by omega) (by omega) ((H2.keep hq).rdR 2 slH_rd)) rfl ?_
    refine qt_valE (v := .pointer (some ⟨ab ya, ao ya + q * 8 + 3, none⟩)) rfl (fun wq hq => rf_fieldAddr Tryz.underlying110 rfl ti71 rfl rfl) rfl ?_
    refine qt_valE (v := .agg #[.int .i64 y.batch, .int .i64 y.index, .bool y.fill, .bool y.cell.is_, .int .i64 y.cell.value]) rfl (fun wq hq => rf_loadAgg (cs := [.int .i64 y.batch, .int .i64 y.index, .bool y.fill, .bool y.cell.is_, .int .i64 y.cell.value]) Tryz.underlying71 rfl ti71 rfl rfl (el_sub' (rd_el ((H2.keep hq).rdR 2 slH_rd) hy) 3 5 rfl) rfl) rfl ?_
    refine qt_ret (v := .int .i64 (topI (blwE y.key (⟨y.batch, y.index, y.fill, ⟨y.cell.is_, y.cell.value⟩⟩ : Ver)) x.all)) rfl (fun wq hq => ((below_tr rb x y.key (⟨y.batch, y.index, y.fill, ⟨y.cell.is_, y.cell.value⟩⟩ : Ver) (fun h1 h2 h3 h4 => hr.srt h1 h2 h3 h4) hal).quiet (H2.keep hq) (.ro 0 Le.rfl .nil) (by rintro _ _ ⟨rfl, rfl⟩; exact rfl)).mono (fun _ _ h => ⟨h.1, hq.trans h.2⟩)) (fun wq hq => rf_call Tryz.call47 rfl rfl) ?_
    refine qt_ret (v := .int .i64 (numE x.all (topI (blwE y.key (⟨y.batch, y.index, y.fill, ⟨y.cell.is_, y.cell.value⟩⟩ : Ver)) x.all))) rfl (fun wq hq => ((number_tr rb x (topI (blwE y.key (⟨y.batch, y.index, y.fill, ⟨y.cell.is_, y.cell.value⟩⟩ : Ver)) x.all) (topI_is _ _)).quiet (H2.keep hq) (.ro 0 Le.rfl .nil) (by rintro _ _ ⟨rfl, rfl⟩; exact rfl)).mono (fun _ _ h => ⟨h.1, hq.trans h.2⟩)) (fun wq hq => rf_call Tryz.call57 rfl rfl) ?_
    refine qt_valE (v := .int .i64 (numE x.all (topI (blwE y.key (⟨y.batch, y.index, y.fill, ⟨y.cell.is_, y.cell.value⟩⟩ : Ver)) x.all))) rfl (fun wq hq => rf_assign rfl) rfl ?_
    refine qt_nil ?_
    intro w3 hk3
    have H3 := H2.keep hk3
    refine thn ?_
    refine ret_ ?_
    refine fin1 (v := .int .i64 (numE x.all (topI (blwE y.key (⟨y.batch, y.index, y.fill, ⟨y.cell.is_, y.cell.value⟩⟩ : Ver)) x.all))) Tryz.results23 rfl rfl ?_
    exact ⟨_, ⟨congrArg _ (hr.before hy), rfl⟩, (H3.weakR 1 rfl).pick' [] rfl rfl⟩
theorem look9_tr (rb : Nat) (x : RS) (st : StS) (hr : Rel st x) (hal : x.all.length ≤ 65536) (v : Int) : Tr Tryz.prog 19 [.pointer (some ⟨rb, 0, none⟩), .int .i64 v] [rfH rb x] [] (fun vv m => vv = .tuple #[.agg #[.int .i64 (verF st v).batch, .int .i64 (verF st v).index, .bool (verF st v).filled, .bool (verF st v).cell.is_, .int .i64 (verF st v).cell.value], .int .i64 (refE st v)] ∧ m = []) := by
  intro w0 S0 H0
  obtain ⟨⟨ya, yc⟩, -, H1⟩ := rfH.openR H0 0 rfl
  try dsimp only [List.cons_append, List.nil_append] at H1
  refine enterR Tryz.func19 rfl Tryz.ntmps19 rfl ?_
  intro g0
  refine seq_ ?_
  refine region_ ?_
  refine wl_allocH H1 ti71 ?_
  intro b2 w3 H3
  refine wl_valE (v := .int .i64 (0 : Int)) rfl (rf_assign rfl) rfl ?_
  refine wl_nil ?_
  refine thn ?_
  refine seq_ ?_
  refine region_ ?_
  refine wl_valE (v := .pointer (some ⟨rb, 0, none⟩)) rfl (rf_move rfl) rfl ?_
  refine wl_valE (v := .int .i64 v) rfl (rf_move rfl) rfl ?_
  refine wl_tr H3 rfl [] (at_tr rb x v hr.nod hal) rfl (.ro 0 Le.rfl .nil) (rf_call Tryz.call50 rfl rfl) rfl ?_
  rintro _ w4 _ ⟨bv, hbv, rfl, rfl⟩ H4
  refine wl_valE (v := .int .i64 bv) rfl (rf_assign rfl) rfl ?_
  refine wl_nil ?_
  refine thn ?_
  refine seq_ ?_
  refine seq_ ?_
  refine region_ ?_
  refine wl_valE (v := .int .i64 bv) rfl (rf_move rfl) rfl ?_
  refine wl_valE (v := .bool (decide (bv < (0 : Int)))) rfl (rf_lss rfl rfl rfl rfl) rfl ?_
  refine wl_nil ?_
  refine thn ?_
  refine cond_ (t := decide (bv < (0 : Int))) rfl rfl (fun c11 => ?_) (fun c11 => ?_)
  · have c11p := of_decide_eq_true c11
    have hnone := hr.no hbv c11p
    refine seq_ ?_
    refine region_ ?_
    refine wl_valE (v := .agg #[.int .i64 (0 : Int), .int .i64 (0 : Int), .bool false, .bool false, .int .i64 (0 : Int)]) rfl (rf_build (offs := []) (places := #[(0, 1), (1, 1), (2, 1), (3, 2)]) Tryz.underlying71 ti71 (fun w => by kernel_rfl) .nil) rfl ?_
    refine wl_storeAggH H4 0 (o := 0) (cs := [.int .i64 (0 : Int), .int .i64 (0 : Int), .bool false, .bool false, .int .i64 (0 : Int)]) (A' := #[.int .i64 (0 : Int), .int .i64 (0 : Int), .bool false, .bool false, .int .i64 (0 : Int)]) rfl rfl ti71 rfl rfl rfl rfl rfl oneAll (leb rfl) rfl ?_
    intro w5 H5
    try dsimp only [putsH, setH, List.cons_append, List.nil_append] at H5
    refine wl_valE (v := .int .i64 (93 : Int)) rfl (rf_assign rfl) rfl ?_
    refine wl_nil ?_
    refine thn ?_
    refine ret_ ?_
    refine thr ?_
    refine finV2 Tryz.results19 (RV.blk rfl Tryz.underlying71 rfl ti71 rfl (H5.blk 0 rfl) (leb rfl)) (.tmp (v := .int .i64 (93 : Int)) rfl rfl) ?_
    exact ⟨_, ⟨by unfold verF refE; rw [hnone]; rfl, rfl⟩, (H5.weakR 1 rfl).pick' [] rfl rfl⟩
  · have c11p := of_decide_eq_false c11
    obtain ⟨q, y, rfl, hq, hy, hpy, _⟩ := hbv.some c11p
    have hpv : y.v = v := of_decide_eq_true hpy
    subst hpv
    have hat := hr.at hy
    refine skip_ ?_
    refine thn ?_
    refine seq_ ?_
    refine region_ ?_
    refine wl_valE (v := .pointer (some ⟨rb, 0, none⟩)) rfl (rf_move rfl) rfl ?_
    refine wl_valE (v := .pointer (some ⟨rb, 0, none⟩)) rfl (rf_nilCheckP rfl rfl) rfl ?_
    refine wl_valE (v := .pointer (some ⟨rb, 2, none⟩)) rfl (rf_fieldAddr Tryz.underlying50 rfl ti48 rfl rfl) rfl ?_
    refine wl_valE (v := .slice ya x.all.length yc) rfl (rf_load Tryz.underlying48 rfl rfl rfl ((H4.blkR 1 rfl).cell rfl)) rfl ?_
    refine wl_valE (v := .int .i64 ((q : Nat) : Int)) rfl (rf_move rfl) rfl ?_
    refine wl_valE (v := .pointer (some ⟨ab ya, ao ya + q * 8, none⟩)) rfl (rf_indexAddrH Tryz.underlying48 ti110 rfl rfl rfl rfl (by omega) (by omega) (H4.rdR 2 slH_rd)) rfl ?_
    refine wl_valE (v := .pointer (some ⟨ab ya, ao ya + q * 8 + 3, none⟩)) rfl (rf_fieldAddr Tryz.underlying110 rfl ti71 rfl rfl) rfl ?_
    refine wl_valE (v := .agg #[.int .i64 y.batch, .int .i64 y.index, .bool y.fill, .bool y.cell.is_, .int .i64 y.cell.value]) rfl (rf_loadAgg (cs := [.int .i64 y.batch, .int .i64 y.index, .bool y.fill, .bool y.cell.is_, .int .i64 y.cell.value]) Tryz.underlying71 rfl ti71 rfl rfl (el_sub' (rd_el (H4.rdR 2 slH_rd) hy) 3 5 rfl) rfl) rfl ?_
    refine wl_storeAggH H4 0 (o := 0) (cs := [.int .i64 y.batch, .int .i64 y.index, .bool y.fill, .bool y.cell.is_, .int .i64 y.cell.value]) (A' := #[.int .i64 y.batch, .int .i64 y.index, .bool y.fill, .bool y.cell.is_, .int .i64 y.cell.value]) rfl rfl ti71 rfl rfl rfl rfl rfl oneAll (leb rfl) rfl ?_
    intro w6 H6
    try dsimp only [putsH, setH, List.cons_append, List.nil_append] at H6
    refine wl_valE (v := .int .i64 (0 : Int)) rfl (rf_assign rfl) rfl ?_
    refine wl_nil ?_
    refine thn ?_
    refine ret_ ?_
    refine finV2 Tryz.results19 (RV.blk rfl Tryz.underlying71 rfl ti71 rfl (H6.blk 0 rfl) (leb rfl)) (.tmp (v := .int .i64 (0 : Int)) rfl rfl) ?_
    exact ⟨_, ⟨by rw [hat.1, hat.2.1]; rfl, rfl⟩, (H6.weakR 1 rfl).pick' [] rfl rfl⟩
theorem keyOf9_tr (rb : Nat) (x : RS) (st : StS) (hr : Rel st x) (hal : x.all.length ≤ 65536) (v : Int) : Tr Tryz.prog 21 [.pointer (some ⟨rb, 0, none⟩), .int .i64 v] [rfH rb x] [] (fun vv m => vv = .tuple #[.agg #[.int .i64 (verF st v).key.table, .int .i64 (verF st v).key.row], .int .i64 (refE st v)] ∧ m = []) := by
  intro w0 S0 H0
  obtain ⟨⟨ya, yc⟩, -, H1⟩ := rfH.openR H0 0 rfl
  try dsimp only [List.cons_append, List.nil_append] at H1
  refine enterR Tryz.func21 rfl Tryz.ntmps21 rfl ?_
  intro g0
  refine seq_ ?_
  refine region_ ?_
  refine wl_allocH H1 ti41 ?_
  intro b2 w3 H3
  refine wl_valE (v := .int .i64 (0 : Int)) rfl (rf_assign rfl) rfl ?_
  refine wl_nil ?_
  refine thn ?_
  refine seq_ ?_
  refine region_ ?_
  refine wl_valE (v := .pointer (some ⟨rb, 0, none⟩)) rfl (rf_move rfl) rfl ?_
  refine wl_valE (v := .int .i64 v) rfl (rf_move rfl) rfl ?_
  refine wl_tr H3 rfl [] (at_tr rb x v hr.nod hal) rfl (.ro 0 Le.rfl .nil) (rf_call Tryz.call50 rfl rfl) rfl ?_
  rintro _ w4 _ ⟨bv, hbv, rfl, rfl⟩ H4
  refine wl_valE (v := .int .i64 bv) rfl (rf_assign rfl) rfl ?_
  refine wl_nil ?_
  refine thn ?_
  refine seq_ ?_
  refine seq_ ?_
  refine region_ ?_
  refine wl_valE (v := .int .i64 bv) rfl (rf_move rfl) rfl ?_
  refine wl_valE (v := .bool (decide (bv < (0 : Int)))) rfl (rf_lss rfl rfl rfl rfl) rfl ?_
  refine wl_nil ?_
  refine thn ?_
  refine cond_ (t := decide (bv < (0 : Int))) rfl rfl (fun c11 => ?_) (fun c11 => ?_)
  · have c11p := of_decide_eq_true c11
    have hnone := hr.no hbv c11p
    refine seq_ ?_
    refine region_ ?_
    refine wl_valE (v := .agg #[.int .i64 (0 : Int), .int .i64 (0 : Int)]) rfl (rf_build (offs := []) (places := #[(0, 1), (1, 1)]) Tryz.underlying41 ti41 (fun w => by kernel_rfl) .nil) rfl ?_
    refine wl_storeAggH H4 0 (o := 0) (cs := [.int .i64 (0 : Int), .int .i64 (0 : Int)]) (A' := #[.int .i64 (0 : Int), .int .i64 (0 : Int)]) rfl rfl ti41 rfl rfl rfl rfl rfl oneAll (leb rfl) rfl ?_
    intro w5 H5
    try dsimp only [putsH, setH, List.cons_append, List.nil_append] at H5
    refine wl_valE (v := .int .i64 (93 : Int)) rfl (rf_assign rfl) rfl ?_
    refine wl_nil ?_
    refine thn ?_
    refine ret_ ?_
    refine thr ?_
    refine finV2 Tryz.results21 (RV.blk rfl Tryz.underlying41 rfl ti41 rfl (H5.blk 0 rfl) (leb rfl)) (.tmp (v := .int .i64 (93 : Int)) rfl rfl) ?_
    exact ⟨_, ⟨by unfold verF refE; rw [hnone]; rfl, rfl⟩, (H5.weakR 1 rfl).pick' [] rfl rfl⟩
  · have c11p := of_decide_eq_false c11
    obtain ⟨q, y, rfl, hq, hy, hpy, _⟩ := hbv.some c11p
    have hpv : y.v = v := of_decide_eq_true hpy
    subst hpv
    have hat := hr.at hy
    refine skip_ ?_
    refine thn ?_
    refine seq_ ?_
    refine region_ ?_
    refine wl_valE (v := .pointer (some ⟨rb, 0, none⟩)) rfl (rf_move rfl) rfl ?_
    refine wl_valE (v := .pointer (some ⟨rb, 0, none⟩)) rfl (rf_nilCheckP rfl rfl) rfl ?_
    refine wl_valE (v := .pointer (some ⟨rb, 2, none⟩)) rfl (rf_fieldAddr Tryz.underlying50 rfl ti48 rfl rfl) rfl ?_
    refine wl_valE (v := .slice ya x.all.length yc) rfl (rf_load Tryz.underlying48 rfl rfl rfl ((H4.blkR 1 rfl).cell rfl)) rfl ?_
    refine wl_valE (v := .int .i64 ((q : Nat) : Int)) rfl (rf_move rfl) rfl ?_
    refine wl_valE (v := .pointer (some ⟨ab ya, ao ya + q * 8, none⟩)) rfl (rf_indexAddrH Tryz.underlying48 ti110 rfl rfl rfl rfl (by omega) (by omega) (H4.rdR 2 slH_rd)) rfl ?_
    refine wl_valE (v := .pointer (some ⟨ab ya, ao ya + q * 8 + 1, none⟩)) rfl (rf_fieldAddr Tryz.underlying110 rfl ti41 rfl rfl) rfl ?_
    refine wl_valE (v := .agg #[.int .i64 y.key.table, .int .i64 y.key.row]) rfl (rf_loadAgg (cs := [.int .i64 y.key.table, .int .i64 y.key.row]) Tryz.underlying41 rfl ti41 rfl rfl (el_sub' (rd_el (H4.rdR 2 slH_rd) hy) 1 2 rfl) rfl) rfl ?_
    refine wl_storeAggH H4 0 (o := 0) (cs := [.int .i64 y.key.table, .int .i64 y.key.row]) (A' := #[.int .i64 y.key.table, .int .i64 y.key.row]) rfl rfl ti41 rfl rfl rfl rfl rfl oneAll (leb rfl) rfl ?_
    intro w6 H6
    try dsimp only [putsH, setH, List.cons_append, List.nil_append] at H6
    refine wl_valE (v := .int .i64 (0 : Int)) rfl (rf_assign rfl) rfl ?_
    refine wl_nil ?_
    refine thn ?_
    refine ret_ ?_
    refine finV2 Tryz.results21 (RV.blk rfl Tryz.underlying41 rfl ti41 rfl (H6.blk 0 rfl) (leb rfl)) (.tmp (v := .int .i64 (0 : Int)) rfl rfl) ?_
    exact ⟨_, ⟨by rw [hat.1, hat.2.1]; rfl, rfl⟩, (H6.weakR 1 rfl).pick' [] rfl rfl⟩
theorem part9_tr (rb : Nat) (x : RS) (st : StS) (hr : Rel st x) (hal : x.all.length ≤ 65536) (k : Key) : Tr Tryz.prog 8 [.pointer (some ⟨rb, 0, none⟩), .agg #[.int .i64 k.table, .int .i64 k.row]] [rfH rb x] [] (fun v m => v = .int .i64 (partF st k) ∧ m = []) := by
  intro w0 S0 H0
  obtain ⟨⟨ya, yc⟩, -, H1⟩ := rfH.openR H0 0 rfl
  try dsimp only [List.cons_append, List.nil_append] at H1
  obtain ⟨np, hnp⟩ : ∃ np : Nat, x.parts = ((np : Nat) : Int) := ⟨x.parts.toNat, by have := hr.pp; omega⟩
  have hpp := hr.pp
  have hmn := Nat.mod_lt (hashF k) (show 0 < np by omega)
  refine enterR Tryz.func8 rfl Tryz.ntmps8 rfl ?_
  intro g0
  refine seq_ ?_
  refine region_ ?_
  refine wl_boxH H1 (v := .agg #[.int .i64 k.table, .int .i64 k.row]) rfl rfl ?_
  intro b2 w3 H3
  refine wl_valE (v := .int .i64 (0 : Int)) rfl (rf_assign rfl) rfl ?_
  refine wl_nil ?_
  refine thn ?_
  refine seq_ ?_
  refine seq_ ?_
  refine region_ ?_
  refine wl_valE (v := .agg #[.int .i64 k.table, .int .i64 k.row]) rfl (rf_loadBlk Tryz.underlying41 rfl ti41 rfl rfl (H3.blk 0 rfl) (leb rfl)) rfl ?_
  refine wl_tr H3 rfl [] (check2_tr k) rfl .nil (rf_call Tryz.call40 rfl rfl) rfl ?_
  rintro _ w4 _ ⟨rfl, rfl⟩ H4
  refine wl_valE (v := .bool (decide (checkF k ≠ (0 : Int)))) rfl (rf_neq rfl rfl rfl rfl) rfl ?_
  refine wl_nil ?_
  refine thn ?_
  refine cond_ (t := decide (checkF k ≠ (0 : Int))) rfl rfl (fun c7 => ?_) (fun c7 => ?_)
  · have c7p := of_decide_eq_true c7
    refine seq_ ?_
    refine region_ ?_
    refine wl_valE (v := .int .i64 (0 : Int)) rfl (rf_assign rfl) rfl ?_
    refine wl_nil ?_
    refine thn ?_
    refine ret_ ?_
    refine thr ?_
    refine fin1 (v := .int .i64 (0 : Int)) Tryz.results8 rfl rfl ?_
    exact ⟨_, ⟨by unfold partF; rw [hash_bad c7p]; simp, rfl⟩, (H4.weakR 1 rfl).pick' [] rfl rfl⟩
  · have c7p := of_decide_eq_false c7
    refine skip_ ?_
    refine thn ?_
    refine seq_ ?_
    refine region_q mixedP (by kernel_rfl) ?_
    refine qt_valE (v := .agg #[.int .i64 k.table, .int .i64 k.row]) rfl (fun wq hq => rf_loadBlk Tryz.underlying41 rfl ti41 rfl rfl ((H4.keep hq).blk 0 rfl) (leb rfl)) rfl ?_
    refine qt_ret (v := .int .u64 ((hashF k : Nat) : Int)) rfl (fun wq hq => ((hash2_tr k).quiet (H4.keep hq) .nil (by rintro _ _ ⟨rfl, rfl⟩; exact rfl)).mono (fun _ _ h => ⟨h.1, hq.trans h.2⟩)) (fun wq hq => rf_call Tryz.call41 rfl rfl) ?_
    refine qt_valE (v := .pointer (some ⟨rb, 0, none⟩)) rfl (fun wq hq => rf_move rfl) rfl ?_
    refine qt_valE (v := .pointer (some ⟨rb, 0, none⟩)) rfl (fun wq hq => rf_nilCheckP rfl rfl) rfl ?_
    refine qt_valE (v := .pointer (some ⟨rb, 0, none⟩)) rfl (fun wq hq => rf_fieldAddr Tryz.underlying50 rfl ti3 rfl rfl) rfl ?_
    refine qt_valE (v := .int .i64 x.parts) rfl (fun wq hq => rf_load Tryz.underlying3 rfl rfl rfl (((H4.keep hq).blkR 1 rfl).cell rfl)) rfl ?_
    refine qt_valE (v := .int .u64 ((np : Nat) : Int)) rfl (fun wq hq => rf_conv Tryz.underlying3 Tryz.underlying91 rfl rfl (by rw [hnp]; exact IntWalk.u64_in _ (by omega))) rfl ?_
    refine qt_valE (v := .int .u64 ((hashF k % np : Nat) : Int)) rfl (fun wq hq => rf_rem rfl rfl rfl rfl (by omega) (tmodN _ _)) rfl ?_
    refine qt_valE (v := .int .i64 ((hashF k % np : Nat) : Int)) rfl (fun wq hq => rf_conv Tryz.underlying91 Tryz.underlying3 rfl rfl (IntWalk.i64_in _ (by omega))) rfl ?_
    refine qt_valE (v := .int .i64 ((hashF k % np : Nat) : Int)) rfl (fun wq hq => rf_assign rfl) rfl ?_
    refine qt_nil ?_
    intro w5 hk5
    have H5 := H4.keep hk5
    refine thn ?_
    refine ret_ ?_
    refine fin1 (v := .int .i64 ((hashF k % np : Nat) : Int)) Tryz.results8 rfl rfl ?_
    exact ⟨_, ⟨by unfold partF; rw [hr.parts, hnp]; rfl, rfl⟩, (H5.weakR 1 rfl).pick' [] rfl rfl⟩
theorem new9_tr (m c : Int) (hm : 1 ≤ m ∧ m ≤ 256) (hc : 1 ≤ c ∧ c ≤ 65536) : Tr Tryz.prog 5 [.int .i64 m, .int .i64 c] [] [] (fun vv q => ∃ rb, vv = .tuple #[.pointer (some ⟨rb, 0, none⟩), .int .i64 0] ∧ q = [rfH rb ⟨m, c, [], 0⟩]) := by
  intro w0 S0 H0
  refine enterR Tryz.func5 rfl Tryz.ntmps5 rfl ?_
  intro g0
  refine seq_ ?_
  refine region_ ?_
  refine wl_valE (v := .pointer none) rfl (rf_assign rfl) rfl ?_
  refine wl_valE (v := .int .i64 (0 : Int)) rfl (rf_assign rfl) rfl ?_
  refine wl_nil ?_
  refine thn ?_
  refine seq_ ?_
  refine seq_ ?_
  refine region_ ?_
  refine wl_valE (v := .int .i64 m) rfl (rf_move rfl) rfl ?_
  refine wl_valE (v := .bool (decide (m < (1 : Int)))) rfl (rf_lss rfl rfl rfl rfl) rfl ?_
  refine wl_valE (v := .bool (decide (m < (1 : Int)))) rfl (rf_move rfl) rfl ?_
  refine wl_guardT rfl rfl rfl (decide_eq_false (by omega)) ?_
  refine wl_valE (v := .int .i64 m) rfl (rf_move rfl) rfl ?_
  refine wl_guardT rfl rfl rfl (decide_eq_false (by omega)) ?_
  refine wl_valE (v := .bool (decide ((256 : Int) < m))) rfl (rf_gtr rfl rfl rfl rfl) rfl ?_
  refine wl_valE (v := .bool (decide ((256 : Int) < m))) rfl (rf_pickF rfl rfl rfl (decide_eq_false (by omega))) rfl ?_
  refine wl_nil ?_
  refine thn ?_
  refine condF' rfl rfl (t := decide ((256 : Int) < m)) ((decide_eq_false (by omega))) ?_
  refine skip_ ?_
  refine thn ?_
  refine seq_ ?_
  refine seq_ ?_
  refine region_ ?_
  refine wl_valE (v := .int .i64 c) rfl (rf_move rfl) rfl ?_
  refine wl_valE (v := .bool (decide (c < (1 : Int)))) rfl (rf_lss rfl rfl rfl rfl) rfl ?_
  refine wl_valE (v := .bool (decide (c < (1 : Int)))) rfl (rf_move rfl) rfl ?_
  refine wl_guardT rfl rfl rfl (decide_eq_false (by omega)) ?_
  refine wl_valE (v := .int .i64 c) rfl (rf_move rfl) rfl ?_
  refine wl_guardT rfl rfl rfl (decide_eq_false (by omega)) ?_
  refine wl_valE (v := .bool (decide ((65536 : Int) < c))) rfl (rf_gtr rfl rfl rfl rfl) rfl ?_
  refine wl_valE (v := .bool (decide ((65536 : Int) < c))) rfl (rf_pickF rfl rfl rfl (decide_eq_false (by omega))) rfl ?_
  refine wl_nil ?_
  refine thn ?_
  refine condF' rfl rfl (t := decide ((65536 : Int) < c)) ((decide_eq_false (by omega))) ?_
  refine skip_ ?_
  refine thn ?_
  refine seq_ ?_
  refine region_ ?_
  refine wl_valE (v := .int .i64 m) rfl (rf_move rfl) rfl ?_
  refine wl_valE (v := .int .i64 c) rfl (rf_move rfl) rfl ?_
  refine wl_valE (v := .agg #[.int .i64 m, .int .i64 c, .slice none 0 0, .int .i64 (0 : Int)]) rfl (rf_build (offs := [(0, [.int .i64 m]), (1, [.int .i64 c])]) (places := #[(0, 1), (1, 1), (2, 1), (3, 1)]) Tryz.underlying50 ti50 (fun w => by kernel_rfl) (.cons rfl rfl rfl rfl rfl rfl (.cons rfl rfl rfl rfl rfl rfl .nil))) rfl ?_
  refine wl_boxH H0 (v := .agg #[.int .i64 m, .int .i64 c, .slice none 0 0, .int .i64 (0 : Int)]) rfl rfl ?_
  intro rb w2 H2
  refine wl_valE (v := .pointer (some ⟨rb, 0, none⟩)) rfl (rf_assign rfl) rfl ?_
  refine wl_valE (v := .int .i64 (0 : Int)) rfl (rf_assign rfl) rfl ?_
  refine wl_nil ?_
  refine thn ?_
  refine ret_ ?_
  refine fin2 (v1 := .pointer (some ⟨rb, 0, none⟩)) (v2 := .int .i64 (0 : Int)) Tryz.results5 rfl rfl rfl rfl ?_
  have HN := H2.addNil encEnt 8 110 (α := EntR)
  exact ⟨_, ⟨rb, rfl, rfl⟩, (rfH.close_ (rb := rb) (x := ⟨m, c, [], 0⟩) HN [0, 1] (none, 0) trivial rfl rfl).pick' [0] rfl rfl⟩
end Go.Proofs.YtojcddlpkfhodaaGreat.W
