import Derived.Test.YtojcddlpkfhodaaGreatQ5
import Derived.Test.YtojcddlpkfhodaaGreatN1
import Derived.KernelRfl
namespace Go.Proofs.YtojcddlpkfhodaaGreat.W
open Go Go.Wk
set_option linter.unusedVariables false
set_option linter.unusedSimpArgs false

def mkV (i j : Nat) : Ver := ⟨-1 - ((i : Nat) : Int), ((j : Nat) : Int), false, ⟨false, 0⟩⟩
def mkK (i j : Nat) : Key := ⟨-1 - ((i : Nat) : Int), ((j : Nat) : Int)⟩
def mrkV (i n : Nat) : List Ver := (List.range n).map (mkV i)
def mrkK (i n : Nat) : List Key := (List.range n).map (mkK i)
theorem mrkV_succ (i n : Nat) : mrkV i n ++ [mkV i n] = mrkV i (n + 1) := by unfold mrkV; rw [List.range_succ]; simp
theorem mrkK_succ (i n : Nat) : mrkK i n ++ [mkK i n] = mrkK i (n + 1) := by unfold mrkK; rw [List.range_succ]; simp
theorem mrkV_len (i n : Nat) : (mrkV i n).length = n := by simp [mrkV]
theorem mrkK_len (i n : Nat) : (mrkK i n).length = n := by simp [mrkK]
theorem mrkV_set {i j : Nat} {l : List Ver} (hj : j < l.length) : (mrkV i j ++ l.drop j).set j (mkV i j) = mrkV i (j + 1) ++ l.drop (j + 1) := by
  rw [List.set_append_right _ _ (by rw [mrkV_len]; exact Nat.le_refl _), mrkV_len, Nat.sub_self, List.drop_eq_getElem_cons hj, List.set_cons_zero, ← mrkV_succ]; simp
theorem mrkK_set {i j : Nat} {l : List Key} (hj : j < l.length) : (mrkK i j ++ l.drop j).set j (mkK i j) = mrkK i (j + 1) ++ l.drop (j + 1) := by
  rw [List.set_append_right _ _ (by rw [mrkK_len]; exact Nat.le_refl _), mrkK_len, Nat.sub_self, List.drop_eq_getElem_cons hj, List.set_cons_zero, ← mrkK_succ]; simp
theorem mrkV_at {i n j : Nat} {z : Ver} (h : (mrkV i n)[j]? = some z) : z = mkV i j := by
  unfold mrkV at h
  rw [List.getElem?_map, List.getElem?_range (by have := (List.getElem?_eq_some_iff.1 (show ((List.range n).map (mkV i))[j]? = some z by rw [List.getElem?_map]; exact h)).1; simpa using this)] at h
  simpa using h.symm
theorem mrkK_at {i n j : Nat} {z : Key} (h : (mrkK i n)[j]? = some z) : z = mkK i j := by
  unfold mrkK at h
  rw [List.getElem?_map, List.getElem?_range (by have := (List.getElem?_eq_some_iff.1 (show ((List.range n).map (mkK i))[j]? = some z by rw [List.getElem?_map]; exact h)).1; simpa using this)] at h
  simpa using h.symm
structure Bk where
  s1 : Sv
  h1 : List Sv
  l1 : List (List Ver)
  s2 : Sv
  h2 : List Sv
  l2 : List (List Key)
  s3 : Sv
  h3 : List Sv
  l3 : List (List Ver)
  s4 : Sv
  h4 : List Sv
structure BkOk (y : Bk) (N : Nat) : Prop where
  e1 : y.h1.length = y.l1.length
  e2 : y.h2.length = y.l2.length
  e3 : y.h3.length = y.l3.length
  e4 : y.h4.length = y.l3.length
  m1 : ∀ i l, y.l1[i]? = some l → ∃ n, l = mrkV i n
  m2 : ∀ i l, y.l2[i]? = some l → ∃ n, l = mrkK i n
  b1 : y.h1.length ≤ N
  b2 : y.h2.length ≤ N
  b3 : y.h3.length ≤ N
structure OpR where
  kind : Int
  key : Key
  batch : Int
  index : Int
  v : Int
  n : Int
  cell : Cell
  two : Bool
def encOpR (o : OpR) : List Value := [.int .i64 o.kind, .int .i64 o.key.table, .int .i64 o.key.row, .int .i64 o.batch, .int .i64 o.index, .int .i64 o.v, .int .i64 o.n, .bool o.cell.is_, .int .i64 o.cell.value, .bool o.two]
theorem BkOk.chain {y : Bk} {N : Nat} (h : BkOk y N) (s1 s3 s4 t1 t3 t4 : Sv) (m : Nat) (l2 : List Ver) : BkOk ⟨s1, y.h1 ++ [t1], y.l1 ++ [mrkV y.h1.length m], y.s2, y.h2, y.l2, s3, y.h3 ++ [t3], y.l3 ++ [l2], s4, y.h4 ++ [t4]⟩ (N + 1) := by
  refine ⟨by simp [h.e1], h.e2, by simp [h.e3], by simp [h.e4], fun i l hl => ?_, h.m2, by simp; exact h.b1, Nat.le_succ_of_le h.b2, by simp; exact h.b3⟩
  rw [List.getElem?_append] at hl
  split at hl
  · exact h.m1 i l hl
  · rename_i hi
    have hb := (List.getElem?_eq_some_iff.1 hl).1
    simp only [List.length_cons, List.length_nil] at hb
    have e : i = y.h1.length := by rw [h.e1]; omega
    rw [show i - y.l1.length = 0 from by omega] at hl
    cases hl
    rw [e]; exact ⟨m, rfl⟩
theorem BkOk.set {y : Bk} {N : Nat} (h : BkOk y N) (s2 t2 : Sv) (m : Nat) : BkOk ⟨y.s1, y.h1, y.l1, s2, y.h2 ++ [t2], y.l2 ++ [mrkK y.h2.length m], y.s3, y.h3, y.l3, y.s4, y.h4⟩ (N + 1) := by
  refine ⟨h.e1, by simp [h.e2], h.e3, h.e4, h.m1, fun i l hl => ?_, Nat.le_succ_of_le h.b1, by simp; exact h.b2, Nat.le_succ_of_le h.b3⟩
  rw [List.getElem?_append] at hl
  split at hl
  · exact h.m2 i l hl
  · rename_i hi
    have hb := (List.getElem?_eq_some_iff.1 hl).1
    simp only [List.length_cons, List.length_nil] at hb
    have e : i = y.h2.length := by rw [h.e2]; omega
    rw [show i - y.l2.length = 0 from by omega] at hl
    cases hl
    rw [e]; exact ⟨m, rfl⟩
theorem encOpR_len (o : OpR) : (encOpR o).length = 10 := rfl
theorem encOpR_one (o : OpR) : ∀ u ∈ encOpR o, u.oneCell' = true := oneAll
def bookH (kb N : Nat) : HP := repH (fun (y : Bk) => BkOk y N) fun y => [blkH kb #[.slice y.s1.a y.h1.length y.s1.c, .slice y.s2.a y.h2.length y.s2.c, .slice y.s3.a y.h3.length y.s3.c, .slice y.s4.a y.h4.length y.s4.c] 39, slH encSv 1 81 y.s1.a y.h1.length y.s1.c y.h1, slH encSv 1 85 y.s2.a y.h2.length y.s2.c y.h2, slH encSv 1 81 y.s3.a y.h3.length y.s3.c y.h3, slH encSv 1 81 y.s4.a y.h4.length y.s4.c y.h4, ssH encVer 5 71 y.h1 y.l1, ssH encKey 2 41 y.h2 y.l2, ssH encVer 5 71 y.h3 y.l3, ssH encVer 5 71 y.h4 y.l3]
theorem bookH.open_ {w0 w : World} {S0 : Nat → Prop} {R L : List HP} {kb N : Nat} (H : St w0 S0 R w L) (k : Nat) (hA : getH L k = bookH kb N) (hlt : hasH L k = true) : ∃ y : Bk, (BkOk y N) ∧ St w0 S0 R w (putsH L [k] [blkH kb #[.slice y.s1.a y.h1.length y.s1.c, .slice y.s2.a y.h2.length y.s2.c, .slice y.s3.a y.h3.length y.s3.c, .slice y.s4.a y.h4.length y.s4.c] 39, slH encSv 1 81 y.s1.a y.h1.length y.s1.c y.h1, slH encSv 1 85 y.s2.a y.h2.length y.s2.c y.h2, slH encSv 1 81 y.s3.a y.h3.length y.s3.c y.h3, slH encSv 1 81 y.s4.a y.h4.length y.s4.c y.h4, ssH encVer 5 71 y.h1 y.l1, ssH encKey 2 41 y.h2 y.l2, ssH encVer 5 71 y.h3 y.l3, ssH encVer 5 71 y.h4 y.l3]) := H.open_ k hA hlt
theorem bookH.openR {w0 w : World} {S0 : Nat → Prop} {R L : List HP} {kb N : Nat} (H : St w0 S0 R w L) (k : Nat) (hA : getH R k = bookH kb N) : ∃ y : Bk, (BkOk y N) ∧ St w0 S0 (R ++ [blkH kb #[.slice y.s1.a y.h1.length y.s1.c, .slice y.s2.a y.h2.length y.s2.c, .slice y.s3.a y.h3.length y.s3.c, .slice y.s4.a y.h4.length y.s4.c] 39, slH encSv 1 81 y.s1.a y.h1.length y.s1.c y.h1, slH encSv 1 85 y.s2.a y.h2.length y.s2.c y.h2, slH encSv 1 81 y.s3.a y.h3.length y.s3.c y.h3, slH encSv 1 81 y.s4.a y.h4.length y.s4.c y.h4, ssH encVer 5 71 y.h1 y.l1, ssH encKey 2 41 y.h2 y.l2, ssH encVer 5 71 y.h3 y.l3, ssH encVer 5 71 y.h4 y.l3]) w L := H.openR k hA
theorem bookH.close_ {w0 w : World} {S0 : Nat → Prop} {R L : List HP} {kb N : Nat} (H : St w0 S0 R w L) (is : List Nat) (y : Bk) (hx : BkOk y N) (hM : pickH L is = [blkH kb #[.slice y.s1.a y.h1.length y.s1.c, .slice y.s2.a y.h2.length y.s2.c, .slice y.s3.a y.h3.length y.s3.c, .slice y.s4.a y.h4.length y.s4.c] 39, slH encSv 1 81 y.s1.a y.h1.length y.s1.c y.h1, slH encSv 1 85 y.s2.a y.h2.length y.s2.c y.h2, slH encSv 1 81 y.s3.a y.h3.length y.s3.c y.h3, slH encSv 1 81 y.s4.a y.h4.length y.s4.c y.h4, ssH encVer 5 71 y.h1 y.l1, ssH encKey 2 41 y.h2 y.l2, ssH encVer 5 71 y.h3 y.l3, ssH encVer 5 71 y.h4 y.l3]) (hi : okI L is = true) : St w0 S0 R w (putsH L is [bookH kb N]) := H.close_ is y hx hM hi
theorem bookH_le {kb N M : Nat} (h : N ≤ M) : Le (bookH kb N) (bookH kb M) := repH_le fun y hy => ⟨hy.e1, hy.e2, hy.e3, hy.e4, hy.m1, hy.m2, Nat.le_trans hy.b1 h, Nat.le_trans hy.b2 h, Nat.le_trans hy.b3 h⟩
attribute [irreducible] bookH
theorem sameV_tr (a : Option Addr) (n c : Nat) (a2 : Option Addr) (n2 c2 : Nat) (l : List Ver) (hn : n ≤ 9223372036854775807) (hn2 : n2 = n) : Tr Tryz.prog 30 [.slice a n c, .slice a2 n2 c2] [rdH encVer 5 a n c l, rdH encVer 5 a2 n2 c2 l] [] (fun v m => v = .bool true ∧ m = []) := by
  intro w0 S0 H0
  refine enterR Tryz.func30 rfl Tryz.ntmps30 rfl ?_
  intro g0
  refine seq_ ?_
  refine region_ ?_
  refine wl_valE (v := .bool false) rfl (rf_assign rfl) rfl ?_
  refine wl_nil ?_
  refine thn ?_
  refine seq_ ?_
  refine seq_ ?_
  refine region_ ?_
  refine wl_valE (v := .slice a n c) rfl (rf_move rfl) rfl ?_
  refine wl_valE (v := .int .i64 ((n : Nat) : Int)) rfl (rf_len_slice Tryz.underlying81 rfl rfl) rfl ?_
  refine wl_valE (v := .slice a2 n2 c2) rfl (rf_move rfl) rfl ?_
  refine wl_valE (v := .int .i64 ((n2 : Nat) : Int)) rfl (rf_len_slice Tryz.underlying81 rfl rfl) rfl ?_
  refine wl_valE (v := .bool false) rfl (rf_neq rfl rfl rfl rfl) (congrArg Value.bool (decide_eq_false (by omega))) ?_
  refine wl_nil ?_
  refine thn ?_
  refine condF rfl rfl ?_
  refine skip_ ?_
  refine thn ?_
  refine seq_ ?_
  refine seq_ ?_
  refine region_ ?_
  refine wl_valE (v := .int .i64 (0 : Int)) rfl (rf_assign rfl) rfl ?_
  refine wl_nil ?_
  refine thn ?_
  refine block_ ?_
  refine loop_ (fun qk_ qf_ qw_ => ∃ (g : Nat → Value) (i : Nat), qf_ = upds g [(0, .slice a n c), (1, .slice a2 n2 c2), (5, .int .i64 ((i : Nat) : Int))] ∧ qk_ = n - i ∧ (i ≤ n) ∧ St w0 S0 [rdH encVer 5 a n c l, rdH encVer 5 a2 n2 c2 l] qw_ []) (n - 0) ?_ ?_
  · refine ⟨_, 0, upds_self ⟨rfl, rfl, rfl, trivial⟩, rfl, Nat.zero_le _, H0.pick' [] rfl rfl⟩
  · rintro lk0 _ wl0 ⟨gl0, i, rfl, hlk0, hi, HL0⟩
    refine seq_ ?_
    refine seq_ ?_
    refine region_ ?_
    refine wl_valE (v := .int .i64 ((i : Nat) : Int)) rfl (rf_move rfl) rfl ?_
    refine wl_valE (v := .slice a n c) rfl (rf_move rfl) rfl ?_
    refine wl_valE (v := .int .i64 ((n : Nat) : Int)) rfl (rf_len_slice Tryz.underlying81 rfl rfl) rfl ?_
    refine wl_valE (v := .bool (decide (((i : Nat) : Int) < ((n : Nat) : Int)))) rfl (rf_lss rfl rfl rfl rfl) rfl ?_
    refine wl_nil ?_
    refine thn ?_
    refine cond_ (t := decide (((i : Nat) : Int) < ((n : Nat) : Int))) rfl rfl (fun c14 => ?_) (fun c14 => ?_)
    · have c14p := of_decide_eq_true c14
      refine skip_ ?_
      refine thn ?_
      refine seq_ ?_
      refine block_ ?_
      refine seq_ ?_
      have hn1 := rd_len (HL0.rdR 0 Le.rfl)
      obtain ⟨x, hx⟩ : ∃ q_, l[i]? = some q_ := ⟨_, List.getElem?_eq_getElem (by omega)⟩
      refine region_q mixedP (by kernel_rfl) ?_
      refine qt_valE (v := .slice a n c) rfl (fun wq hq => rf_move rfl) rfl ?_
      refine qt_valE (v := .int .i64 ((i : Nat) : Int)) rfl (fun wq hq => rf_move rfl) rfl ?_
      refine qt_valE (v := .pointer (some ⟨ab a, ao a + i * 5, none⟩)) rfl (fun wq hq => rf_indexAddrH Tryz.underlying81 ti71 rfl rfl rfl rfl (by omega) (by omega) ((HL0.keep hq).rdR 0 Le.rfl)) rfl ?_
      refine qt_valE (v := .agg #[.int .i64 x.batch, .int .i64 x.index, .bool x.filled, .bool x.cell.is_, .int .i64 x.cell.value]) rfl (fun wq hq => rf_loadAgg (cs := [.int .i64 x.batch, .int .i64 x.index, .bool x.filled, .bool x.cell.is_, .int .i64 x.cell.value]) Tryz.underlying71 rfl ti71 rfl rfl (el_sub' (rd_el ((HL0.keep hq).rdR 0 Le.rfl) hx) 0 5 rfl) rfl) rfl ?_
      refine qt_valE (v := .slice a2 n2 c2) rfl (fun wq hq => rf_move rfl) rfl ?_
      refine qt_valE (v := .int .i64 ((i : Nat) : Int)) rfl (fun wq hq => rf_move rfl) rfl ?_
      refine qt_valE (v := .pointer (some ⟨ab a2, ao a2 + i * 5, none⟩)) rfl (fun wq hq => rf_indexAddrH Tryz.underlying81 ti71 rfl rfl rfl rfl (by omega) (by omega) ((HL0.keep hq).rdR 1 Le.rfl)) rfl ?_
      refine qt_valE (v := .agg #[.int .i64 x.batch, .int .i64 x.index, .bool x.filled, .bool x.cell.is_, .int .i64 x.cell.value]) rfl (fun wq hq => rf_loadAgg (cs := [.int .i64 x.batch, .int .i64 x.index, .bool x.filled, .bool x.cell.is_, .int .i64 x.cell.value]) Tryz.underlying71 rfl ti71 rfl rfl (el_sub' (rd_el ((HL0.keep hq).rdR 1 Le.rfl) hx) 0 5 rfl) rfl) rfl ?_
      refine qt_valE (v := .bool false) rfl (fun wq hq => rf_neqS (by kernel_rfl) (eqVer x x _) rfl rfl rfl rfl) (congrArg Value.bool (by simp)) ?_
      refine qt_nil ?_
      intro w2 hk2
      have H2 := HL0.keep hk2
      refine thn ?_
      refine condF rfl rfl ?_
      refine skip_ ?_
      refine bln ?_
      refine thn ?_
      refine region_ ?_
      refine wl_valE (v := .int .i64 ((i : Nat) : Int)) rfl (rf_move rfl) rfl ?_
      refine wl_valE (v := .int .i64 ((i + 1 : Nat) : Int)) rfl (rf_add rfl rfl rfl rfl (IntWalk.i64_in _ (by omega))) rfl ?_
      refine wl_valE (v := .int .i64 ((i + 1 : Nat) : Int)) rfl (rf_assign rfl) rfl ?_
      refine wl_nil ?_
      refine thn ?_
      refine ⟨n - (i + 1), _, rfl, (by omega), _, i + 1, upds_self ⟨rfl, rfl, rfl, trivial⟩, rfl, by omega, H2.pick' [] rfl rfl⟩
    · have c14p := of_decide_eq_false c14
      refine exit_ ?_
      refine thx (thx (blx ?_))
      refine thn ?_
      refine seq_ ?_
      refine region_ ?_
      refine wl_valE (v := .bool true) rfl (rf_assign rfl) rfl ?_
      refine wl_nil ?_
      refine thn ?_
      refine ret_ ?_
      refine fin1 (v := .bool true) Tryz.results30 rfl rfl ?_
      exact ⟨_, ⟨rfl, rfl⟩, HL0.pick' [] rfl rfl⟩
theorem sameK_tr (a : Option Addr) (n c : Nat) (a2 : Option Addr) (n2 c2 : Nat) (l : List Key) (hn : n ≤ 9223372036854775807) (hn2 : n2 = n) : Tr Tryz.prog 34 [.slice a n c, .slice a2 n2 c2] [rdH encKey 2 a n c l, rdH encKey 2 a2 n2 c2 l] [] (fun v m => v = .bool true ∧ m = []) := by
  intro w0 S0 H0
  refine enterR Tryz.func34 rfl Tryz.ntmps34 rfl ?_
  intro g0
  refine seq_ ?_
  refine region_ ?_
  refine wl_valE (v := .bool false) rfl (rf_assign rfl) rfl ?_
  refine wl_nil ?_
  refine thn ?_
  refine seq_ ?_
  refine seq_ ?_
  refine region_ ?_
  refine wl_valE (v := .slice a n c) rfl (rf_move rfl) rfl ?_
  refine wl_valE (v := .int .i64 ((n : Nat) : Int)) rfl (rf_len_slice Tryz.underlying85 rfl rfl) rfl ?_
  refine wl_valE (v := .slice a2 n2 c2) rfl (rf_move rfl) rfl ?_
  refine wl_valE (v := .int .i64 ((n2 : Nat) : Int)) rfl (rf_len_slice Tryz.underlying85 rfl rfl) rfl ?_
  refine wl_valE (v := .bool false) rfl (rf_neq rfl rfl rfl rfl) (congrArg Value.bool (decide_eq_false (by omega))) ?_
  refine wl_nil ?_
  refine thn ?_
  refine condF rfl rfl ?_
  refine skip_ ?_
  refine thn ?_
  refine seq_ ?_
  refine seq_ ?_
  refine region_ ?_
  refine wl_valE (v := .int .i64 (0 : Int)) rfl (rf_assign rfl) rfl ?_
  refine wl_nil ?_
  refine thn ?_
  refine block_ ?_
  refine loop_ (fun qk_ qf_ qw_ => ∃ (g : Nat → Value) (i : Nat), qf_ = upds g [(0, .slice a n c), (1, .slice a2 n2 c2), (5, .int .i64 ((i : Nat) : Int))] ∧ qk_ = n - i ∧ (i ≤ n) ∧ St w0 S0 [rdH encKey 2 a n c l, rdH encKey 2 a2 n2 c2 l] qw_ []) (n - 0) ?_ ?_
  · refine ⟨_, 0, upds_self ⟨rfl, rfl, rfl, trivial⟩, rfl, Nat.zero_le _, H0.pick' [] rfl rfl⟩
  · rintro lk0 _ wl0 ⟨gl0, i, rfl, hlk0, hi, HL0⟩
    refine seq_ ?_
    refine seq_ ?_
    refine region_ ?_
    refine wl_valE (v := .int .i64 ((i : Nat) : Int)) rfl (rf_move rfl) rfl ?_
    refine wl_valE (v := .slice a n c) rfl (rf_move rfl) rfl ?_
    refine wl_valE (v := .int .i64 ((n : Nat) : Int)) rfl (rf_len_slice Tryz.underlying85 rfl rfl) rfl ?_
    refine wl_valE (v := .bool (decide (((i : Nat) : Int) < ((n : Nat) : Int)))) rfl (rf_lss rfl rfl rfl rfl) rfl ?_
    refine wl_nil ?_
    refine thn ?_
    refine cond_ (t := decide (((i : Nat) : Int) < ((n : Nat) : Int))) rfl rfl (fun c14 => ?_) (fun c14 => ?_)
    · have c14p := of_decide_eq_true c14
      refine skip_ ?_
      refine thn ?_
      refine seq_ ?_
      refine block_ ?_
      refine seq_ ?_
      have hn1 := rd_len (HL0.rdR 0 Le.rfl)
      obtain ⟨x, hx⟩ : ∃ q_, l[i]? = some q_ := ⟨_, List.getElem?_eq_getElem (by omega)⟩
      refine region_q mixedP (by kernel_rfl) ?_
      refine qt_valE (v := .slice a n c) rfl (fun wq hq => rf_move rfl) rfl ?_
      refine qt_valE (v := .int .i64 ((i : Nat) : Int)) rfl (fun wq hq => rf_move rfl) rfl ?_
      refine qt_valE (v := .pointer (some ⟨ab a, ao a + i * 2, none⟩)) rfl (fun wq hq => rf_indexAddrH Tryz.underlying85 ti41 rfl rfl rfl rfl (by omega) (by omega) ((HL0.keep hq).rdR 0 Le.rfl)) rfl ?_
      refine qt_valE (v := .agg #[.int .i64 x.table, .int .i64 x.row]) rfl (fun wq hq => rf_loadAgg (cs := [.int .i64 x.table, .int .i64 x.row]) Tryz.underlying41 rfl ti41 rfl rfl (el_sub' (rd_el ((HL0.keep hq).rdR 0 Le.rfl) hx) 0 2 rfl) rfl) rfl ?_
      refine qt_valE (v := .slice a2 n2 c2) rfl (fun wq hq => rf_move rfl) rfl ?_
      refine qt_valE (v := .int .i64 ((i : Nat) : Int)) rfl (fun wq hq => rf_move rfl) rfl ?_
      refine qt_valE (v := .pointer (some ⟨ab a2, ao a2 + i * 2, none⟩)) rfl (fun wq hq => rf_indexAddrH Tryz.underlying85 ti41 rfl rfl rfl rfl (by omega) (by omega) ((HL0.keep hq).rdR 1 Le.rfl)) rfl ?_
      refine qt_valE (v := .agg #[.int .i64 x.table, .int .i64 x.row]) rfl (fun wq hq => rf_loadAgg (cs := [.int .i64 x.table, .int .i64 x.row]) Tryz.underlying41 rfl ti41 rfl rfl (el_sub' (rd_el ((HL0.keep hq).rdR 1 Le.rfl) hx) 0 2 rfl) rfl) rfl ?_
      refine qt_valE (v := .bool false) rfl (fun wq hq => rf_neqS (by kernel_rfl) (eqKey x x _) rfl rfl rfl rfl) (congrArg Value.bool (by simp)) ?_
      refine qt_nil ?_
      intro w2 hk2
      have H2 := HL0.keep hk2
      refine thn ?_
      refine condF rfl rfl ?_
      refine skip_ ?_
      refine bln ?_
      refine thn ?_
      refine region_ ?_
      refine wl_valE (v := .int .i64 ((i : Nat) : Int)) rfl (rf_move rfl) rfl ?_
      refine wl_valE (v := .int .i64 ((i + 1 : Nat) : Int)) rfl (rf_add rfl rfl rfl rfl (IntWalk.i64_in _ (by omega))) rfl ?_
      refine wl_valE (v := .int .i64 ((i + 1 : Nat) : Int)) rfl (rf_assign rfl) rfl ?_
      refine wl_nil ?_
      refine thn ?_
      refine ⟨n - (i + 1), _, rfl, (by omega), _, i + 1, upds_self ⟨rfl, rfl, rfl, trivial⟩, rfl, by omega, H2.pick' [] rfl rfl⟩
    · have c14p := of_decide_eq_false c14
      refine exit_ ?_
      refine thx (thx (blx ?_))
      refine thn ?_
      refine seq_ ?_
      refine region_ ?_
      refine wl_valE (v := .bool true) rfl (rf_assign rfl) rfl ?_
      refine wl_nil ?_
      refine thn ?_
      refine ret_ ?_
      refine fin1 (v := .bool true) Tryz.results34 rfl rfl ?_
      exact ⟨_, ⟨rfl, rfl⟩, HL0.pick' [] rfl rfl⟩
set_option maxRecDepth 100000 in
theorem whole_tr (kb N : Nat) (hN : N ≤ 1073741824) : Tr Tryz.prog 9 [.pointer (some ⟨kb, 0, none⟩)] [bookH kb N] [] (fun v m => v = .bool true ∧ m = []) := by
  intro w0 S0 H0
  obtain ⟨y, hy, H1⟩ := bookH.openR H0 0 rfl
  try dsimp only [List.cons_append, List.nil_append] at H1
  have hb1 := hy.b1
  have hb2 := hy.b2
  have hb3 := hy.b3
  have he3 := hy.e3
  have he4 := hy.e4
  refine enterR Tryz.func9 rfl Tryz.ntmps9 rfl ?_
  intro g0
  refine seq_ ?_
  refine region_ ?_
  refine wl_valE (v := .bool false) rfl (rf_assign rfl) rfl ?_
  refine wl_nil ?_
  refine thn ?_
  refine seq_ ?_
  refine seq_ ?_
  refine region_ ?_
  refine wl_valE (v := .int .i64 (0 : Int)) rfl (rf_assign rfl) rfl ?_
  refine wl_nil ?_
  refine thn ?_
  refine block_ ?_
  refine loop_ (fun qk_ qf_ qw_ => ∃ (g : Nat → Value) (i : Nat), qf_ = upds g [(0, .pointer (some ⟨kb, 0, none⟩)), (3, .int .i64 ((i : Nat) : Int))] ∧ qk_ = y.h1.length - i ∧ (i ≤ y.h1.length) ∧ St w0 S0 [bookH kb N, blkH kb #[.slice y.s1.a y.h1.length y.s1.c, .slice y.s2.a y.h2.length y.s2.c, .slice y.s3.a y.h3.length y.s3.c, .slice y.s4.a y.h4.length y.s4.c] 39, slH encSv 1 81 y.s1.a y.h1.length y.s1.c y.h1, slH encSv 1 85 y.s2.a y.h2.length y.s2.c y.h2, slH encSv 1 81 y.s3.a y.h3.length y.s3.c y.h3, slH encSv 1 81 y.s4.a y.h4.length y.s4.c y.h4, ssH encVer 5 71 y.h1 y.l1, ssH encKey 2 41 y.h2 y.l2, ssH encVer 5 71 y.h3 y.l3, ssH encVer 5 71 y.h4 y.l3] qw_ []) (y.h1.length - 0) ?_ ?_
  · refine ⟨_, 0, upds_self ⟨rfl, rfl, trivial⟩, rfl, Nat.zero_le _, H1.pick' [] rfl rfl⟩
  · rintro lk0 _ wl0 ⟨gl0, i, rfl, hlk0, hi, HL0⟩
    refine seq_ ?_
    refine seq_ ?_
    refine region_ ?_
    refine wl_valE (v := .int .i64 ((i : Nat) : Int)) rfl (rf_move rfl) rfl ?_
    refine wl_valE (v := .pointer (some ⟨kb, 0, none⟩)) rfl (rf_move rfl) rfl ?_
    refine wl_valE (v := .pointer (some ⟨kb, 0, none⟩)) rfl (rf_nilCheckP rfl rfl) rfl ?_
    refine wl_valE (v := .pointer (some ⟨kb, 0, none⟩)) rfl (rf_fieldAddr Tryz.underlying39 rfl ti36 rfl rfl) rfl ?_
    refine wl_valE (v := .slice y.s1.a y.h1.length y.s1.c) rfl (rf_load Tryz.underlying36 rfl rfl rfl ((HL0.blkR 1 rfl).cell rfl)) rfl ?_
    refine wl_valE (v := .int .i64 ((y.h1.length : Nat) : Int)) rfl (rf_len_slice Tryz.underlying36 rfl rfl) rfl ?_
    refine wl_valE (v := .bool (decide (((i : Nat) : Int) < ((y.h1.length : Nat) : Int)))) rfl (rf_lss rfl rfl rfl rfl) rfl ?_
    refine wl_nil ?_
    refine thn ?_
    refine cond_ (t := decide (((i : Nat) : Int) < ((y.h1.length : Nat) : Int))) rfl rfl (fun c14 => ?_) (fun c14 => ?_)
    · have c14p := of_decide_eq_true c14
      refine skip_ ?_
      refine thn ?_
      refine seq_ ?_
      refine block_ ?_
      refine seq_ ?_
      have hn2 := rd_len (HL0.rdR 2 slH_rd)
      obtain ⟨s, hs⟩ : ∃ q_, y.h1[i]? = some q_ := ⟨_, List.getElem?_eq_getElem (by omega)⟩
      obtain ⟨l, hl⟩ : ∃ l, y.l1[i]? = some l := ⟨_, List.getElem?_eq_getElem (by have := hy.e1; have := (List.getElem?_eq_some_iff.1 hs).1; omega)⟩
      have H3 := HL0.ssR 6 i rfl hs hl
      try dsimp only [List.cons_append, List.nil_append] at H3
      have hsn := slHR_len H3 10 rfl
      refine region_ ?_
      refine wl_valE (v := .int .i64 (0 : Int)) rfl (rf_assign rfl) rfl ?_
      refine wl_nil ?_
      refine thn ?_
      refine block_ ?_
      refine loop_ (fun qk_ qf_ qw_ => ∃ (g : Nat → Value) (j : Nat), qf_ = upds g [(0, .pointer (some ⟨kb, 0, none⟩)), (3, .int .i64 ((i : Nat) : Int)), (4, .int .i64 ((j : Nat) : Int))] ∧ qk_ = s.n - j ∧ (j ≤ s.n) ∧ St w0 S0 [bookH kb N, blkH kb #[.slice y.s1.a y.h1.length y.s1.c, .slice y.s2.a y.h2.length y.s2.c, .slice y.s3.a y.h3.length y.s3.c, .slice y.s4.a y.h4.length y.s4.c] 39, slH encSv 1 81 y.s1.a y.h1.length y.s1.c y.h1, slH encSv 1 85 y.s2.a y.h2.length y.s2.c y.h2, slH encSv 1 81 y.s3.a y.h3.length y.s3.c y.h3, slH encSv 1 81 y.s4.a y.h4.length y.s4.c y.h4, ssH encVer 5 71 y.h1 y.l1, ssH encKey 2 41 y.h2 y.l2, ssH encVer 5 71 y.h3 y.l3, ssH encVer 5 71 y.h4 y.l3, slH encVer 5 71 s.a s.n s.c l] qw_ []) (s.n - 0) ?_ ?_
      · refine ⟨_, 0, upds_self ⟨rfl, rfl, rfl, trivial⟩, rfl, Nat.zero_le _, H3.pick' [] rfl rfl⟩
      · rintro lk1 _ wl1 ⟨gl1, j, rfl, hlk1, hj, HL1⟩
        refine seq_ ?_
        refine seq_ ?_
        refine region_ ?_
        refine wl_valE (v := .int .i64 ((j : Nat) : Int)) rfl (rf_move rfl) rfl ?_
        refine wl_valE (v := .pointer (some ⟨kb, 0, none⟩)) rfl (rf_move rfl) rfl ?_
        refine wl_valE (v := .pointer (some ⟨kb, 0, none⟩)) rfl (rf_nilCheckP rfl rfl) rfl ?_
        refine wl_valE (v := .pointer (some ⟨kb, 0, none⟩)) rfl (rf_fieldAddr Tryz.underlying39 rfl ti36 rfl rfl) rfl ?_
        refine wl_valE (v := .slice y.s1.a y.h1.length y.s1.c) rfl (rf_load Tryz.underlying36 rfl rfl rfl ((HL1.blkR 1 rfl).cell rfl)) rfl ?_
        refine wl_valE (v := .int .i64 ((i : Nat) : Int)) rfl (rf_move rfl) rfl ?_
        refine wl_valE (v := .pointer (some ⟨ab y.s1.a, ao y.s1.a + i * 1, none⟩)) rfl (rf_indexAddrH Tryz.underlying36 ti81 rfl rfl rfl rfl (by omega) (by omega) (HL1.rdR 2 slH_rd)) rfl ?_
        refine wl_valE (v := .slice s.a s.n s.c) rfl (rf_load Tryz.underlying81 rfl rfl rfl (rd_el (HL1.rdR 2 slH_rd) hs 0 _ rfl)) rfl ?_
        refine wl_valE (v := .int .i64 ((s.n : Nat) : Int)) rfl (rf_len_slice Tryz.underlying81 rfl rfl) rfl ?_
        refine wl_valE (v := .bool (decide (((j : Nat) : Int) < ((s.n : Nat) : Int)))) rfl (rf_lss rfl rfl rfl rfl) rfl ?_
        refine wl_nil ?_
        refine thn ?_
        refine cond_ (t := decide (((j : Nat) : Int) < ((s.n : Nat) : Int))) rfl rfl (fun c26 => ?_) (fun c26 => ?_)
        · have c26p := of_decide_eq_true c26
          refine skip_ ?_
          refine thn ?_
          refine seq_ ?_
          refine block_ ?_
          refine seq_ ?_
          have hn4 := rd_len (HL1.rdR 10 slH_rd)
          obtain ⟨z, hz⟩ : ∃ q_, l[j]? = some q_ := ⟨_, List.getElem?_eq_getElem (by omega)⟩
          obtain ⟨mn, rfl⟩ := hy.m1 i l hl
          have hzm := mrkV_at hz
          refine region_ ?_
          refine wl_valE (v := .pointer (some ⟨kb, 0, none⟩)) rfl (rf_move rfl) rfl ?_
          refine wl_valE (v := .pointer (some ⟨kb, 0, none⟩)) rfl (rf_nilCheckP rfl rfl) rfl ?_
          refine wl_valE (v := .pointer (some ⟨kb, 0, none⟩)) rfl (rf_fieldAddr Tryz.underlying39 rfl ti36 rfl rfl) rfl ?_
          refine wl_valE (v := .slice y.s1.a y.h1.length y.s1.c) rfl (rf_load Tryz.underlying36 rfl rfl rfl ((HL1.blkR 1 rfl).cell rfl)) rfl ?_
          refine wl_valE (v := .int .i64 ((i : Nat) : Int)) rfl (rf_move rfl) rfl ?_
          refine wl_valE (v := .pointer (some ⟨ab y.s1.a, ao y.s1.a + i * 1, none⟩)) rfl (rf_indexAddrH Tryz.underlying36 ti81 rfl rfl rfl rfl (by omega) (by omega) (HL1.rdR 2 slH_rd)) rfl ?_
          refine wl_valE (v := .slice s.a s.n s.c) rfl (rf_load Tryz.underlying81 rfl rfl rfl (rd_el (HL1.rdR 2 slH_rd) hs 0 _ rfl)) rfl ?_
          refine wl_valE (v := .int .i64 ((j : Nat) : Int)) rfl (rf_move rfl) rfl ?_
          refine wl_valE (v := .pointer (some ⟨ab s.a, ao s.a + j * 5, none⟩)) rfl (rf_indexAddrH Tryz.underlying81 ti71 rfl rfl rfl rfl (by omega) (by omega) (HL1.rdR 10 slH_rd)) rfl ?_
          refine wl_valE (v := .agg #[.int .i64 z.batch, .int .i64 z.index, .bool z.filled, .bool z.cell.is_, .int .i64 z.cell.value]) rfl (rf_loadAgg (cs := [.int .i64 z.batch, .int .i64 z.index, .bool z.filled, .bool z.cell.is_, .int .i64 z.cell.value]) Tryz.underlying71 rfl ti71 rfl rfl (el_sub' (rd_el (HL1.rdR 10 slH_rd) hz) 0 5 rfl) rfl) rfl ?_
          refine wl_valE (v := .int .i64 ((i : Nat) : Int)) rfl (rf_move rfl) rfl ?_
          refine wl_valE (v := .int .i64 ((-1 : Int) - ((i : Nat) : Int))) rfl (rf_sub rfl rfl rfl rfl (IntWalk.i64_in _ (by omega))) rfl ?_
          refine wl_valE (v := .int .i64 ((j : Nat) : Int)) rfl (rf_move rfl) rfl ?_
          refine wl_valE (v := .agg #[.int .i64 ((-1 : Int) - ((i : Nat) : Int)), .int .i64 ((j : Nat) : Int), .bool false, .bool false, .int .i64 (0 : Int)]) rfl (rf_build (offs := [(0, [.int .i64 ((-1 : Int) - ((i : Nat) : Int))]), (1, [.int .i64 ((j : Nat) : Int)])]) (places := #[(0, 1), (1, 1), (2, 1), (3, 2)]) Tryz.underlying71 ti71 (fun w => by kernel_rfl) (.cons rfl rfl rfl rfl rfl rfl (.cons rfl rfl rfl rfl rfl rfl .nil))) rfl ?_
          refine wl_valE (v := .bool false) rfl (rf_neqS (by kernel_rfl) (eqVer z (⟨((-1 : Int) - ((i : Nat) : Int)), ((j : Nat) : Int), false, ⟨false, (0 : Int)⟩⟩ : Ver) _) rfl rfl rfl rfl) (congrArg Value.bool (by rw [hzm]; simp [mkV])) ?_
          refine wl_nil ?_
          refine thn ?_
          refine condF rfl rfl ?_
          refine skip_ ?_
          refine bln ?_
          refine thn ?_
          refine region_ ?_
          refine wl_valE (v := .int .i64 ((j : Nat) : Int)) rfl (rf_move rfl) rfl ?_
          refine wl_valE (v := .int .i64 ((j + 1 : Nat) : Int)) rfl (rf_add rfl rfl rfl rfl (IntWalk.i64_in _ (by omega))) rfl ?_
          refine wl_valE (v := .int .i64 ((j + 1 : Nat) : Int)) rfl (rf_assign rfl) rfl ?_
          refine wl_nil ?_
          refine thn ?_
          refine ⟨s.n - (j + 1), _, rfl, (by omega), _, j + 1, upds_self ⟨rfl, rfl, rfl, trivial⟩, rfl, by omega, HL1.pick' [] rfl rfl⟩
        · have c26p := of_decide_eq_false c26
          refine exit_ ?_
          refine thx (thx (blx ?_))
          refine bln ?_
          refine thn ?_
          refine region_ ?_
          refine wl_valE (v := .int .i64 ((i : Nat) : Int)) rfl (rf_move rfl) rfl ?_
          refine wl_valE (v := .int .i64 ((i + 1 : Nat) : Int)) rfl (rf_add rfl rfl rfl rfl (IntWalk.i64_in _ (by omega))) rfl ?_
          refine wl_valE (v := .int .i64 ((i + 1 : Nat) : Int)) rfl (rf_assign rfl) rfl ?_
          refine wl_nil ?_
          refine thn ?_
          refine ⟨y.h1.length - (i + 1), _, rfl, (by omega), _, i + 1, upds_self ⟨rfl, rfl, trivial⟩, rfl, by omega, (HL1.weakR 10 rfl).pick' [] rfl rfl⟩
    · have c14p := of_decide_eq_false c14
      refine exit_ ?_
      refine thx (thx (blx ?_))
      refine thn ?_
      refine seq_ ?_
      refine seq_ ?_
      refine region_ ?_
      refine wl_valE (v := .int .i64 (0 : Int)) rfl (rf_assign rfl) rfl ?_
      refine wl_nil ?_
      refine thn ?_
      refine block_ ?_
      refine loop_ (fun qk_ qf_ qw_ => ∃ (g : Nat → Value) (i : Nat), qf_ = upds g [(0, .pointer (some ⟨kb, 0, none⟩)), (5, .int .i64 ((i : Nat) : Int))] ∧ qk_ = y.h2.length - i ∧ (i ≤ y.h2.length) ∧ St w0 S0 [bookH kb N, blkH kb #[.slice y.s1.a y.h1.length y.s1.c, .slice y.s2.a y.h2.length y.s2.c, .slice y.s3.a y.h3.length y.s3.c, .slice y.s4.a y.h4.length y.s4.c] 39, slH encSv 1 81 y.s1.a y.h1.length y.s1.c y.h1, slH encSv 1 85 y.s2.a y.h2.length y.s2.c y.h2, slH encSv 1 81 y.s3.a y.h3.length y.s3.c y.h3, slH encSv 1 81 y.s4.a y.h4.length y.s4.c y.h4, ssH encVer 5 71 y.h1 y.l1, ssH encKey 2 41 y.h2 y.l2, ssH encVer 5 71 y.h3 y.l3, ssH encVer 5 71 y.h4 y.l3] qw_ []) (y.h2.length - 0) ?_ ?_
      · refine ⟨_, 0, upds_self ⟨rfl, rfl, trivial⟩, rfl, Nat.zero_le _, HL0.pick' [] rfl rfl⟩
      · rintro lk2 _ wl2 ⟨gl2, i, rfl, hlk2, hi, HL2⟩
        refine seq_ ?_
        refine seq_ ?_
        refine region_ ?_
        refine wl_valE (v := .int .i64 ((i : Nat) : Int)) rfl (rf_move rfl) rfl ?_
        refine wl_valE (v := .pointer (some ⟨kb, 0, none⟩)) rfl (rf_move rfl) rfl ?_
        refine wl_valE (v := .pointer (some ⟨kb, 0, none⟩)) rfl (rf_nilCheckP rfl rfl) rfl ?_
        refine wl_valE (v := .pointer (some ⟨kb, 1, none⟩)) rfl (rf_fieldAddr Tryz.underlying39 rfl ti37 rfl rfl) rfl ?_
        refine wl_valE (v := .slice y.s2.a y.h2.length y.s2.c) rfl (rf_load Tryz.underlying37 rfl rfl rfl ((HL2.blkR 1 rfl).cell rfl)) rfl ?_
        refine wl_valE (v := .int .i64 ((y.h2.length : Nat) : Int)) rfl (rf_len_slice Tryz.underlying37 rfl rfl) rfl ?_
        refine wl_valE (v := .bool (decide (((i : Nat) : Int) < ((y.h2.length : Nat) : Int)))) rfl (rf_lss rfl rfl rfl rfl) rfl ?_
        refine wl_nil ?_
        refine thn ?_
        refine cond_ (t := decide (((i : Nat) : Int) < ((y.h2.length : Nat) : Int))) rfl rfl (fun c50 => ?_) (fun c50 => ?_)
        · have c50p := of_decide_eq_true c50
          refine skip_ ?_
          refine thn ?_
          refine seq_ ?_
          refine block_ ?_
          refine seq_ ?_
          have hn5 := rd_len (HL2.rdR 3 slH_rd)
          obtain ⟨s, hs⟩ : ∃ q_, y.h2[i]? = some q_ := ⟨_, List.getElem?_eq_getElem (by omega)⟩
          obtain ⟨l, hl⟩ : ∃ l, y.l2[i]? = some l := ⟨_, List.getElem?_eq_getElem (by have := hy.e2; have := (List.getElem?_eq_some_iff.1 hs).1; omega)⟩
          have H6 := HL2.ssR 7 i rfl hs hl
          try dsimp only [List.cons_append, List.nil_append] at H6
          have hsn := slHR_len H6 10 rfl
          refine region_ ?_
          refine wl_valE (v := .int .i64 (0 : Int)) rfl (rf_assign rfl) rfl ?_
          refine wl_nil ?_
          refine thn ?_
          refine block_ ?_
          refine loop_ (fun qk_ qf_ qw_ => ∃ (g : Nat → Value) (j : Nat), qf_ = upds g [(0, .pointer (some ⟨kb, 0, none⟩)), (5, .int .i64 ((i : Nat) : Int)), (6, .int .i64 ((j : Nat) : Int))] ∧ qk_ = s.n - j ∧ (j ≤ s.n) ∧ St w0 S0 [bookH kb N, blkH kb #[.slice y.s1.a y.h1.length y.s1.c, .slice y.s2.a y.h2.length y.s2.c, .slice y.s3.a y.h3.length y.s3.c, .slice y.s4.a y.h4.length y.s4.c] 39, slH encSv 1 81 y.s1.a y.h1.length y.s1.c y.h1, slH encSv 1 85 y.s2.a y.h2.length y.s2.c y.h2, slH encSv 1 81 y.s3.a y.h3.length y.s3.c y.h3, slH encSv 1 81 y.s4.a y.h4.length y.s4.c y.h4, ssH encVer 5 71 y.h1 y.l1, ssH encKey 2 41 y.h2 y.l2, ssH encVer 5 71 y.h3 y.l3, ssH encVer 5 71 y.h4 y.l3, slH encKey 2 41 s.a s.n s.c l] qw_ []) (s.n - 0) ?_ ?_
          · refine ⟨_, 0, upds_self ⟨rfl, rfl, rfl, trivial⟩, rfl, Nat.zero_le _, H6.pick' [] rfl rfl⟩
          · rintro lk3 _ wl3 ⟨gl3, j, rfl, hlk3, hj, HL3⟩
            refine seq_ ?_
            refine seq_ ?_
            refine region_ ?_
            refine wl_valE (v := .int .i64 ((j : Nat) : Int)) rfl (rf_move rfl) rfl ?_
            refine wl_valE (v := .pointer (some ⟨kb, 0, none⟩)) rfl (rf_move rfl) rfl ?_
            refine wl_valE (v := .pointer (some ⟨kb, 0, none⟩)) rfl (rf_nilCheckP rfl rfl) rfl ?_
            refine wl_valE (v := .pointer (some ⟨kb, 1, none⟩)) rfl (rf_fieldAddr Tryz.underlying39 rfl ti37 rfl rfl) rfl ?_
            refine wl_valE (v := .slice y.s2.a y.h2.length y.s2.c) rfl (rf_load Tryz.underlying37 rfl rfl rfl ((HL3.blkR 1 rfl).cell rfl)) rfl ?_
            refine wl_valE (v := .int .i64 ((i : Nat) : Int)) rfl (rf_move rfl) rfl ?_
            refine wl_valE (v := .pointer (some ⟨ab y.s2.a, ao y.s2.a + i * 1, none⟩)) rfl (rf_indexAddrH Tryz.underlying37 ti85 rfl rfl rfl rfl (by omega) (by omega) (HL3.rdR 3 slH_rd)) rfl ?_
            refine wl_valE (v := .slice s.a s.n s.c) rfl (rf_load Tryz.underlying85 rfl rfl rfl (rd_el (HL3.rdR 3 slH_rd) hs 0 _ rfl)) rfl ?_
            refine wl_valE (v := .int .i64 ((s.n : Nat) : Int)) rfl (rf_len_slice Tryz.underlying85 rfl rfl) rfl ?_
            refine wl_valE (v := .bool (decide (((j : Nat) : Int) < ((s.n : Nat) : Int)))) rfl (rf_lss rfl rfl rfl rfl) rfl ?_
            refine wl_nil ?_
            refine thn ?_
            refine cond_ (t := decide (((j : Nat) : Int) < ((s.n : Nat) : Int))) rfl rfl (fun c62 => ?_) (fun c62 => ?_)
            · have c62p := of_decide_eq_true c62
              refine skip_ ?_
              refine thn ?_
              refine seq_ ?_
              refine block_ ?_
              refine seq_ ?_
              have hn7 := rd_len (HL3.rdR 10 slH_rd)
              obtain ⟨z, hz⟩ : ∃ q_, l[j]? = some q_ := ⟨_, List.getElem?_eq_getElem (by omega)⟩
              obtain ⟨mn, rfl⟩ := hy.m2 i l hl
              have hzm := mrkK_at hz
              refine region_ ?_
              refine wl_valE (v := .pointer (some ⟨kb, 0, none⟩)) rfl (rf_move rfl) rfl ?_
              refine wl_valE (v := .pointer (some ⟨kb, 0, none⟩)) rfl (rf_nilCheckP rfl rfl) rfl ?_
              refine wl_valE (v := .pointer (some ⟨kb, 1, none⟩)) rfl (rf_fieldAddr Tryz.underlying39 rfl ti37 rfl rfl) rfl ?_
              refine wl_valE (v := .slice y.s2.a y.h2.length y.s2.c) rfl (rf_load Tryz.underlying37 rfl rfl rfl ((HL3.blkR 1 rfl).cell rfl)) rfl ?_
              refine wl_valE (v := .int .i64 ((i : Nat) : Int)) rfl (rf_move rfl) rfl ?_
              refine wl_valE (v := .pointer (some ⟨ab y.s2.a, ao y.s2.a + i * 1, none⟩)) rfl (rf_indexAddrH Tryz.underlying37 ti85 rfl rfl rfl rfl (by omega) (by omega) (HL3.rdR 3 slH_rd)) rfl ?_
              refine wl_valE (v := .slice s.a s.n s.c) rfl (rf_load Tryz.underlying85 rfl rfl rfl (rd_el (HL3.rdR 3 slH_rd) hs 0 _ rfl)) rfl ?_
              refine wl_valE (v := .int .i64 ((j : Nat) : Int)) rfl (rf_move rfl) rfl ?_
              refine wl_valE (v := .pointer (some ⟨ab s.a, ao s.a + j * 2, none⟩)) rfl (rf_indexAddrH Tryz.underlying85 ti41 rfl rfl rfl rfl (by omega) (by omega) (HL3.rdR 10 slH_rd)) rfl ?_
              refine wl_valE (v := .agg #[.int .i64 z.table, .int .i64 z.row]) rfl (rf_loadAgg (cs := [.int .i64 z.table, .int .i64 z.row]) Tryz.underlying41 rfl ti41 rfl rfl (el_sub' (rd_el (HL3.rdR 10 slH_rd) hz) 0 2 rfl) rfl) rfl ?_
              refine wl_valE (v := .int .i64 ((i : Nat) : Int)) rfl (rf_move rfl) rfl ?_
              refine wl_valE (v := .int .i64 ((-1 : Int) - ((i : Nat) : Int))) rfl (rf_sub rfl rfl rfl rfl (IntWalk.i64_in _ (by omega))) rfl ?_
              refine wl_valE (v := .int .i64 ((j : Nat) : Int)) rfl (rf_move rfl) rfl ?_
              refine wl_valE (v := .agg #[.int .i64 ((-1 : Int) - ((i : Nat) : Int)), .int .i64 ((j : Nat) : Int)]) rfl (rf_build (offs := [(0, [.int .i64 ((-1 : Int) - ((i : Nat) : Int))]), (1, [.int .i64 ((j : Nat) : Int)])]) (places := #[(0, 1), (1, 1)]) Tryz.underlying41 ti41 (fun w => by kernel_rfl) (.cons rfl rfl rfl rfl rfl rfl (.cons rfl rfl rfl rfl rfl rfl .nil))) rfl ?_
              refine wl_valE (v := .bool false) rfl (rf_neqS (by kernel_rfl) (eqKey z (⟨((-1 : Int) - ((i : Nat) : Int)), ((j : Nat) : Int)⟩ : Key) _) rfl rfl rfl rfl) (congrArg Value.bool (by rw [hzm]; simp [mkK])) ?_
              refine wl_nil ?_
              refine thn ?_
              refine condF rfl rfl ?_
              refine skip_ ?_
              refine bln ?_
              refine thn ?_
              refine region_ ?_
              refine wl_valE (v := .int .i64 ((j : Nat) : Int)) rfl (rf_move rfl) rfl ?_
              refine wl_valE (v := .int .i64 ((j + 1 : Nat) : Int)) rfl (rf_add rfl rfl rfl rfl (IntWalk.i64_in _ (by omega))) rfl ?_
              refine wl_valE (v := .int .i64 ((j + 1 : Nat) : Int)) rfl (rf_assign rfl) rfl ?_
              refine wl_nil ?_
              refine thn ?_
              refine ⟨s.n - (j + 1), _, rfl, (by omega), _, j + 1, upds_self ⟨rfl, rfl, rfl, trivial⟩, rfl, by omega, HL3.pick' [] rfl rfl⟩
            · have c62p := of_decide_eq_false c62
              refine exit_ ?_
              refine thx (thx (blx ?_))
              refine bln ?_
              refine thn ?_
              refine region_ ?_
              refine wl_valE (v := .int .i64 ((i : Nat) : Int)) rfl (rf_move rfl) rfl ?_
              refine wl_valE (v := .int .i64 ((i + 1 : Nat) : Int)) rfl (rf_add rfl rfl rfl rfl (IntWalk.i64_in _ (by omega))) rfl ?_
              refine wl_valE (v := .int .i64 ((i + 1 : Nat) : Int)) rfl (rf_assign rfl) rfl ?_
              refine wl_nil ?_
              refine thn ?_
              refine ⟨y.h2.length - (i + 1), _, rfl, (by omega), _, i + 1, upds_self ⟨rfl, rfl, trivial⟩, rfl, by omega, (HL3.weakR 10 rfl).pick' [] rfl rfl⟩
        · have c50p := of_decide_eq_false c50
          refine exit_ ?_
          refine thx (thx (blx ?_))
          refine thn ?_
          refine seq_ ?_
          refine seq_ ?_
          refine region_ ?_
          refine wl_valE (v := .int .i64 (0 : Int)) rfl (rf_assign rfl) rfl ?_
          refine wl_nil ?_
          refine thn ?_
          refine block_ ?_
          refine loop_ (fun qk_ qf_ qw_ => ∃ (g : Nat → Value) (i : Nat), qf_ = upds g [(0, .pointer (some ⟨kb, 0, none⟩)), (7, .int .i64 ((i : Nat) : Int))] ∧ qk_ = y.h3.length - i ∧ (i ≤ y.h3.length) ∧ St w0 S0 [bookH kb N, blkH kb #[.slice y.s1.a y.h1.length y.s1.c, .slice y.s2.a y.h2.length y.s2.c, .slice y.s3.a y.h3.length y.s3.c, .slice y.s4.a y.h4.length y.s4.c] 39, slH encSv 1 81 y.s1.a y.h1.length y.s1.c y.h1, slH encSv 1 85 y.s2.a y.h2.length y.s2.c y.h2, slH encSv 1 81 y.s3.a y.h3.length y.s3.c y.h3, slH encSv 1 81 y.s4.a y.h4.length y.s4.c y.h4, ssH encVer 5 71 y.h1 y.l1, ssH encKey 2 41 y.h2 y.l2, ssH encVer 5 71 y.h3 y.l3, ssH encVer 5 71 y.h4 y.l3] qw_ []) (y.h3.length - 0) ?_ ?_
          · refine ⟨_, 0, upds_self ⟨rfl, rfl, trivial⟩, rfl, Nat.zero_le _, HL2.pick' [] rfl rfl⟩
          · rintro lk4 _ wl4 ⟨gl4, i, rfl, hlk4, hi, HL4⟩
            refine seq_ ?_
            refine seq_ ?_
            refine region_ ?_
            refine wl_valE (v := .int .i64 ((i : Nat) : Int)) rfl (rf_move rfl) rfl ?_
            refine wl_valE (v := .pointer (some ⟨kb, 0, none⟩)) rfl (rf_move rfl) rfl ?_
            refine wl_valE (v := .pointer (some ⟨kb, 0, none⟩)) rfl (rf_nilCheckP rfl rfl) rfl ?_
            refine wl_valE (v := .pointer (some ⟨kb, 2, none⟩)) rfl (rf_fieldAddr Tryz.underlying39 rfl ti36 rfl rfl) rfl ?_
            refine wl_valE (v := .slice y.s3.a y.h3.length y.s3.c) rfl (rf_load Tryz.underlying36 rfl rfl rfl ((HL4.blkR 1 rfl).cell rfl)) rfl ?_
            refine wl_valE (v := .int .i64 ((y.h3.length : Nat) : Int)) rfl (rf_len_slice Tryz.underlying36 rfl rfl) rfl ?_
            refine wl_valE (v := .bool (decide (((i : Nat) : Int) < ((y.h3.length : Nat) : Int)))) rfl (rf_lss rfl rfl rfl rfl) rfl ?_
            refine wl_nil ?_
            refine thn ?_
            refine cond_ (t := decide (((i : Nat) : Int) < ((y.h3.length : Nat) : Int))) rfl rfl (fun c86 => ?_) (fun c86 => ?_)
            · have c86p := of_decide_eq_true c86
              refine skip_ ?_
              refine thn ?_
              refine seq_ ?_
              refine block_ ?_
              refine seq_ ?_
              have hn8 := rd_len (HL4.rdR 4 slH_rd)
              obtain ⟨s, hs⟩ : ∃ q_, y.h3[i]? = some q_ := ⟨_, List.getElem?_eq_getElem (by omega)⟩
              have hn9 := rd_len (HL4.rdR 5 slH_rd)
              obtain ⟨s2, hs2⟩ : ∃ q_, y.h4[i]? = some q_ := ⟨_, List.getElem?_eq_getElem (by omega)⟩
              obtain ⟨l, hl⟩ : ∃ l, y.l3[i]? = some l := ⟨_, List.getElem?_eq_getElem (by omega)⟩
              have H10 := HL4.ssR 8 i rfl hs hl
              try dsimp only [List.cons_append, List.nil_append] at H10
              have H11 := H10.ssR 9 i rfl hs2 hl
              try dsimp only [List.cons_append, List.nil_append] at H11
              try dsimp only [putsH, setH, List.cons_append, List.nil_append] at H11
              have hsn := slHR_len H11 10 rfl
              have hsn2 := slHR_len H11 11 rfl
              refine region_q mixedP (by kernel_rfl) ?_
              refine qt_valE (v := .pointer (some ⟨kb, 0, none⟩)) rfl (fun wq hq => rf_move rfl) rfl ?_
              refine qt_valE (v := .pointer (some ⟨kb, 0, none⟩)) rfl (fun wq hq => rf_nilCheckP rfl rfl) rfl ?_
              refine qt_valE (v := .pointer (some ⟨kb, 2, none⟩)) rfl (fun wq hq => rf_fieldAddr Tryz.underlying39 rfl ti36 rfl rfl) rfl ?_
              refine qt_valE (v := .slice y.s3.a y.h3.length y.s3.c) rfl (fun wq hq => rf_load Tryz.underlying36 rfl rfl rfl (((H11.keep hq).blkR 1 rfl).cell rfl)) rfl ?_
              refine qt_valE (v := .int .i64 ((i : Nat) : Int)) rfl (fun wq hq => rf_move rfl) rfl ?_
              refine qt_valE (v := .pointer (some ⟨ab y.s3.a, ao y.s3.a + i * 1, none⟩)) rfl (fun wq hq => rf_indexAddrH Tryz.underlying36 ti81 rfl rfl rfl rfl (by omega) (by omega) ((H11.keep hq).rdR 4 slH_rd)) rfl ?_
              refine qt_valE (v := .slice s.a s.n s.c) rfl (fun wq hq => rf_load Tryz.underlying81 rfl rfl rfl (rd_el ((H11.keep hq).rdR 4 slH_rd) hs 0 _ rfl)) rfl ?_
              refine qt_valE (v := .pointer (some ⟨kb, 0, none⟩)) rfl (fun wq hq => rf_move rfl) rfl ?_
              refine qt_valE (v := .pointer (some ⟨kb, 0, none⟩)) rfl (fun wq hq => rf_nilCheckP rfl rfl) rfl ?_
              refine qt_valE (v := .pointer (some ⟨kb, 3, none⟩)) rfl (fun wq hq => rf_fieldAddr Tryz.underlying39 rfl ti36 rfl rfl) rfl ?_
              refine qt_valE (v := .slice y.s4.a y.h4.length y.s4.c) rfl (fun wq hq => rf_load Tryz.underlying36 rfl rfl rfl (((H11.keep hq).blkR 1 rfl).cell rfl)) rfl ?_
              refine qt_valE (v := .int .i64 ((i : Nat) : Int)) rfl (fun wq hq => rf_move rfl) rfl ?_
              refine qt_valE (v := .pointer (some ⟨ab y.s4.a, ao y.s4.a + i * 1, none⟩)) rfl (fun wq hq => rf_indexAddrH Tryz.underlying36 ti81 rfl rfl rfl rfl (by omega) (by omega) ((H11.keep hq).rdR 5 slH_rd)) rfl ?_
              refine qt_valE (v := .slice s2.a s2.n s2.c) rfl (fun wq hq => rf_load Tryz.underlying81 rfl rfl rfl (rd_el ((H11.keep hq).rdR 5 slH_rd) hs2 0 _ rfl)) rfl ?_
              refine qt_ret (v := .bool true) rfl (fun wq hq => ((sameV_tr s.a s.n s.c s2.a s2.n s2.c l (by omega) (by omega)).quiet (H11.keep hq) (.ro 10 slH_rd (.ro 11 slH_rd .nil)) (by rintro _ _ ⟨rfl, rfl⟩; exact rfl)).mono (fun _ _ h => ⟨h.1, hq.trans h.2⟩)) (fun wq hq => rf_call Tryz.call30 rfl rfl) ?_
              refine qt_valE (v := .bool false) rfl (fun wq hq => rf_not rfl rfl) rfl ?_
              refine qt_nil ?_
              intro w12 hk12
              have H12 := H11.keep hk12
              refine thn ?_
              refine condF rfl rfl ?_
              refine skip_ ?_
              refine bln ?_
              refine thn ?_
              refine region_ ?_
              refine wl_valE (v := .int .i64 ((i : Nat) : Int)) rfl (rf_move rfl) rfl ?_
              refine wl_valE (v := .int .i64 ((i + 1 : Nat) : Int)) rfl (rf_add rfl rfl rfl rfl (IntWalk.i64_in _ (by omega))) rfl ?_
              refine wl_valE (v := .int .i64 ((i + 1 : Nat) : Int)) rfl (rf_assign rfl) rfl ?_
              refine wl_nil ?_
              refine thn ?_
              refine ⟨y.h3.length - (i + 1), _, rfl, (by omega), _, i + 1, upds_self ⟨rfl, rfl, trivial⟩, rfl, by omega, (H12.weakR 10 rfl).pick' [] rfl rfl⟩
            · have c86p := of_decide_eq_false c86
              refine exit_ ?_
              refine thx (thx (blx ?_))
              refine thn ?_
              refine seq_ ?_
              refine region_ ?_
              refine wl_valE (v := .bool true) rfl (rf_assign rfl) rfl ?_
              refine wl_nil ?_
              refine thn ?_
              refine ret_ ?_
              refine fin1 (v := .bool true) Tryz.results9 rfl rfl ?_
              exact ⟨_, ⟨rfl, rfl⟩, (HL4.weakR 1 rfl).pick' [] rfl rfl⟩
end Go.Proofs.YtojcddlpkfhodaaGreat.W
