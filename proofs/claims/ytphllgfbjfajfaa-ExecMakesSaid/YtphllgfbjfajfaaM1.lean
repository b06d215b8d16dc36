import Derived.Test.YtphllgfbjfajfaaG4
import Derived.KernelRfl
namespace Go.Proofs.Ytphllgfbjfajfaa.W
open Go Go.Wk
set_option linter.unusedVariables false
set_option linter.unusedSimpArgs false

def encOM (x : Option Nat) : List Value := [.map x]
theorem encOM_len (x : Option Nat) : (encOM x).length = 1 := rfl
theorem encOM_one (x : Option Nat) : ∀ u ∈ encOM x, u.oneCell' = true := oneAll
def GoodS (m c : Int) : Prop := (1 ≤ m ∧ m ≤ 256) ∧ (1 ≤ c ∧ c ≤ 65536)
def GoodW (m c : Int) : Prop := (1 ≤ m ∧ m ≤ 64) ∧ (1 ≤ c ∧ c ≤ 16)
def nerr (m : Int) : Int := if 1 ≤ m ∧ m ≤ 256 then 91 else 21
def werr (m : Int) : Int := if 1 ≤ m ∧ m ≤ 64 then 111 else 110
def herr (lib : List ProcR) (h : Int) : Int := if errL lib ≠ 0 then errL lib else if 1 ≤ h ∧ h ≤ 64 then 0 else 120
def sameP (x y : ProcR) : Prop := x.name = y.name ∧ x.prog.args = y.prog.args ∧ x.prog.reads = y.prog.reads ∧ x.prog.writes = y.prog.writes ∧ x.prog.locals = y.prog.locals ∧ x.prog.code.n = y.prog.code.n ∧ x.prog.cl = y.prog.cl
theorem ver_same {x y : ProcR} (h : sameP x y) : verE x.prog = verE y.prog := by
  obtain ⟨_, h1, h2, h3, h4, h5, h6⟩ := h
  have hi : ∀ i z, insE x.prog i z = insE y.prog i z := fun i z => by unfold insE argE mostF; rw [h1, h2, h3, h4, h5]
  have hf : ∀ (l : List InsR) (i : Nat), firstE x.prog i l = firstE y.prog i l := fun l => by
    induction l with
    | nil => intro i; rfl
    | cons z l ih => intro i; unfold firstE; rw [hi, ih]
  have hs : sizeP x.prog = sizeP y.prog := by unfold sizeP; rw [h1, h2, h3, h4, h5]
  unfold verE
  rw [h6, hf, h5]
  by_cases c : sizeP y.prog
  · rw [if_pos c, if_pos (hs ▸ c)]
  · rw [if_neg c, if_neg (hs ▸ c)]
theorem chk_same : ∀ {l m : List ProcR} {seen : List ByteArray}, l.length = m.length → (∀ (j : Nat) x y, l[j]? = some x → m[j]? = some y → sameP x y) → chkE l seen = chkE m seen
  | [], [], _, _, _ => rfl
  | x :: l, y :: m, seen, hl, h => by
    have h0 := h 0 x y rfl rfl
    have ih := fun s => chk_same (l := l) (m := m) (seen := s) (Nat.succ.inj hl) (fun j a b ha hb => h (j + 1) a b (by simpa using ha) (by simpa using hb))
    unfold chkE
    rw [ver_same h0, h0.1, ih]
theorem errL_same {l m : List ProcR} (hl : l.length = m.length) (h : ∀ (j : Nat) x y, l[j]? = some x → m[j]? = some y → sameP x y) : errL l = errL m := by unfold errL; rw [hl, chk_same hl h]
def mkCo (x : ProcR) : HP := slH encIns 2 87 x.prog.code.a x.prog.code.n x.prog.code.c x.prog.cl
def mkA (x : ProcR) : HP := repH (fun _ : List InsR => True) fun l => [slH encIns 2 87 x.prog.code.a x.prog.code.n x.prog.code.c l]
theorem cod_le {own : List ProcR} : Le (allH (own.map mkCo)) (shH (own.map mkC)) := allH_sh.trans (sh_mono fun _ _ => slH_rd)
theorem mkA_le (x : ProcR) : Le (mkCo x) (mkA x) := rep1_mk (φ := fun _ : List InsR => True) (B := fun l => slH encIns 2 87 x.prog.code.a x.prog.code.n x.prog.code.c l) x.prog.cl trivial
theorem codA_le {own : List ProcR} : Le (allH (own.map mkCo)) (allH (own.map mkA)) := all_mono fun x _ => mkA_le x
theorem mkA.open_ {w0 w : World} {S0 : Nat → Prop} {R L : List HP} {x : ProcR} (H : St w0 S0 R w L) (k : Nat) (hA : getH L k = mkA x) (hlt : hasH L k = true) : ∃ l : List InsR, True ∧ St w0 S0 R w (putsH L [k] [slH encIns 2 87 x.prog.code.a x.prog.code.n x.prog.code.c l]) := H.open_ k hA hlt
theorem mkA.close_ {w0 w : World} {S0 : Nat → Prop} {R L : List HP} {x : ProcR} (H : St w0 S0 R w L) (is : List Nat) (l : List InsR) (hM : pickH L is = [slH encIns 2 87 x.prog.code.a x.prog.code.n x.prog.code.c l]) (hi : okI L is = true) : St w0 S0 R w (putsH L is [mkA x]) := H.close_ is l trivial hM hi
attribute [irreducible] mkA
theorem dnew_tr (m : Int) (hm : 1 ≤ m ∧ m ≤ 256) : Tr Try.prog 15 [.int .i64 m, .func (.func 16) #[] #[]] [] [] (fun v q => ∃ b, v = .tuple #[.pointer (some ⟨b, 0, none⟩), .int .i64 0] ∧ q = []) := by
  intro w0 S0 H0
  obtain ⟨n, rfl⟩ : ∃ n : Nat, m = (n : Int) := ⟨m.toNat, by omega⟩
  refine enterR Try.func15 rfl Try.ntmps15 rfl ?_
  intro g0
  refine seq_ ?_
  refine region_ ?_
  refine wl_valE (v := .pointer none) rfl (rf_assign rfl) rfl ?_
  refine wl_valE (v := .int .i64 (0 : Int)) rfl (rf_assign rfl) rfl ?_
  refine wl_nil ?_
  refine thn ?_
  refine seq_ ?_
  refine seq_ ?_
  refine region_ ?_
  refine wl_valE (v := .int .i64 ((n : Nat) : Int)) rfl (rf_move rfl) rfl ?_
  refine wl_valE (v := .bool (decide (((n : Nat) : Int) < (1 : Int)))) rfl (rf_lss rfl rfl rfl rfl) rfl ?_
  refine wl_valE (v := .bool (decide (((n : Nat) : Int) < (1 : Int)))) rfl (rf_move rfl) rfl ?_
  refine wl_guardT rfl rfl rfl (decide_eq_false (by omega)) ?_
  refine wl_valE (v := .int .i64 ((n : Nat) : Int)) rfl (rf_move rfl) rfl ?_
  refine wl_guardT rfl rfl rfl (decide_eq_false (by omega)) ?_
  refine wl_valE (v := .bool (decide ((256 : Int) < ((n : Nat) : Int)))) rfl (rf_gtr rfl rfl rfl rfl) rfl ?_
  refine wl_valE (v := .bool (decide ((256 : Int) < ((n : Nat) : Int)))) rfl (rf_pickF rfl rfl rfl (decide_eq_false (by omega))) rfl ?_
  refine wl_nil ?_
  refine thn ?_
  refine condF' rfl rfl (t := decide ((256 : Int) < ((n : Nat) : Int))) ((decide_eq_false (by omega))) ?_
  refine skip_ ?_
  refine thn ?_
  refine seq_ ?_
  refine seq_ ?_
  refine region_ ?_
  refine wl_valE (v := .func (.func 16) #[] #[]) rfl (rf_move rfl) rfl ?_
  refine wl_valE (v := .bool false) rfl (rf_eqlFN Try.underlying66 ⟨_, _, _, rfl⟩ rfl rfl rfl rfl) rfl ?_
  refine wl_nil ?_
  refine thn ?_
  refine condF rfl rfl ?_
  refine skip_ ?_
  refine thn ?_
  refine seq_ ?_
  refine region_ ?_
  refine wl_valE (v := .func (.func 16) #[] #[]) rfl (rf_move rfl) rfl ?_
  refine wl_valE (v := .int .i64 ((n : Nat) : Int)) rfl (rf_move rfl) rfl ?_
  refine wl_makeSliceH (enc := encOM) (l := n) (c := n) H0 (none : Option Nat) rfl encOM_len Try.underlying97 ti100 rfl rfl rfl rfl rfl (by omega) (by omega) ?_
  intro ma w2 H2
  refine wl_valE (v := .agg #[.func (.func 16) #[] #[], .slice ma n n, .int .i64 (0 : Int), .int .i64 (0 : Int)]) rfl (rf_build (offs := [(0, [.func (.func 16) #[] #[]]), (1, [.slice ma n n])]) (places := #[(0, 1), (1, 1), (2, 1), (3, 1)]) Try.underlying99 ti99 (fun w => by kernel_rfl) (.cons rfl rfl rfl rfl rfl rfl (.cons rfl rfl rfl rfl rfl rfl .nil))) rfl ?_
  refine wl_boxH H2 (v := .agg #[.func (.func 16) #[] #[], .slice ma n n, .int .i64 (0 : Int), .int .i64 (0 : Int)]) rfl rfl ?_
  intro bd w4 H4
  refine wl_valE (v := .pointer (some ⟨bd, 0, none⟩)) rfl (rf_assign rfl) rfl ?_
  refine wl_nil ?_
  refine thn ?_
  refine seq_ ?_
  refine seq_ ?_
  refine region_ ?_
  refine wl_valE (v := .pointer (some ⟨bd, 0, none⟩)) rfl (rf_move rfl) rfl ?_
  refine wl_valE (v := .pointer (some ⟨bd, 0, none⟩)) rfl (rf_nilCheckP rfl rfl) rfl ?_
  refine wl_valE (v := .pointer (some ⟨bd, 1, none⟩)) rfl (rf_fieldAddr Try.underlying99 rfl ti97 rfl rfl) rfl ?_
  refine wl_valE (v := .slice ma n n) rfl (rf_load Try.underlying97 rfl rfl rfl ((H4.blk 1 rfl).cell rfl)) rfl ?_
  refine wl_valE (v := .int .i64 ((n : Nat) : Int)) rfl (rf_len_slice Try.underlying97 rfl rfl) rfl ?_
  refine wl_valE (v := .int .i64 (0 : Int)) rfl (rf_move rfl) rfl ?_
  refine wl_nil ?_
  refine thn ?_
  refine block_ ?_
  refine loop_ (fun qk_ qf_ qw_ => ∃ (g : Nat → Value) (i : Nat) (ms : List (Option Nat)), qf_ = upds g [(6, .pointer (some ⟨bd, 0, none⟩)), (25, .int .i64 ((n : Nat) : Int)), (26, .int .i64 ((i : Nat) : Int))] ∧ qk_ = n - i ∧ (i ≤ n) ∧ St w0 S0 [] qw_ [slH encOM 1 100 ma n n ms, blkH bd #[.func (.func 16) #[] #[], .slice ma n n, .int .i64 (0 : Int), .int .i64 (0 : Int)] 99]) (n - 0) ?_ ?_
  · refine ⟨_, 0, List.replicate n (none : Option Nat), upds_self ⟨rfl, rfl, rfl, trivial⟩, rfl, Nat.zero_le _, H4.pick' [0, 1] rfl rfl⟩
  · rintro lk0 _ wl0 ⟨gl0, i, ms, rfl, hlk0, hi, HL0⟩
    refine seq_ ?_
    refine region_ ?_
    refine wl_valE (v := .bool (decide (((i : Nat) : Int) < ((n : Nat) : Int)))) rfl (rf_lss rfl rfl rfl rfl) rfl ?_
    refine wl_nil ?_
    refine thn ?_
    refine seq_ ?_
    refine cond_ (t := decide (((i : Nat) : Int) < ((n : Nat) : Int))) rfl rfl (fun c27 => ?_) (fun c27 => ?_)
    · have c27p := of_decide_eq_true c27
      refine skip_ ?_
      refine thn ?_
      refine seq_ ?_
      refine block_ ?_
      refine seq_ ?_
      refine region_ ?_
      refine wl_valE (v := .int .i64 ((i : Nat) : Int)) rfl (rf_move rfl) rfl ?_
      refine wl_valE (v := .int .i64 ((i : Nat) : Int)) rfl (rf_assign rfl) rfl ?_
      refine wl_nil ?_
      refine thn ?_
      refine region_ ?_
      refine wl_valE (v := .pointer (some ⟨bd, 0, none⟩)) rfl (rf_move rfl) rfl ?_
      refine wl_valE (v := .pointer (some ⟨bd, 0, none⟩)) rfl (rf_nilCheckP rfl rfl) rfl ?_
      refine wl_valE (v := .pointer (some ⟨bd, 1, none⟩)) rfl (rf_fieldAddr Try.underlying99 rfl ti97 rfl rfl) rfl ?_
      refine wl_valE (v := .slice ma n n) rfl (rf_load Try.underlying97 rfl rfl rfl ((HL0.blk 1 rfl).cell rfl)) rfl ?_
      refine wl_valE (v := .int .i64 ((i : Nat) : Int)) rfl (rf_move rfl) rfl ?_
      refine wl_makeMapH HL0 iv pv ?_
      intro r5 w6 H6
      refine wl_valE (v := .pointer (some ⟨ab ma, ao ma + i * 1, none⟩)) rfl (rf_indexAddrH Try.underlying97 ti100 rfl rfl rfl rfl (by omega) (by omega) (H6.rdO 0 slH_rd)) rfl ?_
      have hn8 := slH_len H6 0 rfl
      obtain ⟨x7, hx7⟩ : ∃ q_, ms[i]? = some q_ := ⟨_, List.getElem?_eq_getElem (by omega)⟩
      refine wl_storeElH H6 0 (enc := encOM) (i := i) (j := 0) (q := (some r5)) (u := .map (some r5)) (cs := [.map (some r5)]) rfl rfl encOM_len ti100 rfl rfl rfl rfl rfl rfl oneAll hx7 (leb rfl) rfl ?_
      intro w9 H9
      have hx9 : (ms.set i (some r5))[i]? = some (some r5) := List.getElem?_set_self (List.getElem?_eq_some_iff.1 hx7).1
      have hn9 := slH_len H9 0 rfl
      refine wl_nil ?_
      refine bln ?_
      refine thn ?_
      refine region_ ?_
      refine wl_valE (v := .int .i64 ((i + 1 : Nat) : Int)) rfl (rf_add rfl rfl rfl rfl (IntWalk.i64_in _ (by omega))) rfl ?_
      refine wl_valE (v := .int .i64 ((i + 1 : Nat) : Int)) rfl (rf_move rfl) rfl ?_
      refine wl_nil ?_
      refine thn ?_
      refine ⟨n - (i + 1), _, rfl, (by omega), _, i + 1, (ms.set i (some r5)), upds_self ⟨rfl, rfl, rfl, trivial⟩, rfl, by omega, H9.pick' [0, 1] rfl rfl⟩
    · have c27p := of_decide_eq_false c27
      refine exit_ ?_
      refine thx (thx (blx ?_))
      refine thn ?_
      refine seq_ ?_
      refine region_ ?_
      refine wl_valE (v := .pointer (some ⟨bd, 0, none⟩)) rfl (rf_move rfl) rfl ?_
      refine wl_valE (v := .pointer (some ⟨bd, 0, none⟩)) rfl (rf_assign rfl) rfl ?_
      refine wl_valE (v := .int .i64 (0 : Int)) rfl (rf_assign rfl) rfl ?_
      refine wl_nil ?_
      refine thn ?_
      refine ret_ ?_
      refine fin2 (v1 := .pointer (some ⟨bd, 0, none⟩)) (v2 := .int .i64 (0 : Int)) Try.results15 rfl rfl rfl rfl ?_
      exact ⟨_, ⟨_, rfl, rfl⟩, HL0.pick' [] rfl rfl⟩
theorem dnewB_tr (m : Int) (hm : ¬ (1 ≤ m ∧ m ≤ 256)) : Tr Try.prog 15 [.int .i64 m, .func (.func 16) #[] #[]] [] [] (fun v q => v = .tuple #[.pointer none, .int .i64 21] ∧ q = []) := by
  intro w0 S0 H0
  refine enterR Try.func15 rfl Try.ntmps15 rfl ?_
  intro g0
  refine seq_ ?_
  refine region_ ?_
  refine wl_valE (v := .pointer none) rfl (rf_assign rfl) rfl ?_
  refine wl_valE (v := .int .i64 (0 : Int)) rfl (rf_assign rfl) rfl ?_
  refine wl_nil ?_
  refine thn ?_
  refine seq_ ?_
  refine seq_ ?_
  refine region_ ?_
  refine wl_valE (v := .int .i64 m) rfl (rf_move rfl) rfl ?_
  refine wl_valE (v := .bool (decide (m < (1 : Int)))) rfl (rf_lss rfl rfl rfl rfl) rfl ?_
  refine wl_valE (v := .bool (decide (m < (1 : Int)))) rfl (rf_move rfl) rfl ?_
  refine wl_split (decide (m < (1 : Int))) (fun u1_2 => ?_) (fun u1_2 => ?_)
  · have u1_2p := of_decide_eq_true u1_2
    refine wl_guardF rfl rfl rfl u1_2 ?_
    refine wl_guardF rfl rfl rfl u1_2 ?_
    refine wl_valE (v := .bool true) rfl (rf_pickT rfl rfl rfl u1_2) rfl ?_
    refine wl_nil ?_
    refine thn ?_
    refine condT rfl rfl ?_
    refine seq_ ?_
    refine region_ ?_
    refine wl_valE (v := .pointer none) rfl (rf_assign rfl) rfl ?_
    refine wl_valE (v := .int .i64 (21 : Int)) rfl (rf_assign rfl) rfl ?_
    refine wl_nil ?_
    refine thn ?_
    refine ret_ ?_
    refine thr ?_
    refine fin2 (v1 := .pointer none) (v2 := .int .i64 (21 : Int)) Try.results15 rfl rfl rfl rfl ?_
    exact ⟨_, ⟨rfl, rfl⟩, H0.pick' [] rfl rfl⟩
  · have u1_2p := of_decide_eq_false u1_2
    refine wl_guardT rfl rfl rfl u1_2 ?_
    refine wl_valE (v := .int .i64 m) rfl (rf_move rfl) rfl ?_
    refine wl_guardT rfl rfl rfl u1_2 ?_
    refine wl_valE (v := .bool (decide ((256 : Int) < m))) rfl (rf_gtr rfl rfl rfl rfl) rfl ?_
    refine wl_valE (v := .bool (decide ((256 : Int) < m))) rfl (rf_pickF rfl rfl rfl u1_2) rfl ?_
    refine wl_nil ?_
    refine thn ?_
    refine cond_ (t := decide ((256 : Int) < m)) rfl rfl (fun c13 => ?_) (fun c13 => ?_)
    · have c13p := of_decide_eq_true c13
      refine seq_ ?_
      refine region_ ?_
      refine wl_valE (v := .pointer none) rfl (rf_assign rfl) rfl ?_
      refine wl_valE (v := .int .i64 (21 : Int)) rfl (rf_assign rfl) rfl ?_
      refine wl_nil ?_
      refine thn ?_
      refine ret_ ?_
      refine thr ?_
      refine fin2 (v1 := .pointer none) (v2 := .int .i64 (21 : Int)) Try.results15 rfl rfl rfl rfl ?_
      exact ⟨_, ⟨rfl, rfl⟩, H0.pick' [] rfl rfl⟩
    · have c13p := of_decide_eq_false c13
      omega
theorem snew_tr (m c : Int) (h : GoodS m c) : Tr Try.prog 6 [.int .i64 m, .int .i64 c] [] [] (fun v q => ∃ b, v = .tuple #[.pointer (some ⟨b, 0, none⟩), .int .i64 0] ∧ q = []) := by
  intro w0 S0 H0
  unfold GoodS at h
  refine enterR Try.func6 rfl Try.ntmps6 rfl ?_
  intro g0
  refine seq_ ?_
  refine region_ ?_
  refine wl_valE (v := .pointer none) rfl (rf_assign rfl) rfl ?_
  refine wl_valE (v := .int .i64 (0 : Int)) rfl (rf_assign rfl) rfl ?_
  refine wl_nil ?_
  refine thn ?_
  refine seq_ ?_
  refine region_ ?_
  refine wl_valE (v := .int .i64 m) rfl (rf_move rfl) rfl ?_
  refine wl_tr H0 rfl [] (dnew_tr m (by omega)) rfl .nil (rf_call Try.call15 rfl rfl) rfl ?_
  rintro _ w1 _ ⟨bd, rfl, rfl⟩ H1
  refine wl_valE (v := .tuple #[.pointer (some ⟨bd, 0, none⟩), .int .i64 0]) rfl (rf_move rfl) rfl ?_
  refine wl_valE (v := .pointer (some ⟨bd, 0, none⟩)) rfl (rf_extract rfl rfl rfl) rfl ?_
  refine wl_valE (v := .int .i64 0) rfl (rf_extract rfl rfl rfl) rfl ?_
  refine wl_valE (v := .pointer (some ⟨bd, 0, none⟩)) rfl (rf_assign rfl) rfl ?_
  refine wl_valE (v := .int .i64 0) rfl (rf_assign rfl) rfl ?_
  refine wl_nil ?_
  refine thn ?_
  refine seq_ ?_
  refine seq_ ?_
  refine region_ ?_
  refine wl_valE (v := .int .i64 0) rfl (rf_move rfl) rfl ?_
  refine wl_valE (v := .bool false) rfl (rf_neq rfl rfl rfl rfl) (congrArg Value.bool (by decide)) ?_
  refine wl_nil ?_
  refine thn ?_
  refine condF rfl rfl ?_
  refine skip_ ?_
  refine thn ?_
  refine seq_ ?_
  refine seq_ ?_
  refine region_ ?_
  refine wl_valE (v := .int .i64 c) rfl (rf_move rfl) rfl ?_
  refine wl_valE (v := .bool (decide (c < (1 : Int)))) rfl (rf_lss rfl rfl rfl rfl) rfl ?_
  refine wl_valE (v := .bool (decide (c < (1 : Int)))) rfl (rf_move rfl) rfl ?_
  refine wl_guardT rfl rfl rfl (decide_eq_false (by omega)) ?_
  refine wl_valE (v := .int .i64 c) rfl (rf_move rfl) rfl ?_
  refine wl_guardT rfl rfl rfl (decide_eq_false (by omega)) ?_
  refine wl_valE (v := .bool (decide ((65536 : Int) < c))) rfl (rf_gtr rfl rfl rfl rfl) rfl ?_
  refine wl_valE (v := .bool (decide ((65536 : Int) < c))) rfl (rf_pickF rfl rfl rfl (decide_eq_false (by omega))) rfl ?_
  refine wl_nil ?_
  refine thn ?_
  refine condF' rfl rfl (t := decide ((65536 : Int) < c)) ((decide_eq_false (by omega))) ?_
  refine skip_ ?_
  refine thn ?_
  refine seq_ ?_
  refine region_ ?_
  refine wl_valE (v := .int .i64 c) rfl (rf_move rfl) rfl ?_
  refine wl_valE (v := .int .i64 m) rfl (rf_move rfl) rfl ?_
  refine wl_makeMapH H1 iv pv ?_
  intro r2 w3 H3
  refine wl_valE (v := .pointer (some ⟨bd, 0, none⟩)) rfl (rf_move rfl) rfl ?_
  refine wl_valE (v := .agg #[.int .i64 c, .int .i64 m, .int .i64 (0 : Int), .map (some r2), .pointer (some ⟨bd, 0, none⟩)]) rfl (rf_build (offs := [(0, [.int .i64 c]), (1, [.int .i64 m]), (3, [.map (some r2)]), (4, [.pointer (some ⟨bd, 0, none⟩)])]) (places := #[(0, 1), (1, 1), (2, 1), (3, 1), (4, 1)]) Try.underlying69 ti69 (fun w => by kernel_rfl) (.cons rfl rfl rfl rfl rfl rfl (.cons rfl rfl rfl rfl rfl rfl (.cons rfl rfl rfl rfl rfl rfl (.cons rfl rfl rfl rfl rfl rfl .nil))))) rfl ?_
  refine wl_boxH H3 (v := .agg #[.int .i64 c, .int .i64 m, .int .i64 (0 : Int), .map (some r2), .pointer (some ⟨bd, 0, none⟩)]) rfl rfl ?_
  intro b4 w5 H5
  refine wl_valE (v := .pointer (some ⟨b4, 0, none⟩)) rfl (rf_assign rfl) rfl ?_
  refine wl_valE (v := .int .i64 (0 : Int)) rfl (rf_assign rfl) rfl ?_
  refine wl_nil ?_
  refine thn ?_
  refine ret_ ?_
  refine fin2 (v1 := .pointer (some ⟨b4, 0, none⟩)) (v2 := .int .i64 (0 : Int)) Try.results6 rfl rfl rfl rfl ?_
  exact ⟨_, ⟨_, rfl, rfl⟩, H5.pick' [] rfl rfl⟩
theorem snewB1_tr (m c : Int) (hm : ¬ (1 ≤ m ∧ m ≤ 256)) : Tr Try.prog 6 [.int .i64 m, .int .i64 c] [] [] (fun v q => v = .tuple #[.pointer none, .int .i64 21] ∧ q = []) := by
  intro w0 S0 H0
  refine enterR Try.func6 rfl Try.ntmps6 rfl ?_
  intro g0
  refine seq_ ?_
  refine region_ ?_
  refine wl_valE (v := .pointer none) rfl (rf_assign rfl) rfl ?_
  refine wl_valE (v := .int .i64 (0 : Int)) rfl (rf_assign rfl) rfl ?_
  refine wl_nil ?_
  refine thn ?_
  refine seq_ ?_
  refine region_ ?_
  refine wl_valE (v := .int .i64 m) rfl (rf_move rfl) rfl ?_
  refine wl_tr H0 rfl [] (dnewB_tr m (by omega)) rfl .nil (rf_call Try.call15 rfl rfl) rfl ?_
  rintro _ w1 _ ⟨rfl, rfl⟩ H1
  refine wl_valE (v := .tuple #[.pointer none, .int .i64 21]) rfl (rf_move rfl) rfl ?_
  refine wl_valE (v := .pointer none) rfl (rf_extract rfl rfl rfl) rfl ?_
  refine wl_valE (v := .int .i64 21) rfl (rf_extract rfl rfl rfl) rfl ?_
  refine wl_valE (v := .pointer none) rfl (rf_assign rfl) rfl ?_
  refine wl_valE (v := .int .i64 21) rfl (rf_assign rfl) rfl ?_
  refine wl_nil ?_
  refine thn ?_
  refine seq_ ?_
  refine seq_ ?_
  refine region_ ?_
  refine wl_valE (v := .int .i64 21) rfl (rf_move rfl) rfl ?_
  refine wl_valE (v := .bool true) rfl (rf_neq rfl rfl rfl rfl) (congrArg Value.bool (by decide)) ?_
  refine wl_nil ?_
  refine thn ?_
  refine condT rfl rfl ?_
  refine seq_ ?_
  refine region_ ?_
  refine wl_valE (v := .int .i64 21) rfl (rf_move rfl) rfl ?_
  refine wl_valE (v := .pointer none) rfl (rf_assign rfl) rfl ?_
  refine wl_valE (v := .int .i64 21) rfl (rf_assign rfl) rfl ?_
  refine wl_nil ?_
  refine thn ?_
  refine ret_ ?_
  refine thr ?_
  refine fin2 (v1 := .pointer none) (v2 := .int .i64 21) Try.results6 rfl rfl rfl rfl ?_
  exact ⟨_, ⟨rfl, rfl⟩, H1.pick' [] rfl rfl⟩
theorem snewB2_tr (m c : Int) (hm : 1 ≤ m ∧ m ≤ 256) (hc : ¬ (1 ≤ c ∧ c ≤ 65536)) : Tr Try.prog 6 [.int .i64 m, .int .i64 c] [] [] (fun v q => v = .tuple #[.pointer none, .int .i64 91] ∧ q = []) := by
  intro w0 S0 H0
  refine enterR Try.func6 rfl Try.ntmps6 rfl ?_
  intro g0
  refine seq_ ?_
  refine region_ ?_
  refine wl_valE (v := .pointer none) rfl (rf_assign rfl) rfl ?_
  refine wl_valE (v := .int .i64 (0 : Int)) rfl (rf_assign rfl) rfl ?_
  refine wl_nil ?_
  refine thn ?_
  refine seq_ ?_
  refine region_ ?_
  refine wl_valE (v := .int .i64 m) rfl (rf_move rfl) rfl ?_
  refine wl_tr H0 rfl [] (dnew_tr m (by omega)) rfl .nil (rf_call Try.call15 rfl rfl) rfl ?_
  rintro _ w1 _ ⟨bd, rfl, rfl⟩ H1
  refine wl_valE (v := .tuple #[.pointer (some ⟨bd, 0, none⟩), .int .i64 0]) rfl (rf_move rfl) rfl ?_
  refine wl_valE (v := .pointer (some ⟨bd, 0, none⟩)) rfl (rf_extract rfl rfl rfl) rfl ?_
  refine wl_valE (v := .int .i64 0) rfl (rf_extract rfl rfl rfl) rfl ?_
  refine wl_valE (v := .pointer (some ⟨bd, 0, none⟩)) rfl (rf_assign rfl) rfl ?_
  refine wl_valE (v := .int .i64 0) rfl (rf_assign rfl) rfl ?_
  refine wl_nil ?_
  refine thn ?_
  refine seq_ ?_
  refine seq_ ?_
  refine region_ ?_
  refine wl_valE (v := .int .i64 0) rfl (rf_move rfl) rfl ?_
  refine wl_valE (v := .bool false) rfl (rf_neq rfl rfl rfl rfl) (congrArg Value.bool (by decide)) ?_
  refine wl_nil ?_
  refine thn ?_
  refine condF rfl rfl ?_
  refine skip_ ?_
  refine thn ?_
  refine seq_ ?_
  refine seq_ ?_
  refine region_ ?_
  refine wl_valE (v := .int .i64 c) rfl (rf_move rfl) rfl ?_
  refine wl_valE (v := .bool (decide (c < (1 : Int)))) rfl (rf_lss rfl rfl rfl rfl) rfl ?_
  refine wl_valE (v := .bool (decide (c < (1 : Int)))) rfl (rf_move rfl) rfl ?_
  refine wl_split (decide (c < (1 : Int))) (fun u4_2 => ?_) (fun u4_2 => ?_)
  · have u4_2p := of_decide_eq_true u4_2
    refine wl_guardF rfl rfl rfl u4_2 ?_
    refine wl_guardF rfl rfl rfl u4_2 ?_
    refine wl_valE (v := .bool true) rfl (rf_pickT rfl rfl rfl u4_2) rfl ?_
    refine wl_nil ?_
    refine thn ?_
    refine condT rfl rfl ?_
    refine seq_ ?_
    refine region_ ?_
    refine wl_valE (v := .pointer none) rfl (rf_assign rfl) rfl ?_
    refine wl_valE (v := .int .i64 (91 : Int)) rfl (rf_assign rfl) rfl ?_
    refine wl_nil ?_
    refine thn ?_
    refine ret_ ?_
    refine thr ?_
    refine fin2 (v1 := .pointer none) (v2 := .int .i64 (91 : Int)) Try.results6 rfl rfl rfl rfl ?_
    exact ⟨_, ⟨rfl, rfl⟩, H1.pick' [] rfl rfl⟩
  · have u4_2p := of_decide_eq_false u4_2
    refine wl_guardT rfl rfl rfl u4_2 ?_
    refine wl_valE (v := .int .i64 c) rfl (rf_move rfl) rfl ?_
    refine wl_guardT rfl rfl rfl u4_2 ?_
    refine wl_valE (v := .bool (decide ((65536 : Int) < c))) rfl (rf_gtr rfl rfl rfl rfl) rfl ?_
    refine wl_valE (v := .bool (decide ((65536 : Int) < c))) rfl (rf_pickF rfl rfl rfl u4_2) rfl ?_
    refine wl_nil ?_
    refine thn ?_
    refine cond_ (t := decide ((65536 : Int) < c)) rfl rfl (fun c21 => ?_) (fun c21 => ?_)
    · have c21p := of_decide_eq_true c21
      refine seq_ ?_
      refine region_ ?_
      refine wl_valE (v := .pointer none) rfl (rf_assign rfl) rfl ?_
      refine wl_valE (v := .int .i64 (91 : Int)) rfl (rf_assign rfl) rfl ?_
      refine wl_nil ?_
      refine thn ?_
      refine ret_ ?_
      refine thr ?_
      refine fin2 (v1 := .pointer none) (v2 := .int .i64 (91 : Int)) Try.results6 rfl rfl rfl rfl ?_
      exact ⟨_, ⟨rfl, rfl⟩, H1.pick' [] rfl rfl⟩
    · have c21p := of_decide_eq_false c21
      omega
theorem snewB_tr (m c : Int) (h : ¬ GoodS m c) : Tr Try.prog 6 [.int .i64 m, .int .i64 c] [] [] fun v q => v = .tuple #[.pointer none, .int .i64 (nerr m)] ∧ q = [] := by
  unfold nerr
  by_cases hm : 1 ≤ m ∧ m ≤ 256
  · rw [if_pos hm]; exact snewB2_tr m c hm (fun hc => h ⟨hm, hc⟩)
  · rw [if_neg hm]; exact snewB1_tr m c hm
theorem rnew_tr (m c : Int) (h : GoodS m c) : Tr Try.prog 7 [.int .i64 m, .int .i64 c] [] [] (fun v q => ∃ b, v = .tuple #[.pointer (some ⟨b, 0, none⟩), .int .i64 0] ∧ q = []) := by
  intro w0 S0 H0
  unfold GoodS at h
  refine enterR Try.func7 rfl Try.ntmps7 rfl ?_
  intro g0
  refine seq_ ?_
  refine region_ ?_
  refine wl_valE (v := .pointer none) rfl (rf_assign rfl) rfl ?_
  refine wl_valE (v := .int .i64 (0 : Int)) rfl (rf_assign rfl) rfl ?_
  refine wl_nil ?_
  refine thn ?_
  refine seq_ ?_
  refine seq_ ?_
  refine region_ ?_
  refine wl_valE (v := .int .i64 m) rfl (rf_move rfl) rfl ?_
  refine wl_valE (v := .bool (decide (m < (1 : Int)))) rfl (rf_lss rfl rfl rfl rfl) rfl ?_
  refine wl_valE (v := .bool (decide (m < (1 : Int)))) rfl (rf_move rfl) rfl ?_
  refine wl_guardT rfl rfl rfl (decide_eq_false (by omega)) ?_
  refine wl_valE (v := .int .i64 m) rfl (rf_move rfl) rfl ?_
  refine wl_guardT rfl rfl rfl (decide_eq_false (by omega)) ?_
  refine wl_valE (v := .bool (decide ((256 : Int) < m))) rfl (rf_gtr rfl rfl rfl rfl) rfl ?_
  refine wl_valE (v := .bool (decide ((256 : Int) < m))) rfl (rf_pickF rfl rfl rfl (decide_eq_false (by omega))) rfl ?_
  refine wl_nil ?_
  refine thn ?_
  refine condF' rfl rfl (t := decide ((256 : Int) < m)) ((decide_eq_false (by omega))) ?_
  refine skip_ ?_
  refine thn ?_
  refine seq_ ?_
  refine seq_ ?_
  refine region_ ?_
  refine wl_valE (v := .int .i64 c) rfl (rf_move rfl) rfl ?_
  refine wl_valE (v := .bool (decide (c < (1 : Int)))) rfl (rf_lss rfl rfl rfl rfl) rfl ?_
  refine wl_valE (v := .bool (decide (c < (1 : Int)))) rfl (rf_move rfl) rfl ?_
  refine wl_guardT rfl rfl rfl (decide_eq_false (by omega)) ?_
  refine wl_valE (v := .int .i64 c) rfl (rf_move rfl) rfl ?_
  refine wl_guardT rfl rfl rfl (decide_eq_false (by omega)) ?_
  refine wl_valE (v := .bool (decide ((65536 : Int) < c))) rfl (rf_gtr rfl rfl rfl rfl) rfl ?_
  refine wl_valE (v := .bool (decide ((65536 : Int) < c))) rfl (rf_pickF rfl rfl rfl (decide_eq_false (by omega))) rfl ?_
  refine wl_nil ?_
  refine thn ?_
  refine condF' rfl rfl (t := decide ((65536 : Int) < c)) ((decide_eq_false (by omega))) ?_
  refine skip_ ?_
  refine thn ?_
  refine seq_ ?_
  refine region_ ?_
  refine wl_valE (v := .int .i64 m) rfl (rf_move rfl) rfl ?_
  refine wl_valE (v := .int .i64 c) rfl (rf_move rfl) rfl ?_
  refine wl_valE (v := .agg #[.int .i64 m, .int .i64 c, .slice none 0 0, .int .i64 (0 : Int)]) rfl (rf_build (offs := [(0, [.int .i64 m]), (1, [.int .i64 c])]) (places := #[(0, 1), (1, 1), (2, 1), (3, 1)]) Try.underlying72 ti72 (fun w => by kernel_rfl) (.cons rfl rfl rfl rfl rfl rfl (.cons rfl rfl rfl rfl rfl rfl .nil))) rfl ?_
  refine wl_boxH H0 (v := .agg #[.int .i64 m, .int .i64 c, .slice none 0 0, .int .i64 (0 : Int)]) rfl rfl ?_
  intro b1 w2 H2
  refine wl_valE (v := .pointer (some ⟨b1, 0, none⟩)) rfl (rf_assign rfl) rfl ?_
  refine wl_valE (v := .int .i64 (0 : Int)) rfl (rf_assign rfl) rfl ?_
  refine wl_nil ?_
  refine thn ?_
  refine ret_ ?_
  refine fin2 (v1 := .pointer (some ⟨b1, 0, none⟩)) (v2 := .int .i64 (0 : Int)) Try.results7 rfl rfl rfl rfl ?_
  exact ⟨_, ⟨_, rfl, rfl⟩, H2.pick' [] rfl rfl⟩
theorem rnewB_tr (m c : Int) (h : ¬ GoodS m c) : Tr Try.prog 7 [.int .i64 m, .int .i64 c] [] [] (fun v q => v = .tuple #[.pointer none, .int .i64 (nerr m)] ∧ q = []) := by
  intro w0 S0 H0
  unfold GoodS at h
  refine enterR Try.func7 rfl Try.ntmps7 rfl ?_
  intro g0
  refine seq_ ?_
  refine region_ ?_
  refine wl_valE (v := .pointer none) rfl (rf_assign rfl) rfl ?_
  refine wl_valE (v := .int .i64 (0 : Int)) rfl (rf_assign rfl) rfl ?_
  refine wl_nil ?_
  refine thn ?_
  refine seq_ ?_
  refine seq_ ?_
  refine region_ ?_
  refine wl_valE (v := .int .i64 m) rfl (rf_move rfl) rfl ?_
  refine wl_valE (v := .bool (decide (m < (1 : Int)))) rfl (rf_lss rfl rfl rfl rfl) rfl ?_
  refine wl_valE (v := .bool (decide (m < (1 : Int)))) rfl (rf_move rfl) rfl ?_
  refine wl_split (decide (m < (1 : Int))) (fun u1_2 => ?_) (fun u1_2 => ?_)
  · have u1_2p := of_decide_eq_true u1_2
    refine wl_guardF rfl rfl rfl u1_2 ?_
    refine wl_guardF rfl rfl rfl u1_2 ?_
    refine wl_valE (v := .bool true) rfl (rf_pickT rfl rfl rfl u1_2) rfl ?_
    refine wl_nil ?_
    refine thn ?_
    refine condT rfl rfl ?_
    refine seq_ ?_
    refine region_ ?_
    refine wl_valE (v := .pointer none) rfl (rf_assign rfl) rfl ?_
    refine wl_valE (v := .int .i64 (21 : Int)) rfl (rf_assign rfl) rfl ?_
    refine wl_nil ?_
    refine thn ?_
    refine ret_ ?_
    refine thr ?_
    refine fin2 (v1 := .pointer none) (v2 := .int .i64 (21 : Int)) Try.results7 rfl rfl rfl rfl ?_
    exact ⟨_, ⟨by unfold nerr; first | rw [if_neg (by omega)] | rw [if_pos (by omega)], rfl⟩, H0.pick' [] rfl rfl⟩
  · have u1_2p := of_decide_eq_false u1_2
    refine wl_guardT rfl rfl rfl u1_2 ?_
    refine wl_valE (v := .int .i64 m) rfl (rf_move rfl) rfl ?_
    refine wl_guardT rfl rfl rfl u1_2 ?_
    refine wl_valE (v := .bool (decide ((256 : Int) < m))) rfl (rf_gtr rfl rfl rfl rfl) rfl ?_
    refine wl_valE (v := .bool (decide ((256 : Int) < m))) rfl (rf_pickF rfl rfl rfl u1_2) rfl ?_
    refine wl_nil ?_
    refine thn ?_
    refine cond_ (t := decide ((256 : Int) < m)) rfl rfl (fun c11 => ?_) (fun c11 => ?_)
    · have c11p := of_decide_eq_true c11
      refine seq_ ?_
      refine region_ ?_
      refine wl_valE (v := .pointer none) rfl (rf_assign rfl) rfl ?_
      refine wl_valE (v := .int .i64 (21 : Int)) rfl (rf_assign rfl) rfl ?_
      refine wl_nil ?_
      refine thn ?_
      refine ret_ ?_
      refine thr ?_
      refine fin2 (v1 := .pointer none) (v2 := .int .i64 (21 : Int)) Try.results7 rfl rfl rfl rfl ?_
      exact ⟨_, ⟨by unfold nerr; first | rw [if_neg (by omega)] | rw [if_pos (by omega)], rfl⟩, H0.pick' [] rfl rfl⟩
    · have c11p := of_decide_eq_false c11
      refine skip_ ?_
      refine thn ?_
      refine seq_ ?_
      refine seq_ ?_
      refine region_ ?_
      refine wl_valE (v := .int .i64 c) rfl (rf_move rfl) rfl ?_
      refine wl_valE (v := .bool (decide (c < (1 : Int)))) rfl (rf_lss rfl rfl rfl rfl) rfl ?_
      refine wl_valE (v := .bool (decide (c < (1 : Int)))) rfl (rf_move rfl) rfl ?_
      refine wl_split (decide (c < (1 : Int))) (fun u3_2 => ?_) (fun u3_2 => ?_)
      · have u3_2p := of_decide_eq_true u3_2
        refine wl_guardF rfl rfl rfl u3_2 ?_
        refine wl_guardF rfl rfl rfl u3_2 ?_
        refine wl_valE (v := .bool true) rfl (rf_pickT rfl rfl rfl u3_2) rfl ?_
        refine wl_nil ?_
        refine thn ?_
        refine condT rfl rfl ?_
        refine seq_ ?_
        refine region_ ?_
        refine wl_valE (v := .pointer none) rfl (rf_assign rfl) rfl ?_
        refine wl_valE (v := .int .i64 (91 : Int)) rfl (rf_assign rfl) rfl ?_
        refine wl_nil ?_
        refine thn ?_
        refine ret_ ?_
        refine thr ?_
        refine fin2 (v1 := .pointer none) (v2 := .int .i64 (91 : Int)) Try.results7 rfl rfl rfl rfl ?_
        exact ⟨_, ⟨by unfold nerr; first | rw [if_neg (by omega)] | rw [if_pos (by omega)], rfl⟩, H0.pick' [] rfl rfl⟩
      · have u3_2p := of_decide_eq_false u3_2
        refine wl_guardT rfl rfl rfl u3_2 ?_
        refine wl_valE (v := .int .i64 c) rfl (rf_move rfl) rfl ?_
        refine wl_guardT rfl rfl rfl u3_2 ?_
        refine wl_valE (v := .bool (decide ((65536 : Int) < c))) rfl (rf_gtr rfl rfl rfl rfl) rfl ?_
        refine wl_valE (v := .bool (decide ((65536 : Int) < c))) rfl (rf_pickF rfl rfl rfl u3_2) rfl ?_
        refine wl_nil ?_
        refine thn ?_
        refine cond_ (t := decide ((65536 : Int) < c)) rfl rfl (fun c17 => ?_) (fun c17 => ?_)
        · have c17p := of_decide_eq_true c17
          refine seq_ ?_
          refine region_ ?_
          refine wl_valE (v := .pointer none) rfl (rf_assign rfl) rfl ?_
          refine wl_valE (v := .int .i64 (91 : Int)) rfl (rf_assign rfl) rfl ?_
          refine wl_nil ?_
          refine thn ?_
          refine ret_ ?_
          refine thr ?_
          refine fin2 (v1 := .pointer none) (v2 := .int .i64 (91 : Int)) Try.results7 rfl rfl rfl rfl ?_
          exact ⟨_, ⟨by unfold nerr; first | rw [if_neg (by omega)] | rw [if_pos (by omega)], rfl⟩, H0.pick' [] rfl rfl⟩
        · have c17p := of_decide_eq_false c17
          omega
theorem cnew_tr (p0 : Nat) (m c : Int) (h : GoodW m c) : Tr Try.prog 9 [.pointer (some ⟨p0, 0, none⟩), .int .i64 m, .int .i64 c, .int .i64 0] [] [] (fun v q => ∃ b, v = .tuple #[.pointer (some ⟨b, 0, none⟩), .int .i64 0] ∧ q = []) := by
  intro w0 S0 H0
  unfold GoodW at h
  obtain ⟨n, rfl⟩ : ∃ n : Nat, m = (n : Int) := ⟨m.toNat, by omega⟩
  refine enterR Try.func9 rfl Try.ntmps9 rfl ?_
  intro g0
  refine seq_ ?_
  refine region_ ?_
  refine wl_valE (v := .pointer none) rfl (rf_assign rfl) rfl ?_
  refine wl_valE (v := .int .i64 (0 : Int)) rfl (rf_assign rfl) rfl ?_
  refine wl_nil ?_
  refine thn ?_
  refine seq_ ?_
  refine block_ ?_
  refine seq_ ?_
  refine region_ ?_
  refine wl_valE (v := .int .i64 ((n : Nat) : Int)) rfl (rf_move rfl) rfl ?_
  refine wl_valE (v := .bool (decide (((n : Nat) : Int) < (1 : Int)))) rfl (rf_lss rfl rfl rfl rfl) rfl ?_
  refine wl_valE (v := .bool (decide (((n : Nat) : Int) < (1 : Int)))) rfl (rf_move rfl) rfl ?_
  refine wl_guardT rfl rfl rfl (decide_eq_false (by omega)) ?_
  refine wl_valE (v := .int .i64 ((n : Nat) : Int)) rfl (rf_move rfl) rfl ?_
  refine wl_guardT rfl rfl rfl (decide_eq_false (by omega)) ?_
  refine wl_valE (v := .bool (decide ((64 : Int) < ((n : Nat) : Int)))) rfl (rf_gtr rfl rfl rfl rfl) rfl ?_
  refine wl_valE (v := .bool (decide ((64 : Int) < ((n : Nat) : Int)))) rfl (rf_pickF rfl rfl rfl (decide_eq_false (by omega))) rfl ?_
  refine wl_valE (v := .bool (decide ((64 : Int) < ((n : Nat) : Int)))) rfl (rf_assign rfl) rfl ?_
  refine wl_nil ?_
  refine thn ?_
  refine condF' rfl rfl (t := decide ((64 : Int) < ((n : Nat) : Int))) ((decide_eq_false (by omega))) ?_
  refine seq_ ?_
  refine region_ ?_
  refine wl_valE (v := .int .i64 c) rfl (rf_move rfl) rfl ?_
  refine wl_valE (v := .bool (decide (c < (1 : Int)))) rfl (rf_lss rfl rfl rfl rfl) rfl ?_
  refine wl_valE (v := .bool (decide (c < (1 : Int)))) rfl (rf_move rfl) rfl ?_
  refine wl_guardT rfl rfl rfl (decide_eq_false (by omega)) ?_
  refine wl_valE (v := .int .i64 c) rfl (rf_move rfl) rfl ?_
  refine wl_guardT rfl rfl rfl (decide_eq_false (by omega)) ?_
  refine wl_valE (v := .bool (decide ((16 : Int) < c))) rfl (rf_gtr rfl rfl rfl rfl) rfl ?_
  refine wl_valE (v := .bool (decide ((16 : Int) < c))) rfl (rf_pickF rfl rfl rfl (decide_eq_false (by omega))) rfl ?_
  refine wl_valE (v := .bool (decide ((16 : Int) < c))) rfl (rf_assign rfl) rfl ?_
  refine wl_nil ?_
  refine thn ?_
  refine condF' rfl rfl (t := decide ((16 : Int) < c)) ((decide_eq_false (by omega))) ?_
  refine seq_ ?_
  refine region_ ?_
  refine wl_valE (v := .int .i64 0) rfl (rf_move rfl) rfl ?_
  refine wl_valE (v := .bool false) rfl (rf_lss rfl rfl rfl rfl) (congrArg Value.bool (by decide)) ?_
  refine wl_valE (v := .bool false) rfl (rf_move rfl) rfl ?_
  refine wl_guardT rfl rfl rfl rfl ?_
  refine wl_valE (v := .int .i64 0) rfl (rf_move rfl) rfl ?_
  refine wl_guardT rfl rfl rfl rfl ?_
  refine wl_valE (v := .bool false) rfl (rf_gtr rfl rfl rfl rfl) (congrArg Value.bool (by decide)) ?_
  refine wl_valE (v := .bool false) rfl (rf_pickF rfl rfl rfl rfl) rfl ?_
  refine wl_valE (v := .bool false) rfl (rf_assign rfl) rfl ?_
  refine wl_nil ?_
  refine thn ?_
  refine condF rfl rfl ?_
  refine skip_ ?_
  refine bln ?_
  refine thn ?_
  refine seq_ ?_
  refine region_ ?_
  refine wl_valE (v := .pointer (some ⟨p0, 0, none⟩)) rfl (rf_move rfl) rfl ?_
  refine wl_valE (v := .int .i64 c) rfl (rf_move rfl) rfl ?_
  refine wl_valE (v := .int .i64 0) rfl (rf_move rfl) rfl ?_
  refine wl_valE (v := .int .i64 0) rfl (rf_move rfl) rfl ?_
  refine wl_valE (v := .int .i64 0) rfl (rf_move rfl) rfl ?_
  refine wl_makeMapH H0 iv pv ?_
  intro r1 w2 H2
  refine wl_valE (v := .agg #[.pointer (some ⟨p0, 0, none⟩), .int .i64 c, .int .i64 0, .int .i64 0, .int .i64 0, .map (some r1), .slice none 0 0, .slice none 0 0]) rfl (rf_build (offs := [(0, [.pointer (some ⟨p0, 0, none⟩)]), (1, [.int .i64 c]), (2, [.int .i64 0]), (3, [.int .i64 0]), (4, [.int .i64 0]), (5, [.map (some r1)])]) (places := #[(0, 1), (1, 1), (2, 1), (3, 1), (4, 1), (5, 1), (6, 1), (7, 1)]) Try.underlying76 ti76 (fun w => by kernel_rfl) (.cons rfl rfl rfl rfl rfl rfl (.cons rfl rfl rfl rfl rfl rfl (.cons rfl rfl rfl rfl rfl rfl (.cons rfl rfl rfl rfl rfl rfl (.cons rfl rfl rfl rfl rfl rfl (.cons rfl rfl rfl rfl rfl rfl .nil))))))) rfl ?_
  refine wl_boxH H2 (v := .agg #[.pointer (some ⟨p0, 0, none⟩), .int .i64 c, .int .i64 0, .int .i64 0, .int .i64 0, .map (some r1), .slice none 0 0, .slice none 0 0]) rfl rfl ?_
  intro bc w4 H4
  refine wl_valE (v := .pointer (some ⟨bc, 0, none⟩)) rfl (rf_assign rfl) rfl ?_
  refine wl_nil ?_
  refine thn ?_
  refine seq_ ?_
  refine region_ ?_
  refine wl_valE (v := .pointer (some ⟨bc, 0, none⟩)) rfl (rf_move rfl) rfl ?_
  refine wl_valE (v := .int .i64 ((n : Nat) : Int)) rfl (rf_move rfl) rfl ?_
  refine wl_makeSliceH (enc := encWkr) (l := n) (c := n) H4 (⟨0, false, ⟨none, 0, 0⟩, 0⟩ : WkrR) rfl encWkr_len Try.underlying74 ti79 rfl rfl rfl rfl rfl (by omega) (by omega) ?_
  intro wk w6 H6
  refine wl_valE (v := .pointer (some ⟨bc, 0, none⟩)) rfl (rf_nilCheckP rfl rfl) rfl ?_
  refine wl_valE (v := .pointer (some ⟨bc, 7, none⟩)) rfl (rf_fieldAddr Try.underlying76 rfl ti74 rfl rfl) rfl ?_
  refine wl_storeH H6 1 (v := .slice wk n n) (A' := #[.pointer (some ⟨p0, 0, none⟩), .int .i64 c, .int .i64 0, .int .i64 0, .int .i64 0, .map (some r1), .slice none 0 0, .slice wk n n]) rfl rfl ti74 rfl rfl rfl rfl rfl (ltb rfl) rfl ?_
  intro w7 H7
  try dsimp only [putsH, setH, List.cons_append, List.nil_append] at H7
  refine wl_nil ?_
  refine thn ?_
  refine seq_ ?_
  refine seq_ ?_
  refine region_ ?_
  refine wl_valE (v := .pointer (some ⟨bc, 0, none⟩)) rfl (rf_move rfl) rfl ?_
  refine wl_valE (v := .pointer (some ⟨bc, 0, none⟩)) rfl (rf_nilCheckP rfl rfl) rfl ?_
  refine wl_valE (v := .pointer (some ⟨bc, 7, none⟩)) rfl (rf_fieldAddr Try.underlying76 rfl ti74 rfl rfl) rfl ?_
  refine wl_valE (v := .slice wk n n) rfl (rf_load Try.underlying74 rfl rfl rfl ((H7.blk 1 rfl).cell rfl)) rfl ?_
  refine wl_valE (v := .int .i64 ((n : Nat) : Int)) rfl (rf_len_slice Try.underlying74 rfl rfl) rfl ?_
  refine wl_valE (v := .int .i64 (0 : Int)) rfl (rf_move rfl) rfl ?_
  refine wl_nil ?_
  refine thn ?_
  refine block_ ?_
  refine loop_ (fun qk_ qf_ qw_ => ∃ (g : Nat → Value) (i : Nat) (ws : List WkrR), qf_ = upds g [(3, .int .i64 0), (10, .pointer (some ⟨bc, 0, none⟩)), (50, .int .i64 ((n : Nat) : Int)), (51, .int .i64 ((i : Nat) : Int))] ∧ qk_ = n - i ∧ (i ≤ n) ∧ St w0 S0 [] qw_ [mapH iv pv r1 ([]), blkH bc #[.pointer (some ⟨p0, 0, none⟩), .int .i64 c, .int .i64 0, .int .i64 0, .int .i64 0, .map (some r1), .slice none 0 0, .slice wk n n] 76, slH encWkr 4 79 wk n n ws]) (n - 0) ?_ ?_
  · refine ⟨_, 0, List.replicate n (⟨0, false, ⟨none, 0, 0⟩, 0⟩ : WkrR), upds_self ⟨rfl, rfl, rfl, rfl, trivial⟩, rfl, Nat.zero_le _, H7.pick' [0, 1, 2] rfl rfl⟩
  · rintro lk0 _ wl0 ⟨gl0, i, ws, rfl, hlk0, hi, HL0⟩
    refine seq_ ?_
    refine region_ ?_
    refine wl_valE (v := .bool (decide (((i : Nat) : Int) < ((n : Nat) : Int)))) rfl (rf_lss rfl rfl rfl rfl) rfl ?_
    refine wl_nil ?_
    refine thn ?_
    refine seq_ ?_
    refine cond_ (t := decide (((i : Nat) : Int) < ((n : Nat) : Int))) rfl rfl (fun c52 => ?_) (fun c52 => ?_)
    · have c52p := of_decide_eq_true c52
      refine skip_ ?_
      refine thn ?_
      refine seq_ ?_
      refine block_ ?_
      refine seq_ ?_
      refine region_ ?_
      refine wl_valE (v := .int .i64 ((i : Nat) : Int)) rfl (rf_move rfl) rfl ?_
      refine wl_valE (v := .int .i64 ((i : Nat) : Int)) rfl (rf_assign rfl) rfl ?_
      refine wl_nil ?_
      refine thn ?_
      refine region_ ?_
      refine wl_valE (v := .pointer (some ⟨bc, 0, none⟩)) rfl (rf_move rfl) rfl ?_
      refine wl_valE (v := .pointer (some ⟨bc, 0, none⟩)) rfl (rf_nilCheckP rfl rfl) rfl ?_
      refine wl_valE (v := .pointer (some ⟨bc, 7, none⟩)) rfl (rf_fieldAddr Try.underlying76 rfl ti74 rfl rfl) rfl ?_
      refine wl_valE (v := .slice wk n n) rfl (rf_load Try.underlying74 rfl rfl rfl ((HL0.blk 1 rfl).cell rfl)) rfl ?_
      refine wl_valE (v := .int .i64 ((i : Nat) : Int)) rfl (rf_move rfl) rfl ?_
      refine wl_valE (v := .int .i64 0) rfl (rf_move rfl) rfl ?_
      refine wl_valE (v := .pointer (some ⟨ab wk, ao wk + i * 4, none⟩)) rfl (rf_indexAddrH Try.underlying74 ti79 rfl rfl rfl rfl (by omega) (by omega) (HL0.rdO 2 slH_rd)) rfl ?_
      refine wl_valE (v := .pointer (some ⟨ab wk, ao wk + i * 4, none⟩)) rfl (rf_fieldAddr Try.underlying79 rfl ti3 rfl rfl) rfl ?_
      have hn9 := slH_len HL0 2 rfl
      obtain ⟨x8, hx8⟩ : ∃ q_, ws[i]? = some q_ := ⟨_, List.getElem?_eq_getElem (by omega)⟩
      refine wl_storeElH HL0 2 (enc := encWkr) (i := i) (j := 0) (q := { x8 with done := 0 }) (u := .int .i64 0) (cs := [.int .i64 0]) rfl rfl encWkr_len ti3 rfl rfl rfl rfl rfl rfl oneAll hx8 (leb rfl) rfl ?_
      intro w10 H10
      have hx10 : (ws.set i ({ x8 with done := 0 }))[i]? = some ({ x8 with done := 0 }) := List.getElem?_set_self (List.getElem?_eq_some_iff.1 hx8).1
      have hn10 := slH_len H10 2 rfl
      refine wl_nil ?_
      refine bln ?_
      refine thn ?_
      refine region_ ?_
      refine wl_valE (v := .int .i64 ((i + 1 : Nat) : Int)) rfl (rf_add rfl rfl rfl rfl (IntWalk.i64_in _ (by omega))) rfl ?_
      refine wl_valE (v := .int .i64 ((i + 1 : Nat) : Int)) rfl (rf_move rfl) rfl ?_
      refine wl_nil ?_
      refine thn ?_
      refine ⟨n - (i + 1), _, rfl, (by omega), _, i + 1, (ws.set i ({ x8 with done := 0 })), upds_self ⟨rfl, rfl, rfl, rfl, trivial⟩, rfl, by omega, H10.pick' [0, 1, 2] rfl rfl⟩
    · have c52p := of_decide_eq_false c52
      refine exit_ ?_
      refine thx (thx (blx ?_))
      refine thn ?_
      refine seq_ ?_
      refine region_ ?_
      refine wl_valE (v := .pointer (some ⟨bc, 0, none⟩)) rfl (rf_move rfl) rfl ?_
      refine wl_valE (v := .pointer (some ⟨bc, 0, none⟩)) rfl (rf_assign rfl) rfl ?_
      refine wl_valE (v := .int .i64 (0 : Int)) rfl (rf_assign rfl) rfl ?_
      refine wl_nil ?_
      refine thn ?_
      refine ret_ ?_
      refine fin2 (v1 := .pointer (some ⟨bc, 0, none⟩)) (v2 := .int .i64 (0 : Int)) Try.results9 rfl rfl rfl rfl ?_
      exact ⟨_, ⟨_, rfl, rfl⟩, HL0.pick' [] rfl rfl⟩
theorem cnewB_tr (p0 : Nat) (m c : Int) (h : ¬ GoodW m c) : Tr Try.prog 9 [.pointer (some ⟨p0, 0, none⟩), .int .i64 m, .int .i64 c, .int .i64 0] [] [] (fun v q => v = .tuple #[.pointer none, .int .i64 (werr m)] ∧ q = []) := by
  intro w0 S0 H0
  unfold GoodW at h
  refine enterR Try.func9 rfl Try.ntmps9 rfl ?_
  intro g0
  refine seq_ ?_
  refine region_ ?_
  refine wl_valE (v := .pointer none) rfl (rf_assign rfl) rfl ?_
  refine wl_valE (v := .int .i64 (0 : Int)) rfl (rf_assign rfl) rfl ?_
  refine wl_nil ?_
  refine thn ?_
  refine seq_ ?_
  refine block_ ?_
  refine seq_ ?_
  refine region_ ?_
  refine wl_valE (v := .int .i64 m) rfl (rf_move rfl) rfl ?_
  refine wl_valE (v := .bool (decide (m < (1 : Int)))) rfl (rf_lss rfl rfl rfl rfl) rfl ?_
  refine wl_valE (v := .bool (decide (m < (1 : Int)))) rfl (rf_move rfl) rfl ?_
  refine wl_split (decide (m < (1 : Int))) (fun u1_2 => ?_) (fun u1_2 => ?_)
  · have u1_2p := of_decide_eq_true u1_2
    refine wl_guardF rfl rfl rfl u1_2 ?_
    refine wl_guardF rfl rfl rfl u1_2 ?_
    refine wl_valE (v := .bool true) rfl (rf_pickT rfl rfl rfl u1_2) rfl ?_
    refine wl_valE (v := .bool true) rfl (rf_assign rfl) rfl ?_
    refine wl_nil ?_
    refine thn ?_
    refine condT rfl rfl ?_
    refine seq_ ?_
    refine region_ ?_
    refine wl_valE (v := .pointer none) rfl (rf_assign rfl) rfl ?_
    refine wl_valE (v := .int .i64 (110 : Int)) rfl (rf_assign rfl) rfl ?_
    refine wl_nil ?_
    refine thn ?_
    refine ret_ ?_
    refine blr (thr ?_)
    refine fin2 (v1 := .pointer none) (v2 := .int .i64 (110 : Int)) Try.results9 rfl rfl rfl rfl ?_
    exact ⟨_, ⟨by unfold werr; first | rw [if_neg (by omega)] | rw [if_pos (by omega)], rfl⟩, H0.pick' [] rfl rfl⟩
  · have u1_2p := of_decide_eq_false u1_2
    refine wl_guardT rfl rfl rfl u1_2 ?_
    refine wl_valE (v := .int .i64 m) rfl (rf_move rfl) rfl ?_
    refine wl_guardT rfl rfl rfl u1_2 ?_
    refine wl_valE (v := .bool (decide ((64 : Int) < m))) rfl (rf_gtr rfl rfl rfl rfl) rfl ?_
    refine wl_valE (v := .bool (decide ((64 : Int) < m))) rfl (rf_pickF rfl rfl rfl u1_2) rfl ?_
    refine wl_valE (v := .bool (decide ((64 : Int) < m))) rfl (rf_assign rfl) rfl ?_
    refine wl_nil ?_
    refine thn ?_
    refine cond_ (t := decide ((64 : Int) < m)) rfl rfl (fun c12 => ?_) (fun c12 => ?_)
    · have c12p := of_decide_eq_true c12
      refine seq_ ?_
      refine region_ ?_
      refine wl_valE (v := .pointer none) rfl (rf_assign rfl) rfl ?_
      refine wl_valE (v := .int .i64 (110 : Int)) rfl (rf_assign rfl) rfl ?_
      refine wl_nil ?_
      refine thn ?_
      refine ret_ ?_
      refine blr (thr ?_)
      refine fin2 (v1 := .pointer none) (v2 := .int .i64 (110 : Int)) Try.results9 rfl rfl rfl rfl ?_
      exact ⟨_, ⟨by unfold werr; first | rw [if_neg (by omega)] | rw [if_pos (by omega)], rfl⟩, H0.pick' [] rfl rfl⟩
    · have c12p := of_decide_eq_false c12
      refine seq_ ?_
      refine region_ ?_
      refine wl_valE (v := .int .i64 c) rfl (rf_move rfl) rfl ?_
      refine wl_valE (v := .bool (decide (c < (1 : Int)))) rfl (rf_lss rfl rfl rfl rfl) rfl ?_
      refine wl_valE (v := .bool (decide (c < (1 : Int)))) rfl (rf_move rfl) rfl ?_
      refine wl_split (decide (c < (1 : Int))) (fun u3_2 => ?_) (fun u3_2 => ?_)
      · have u3_2p := of_decide_eq_true u3_2
        refine wl_guardF rfl rfl rfl u3_2 ?_
        refine wl_guardF rfl rfl rfl u3_2 ?_
        refine wl_valE (v := .bool true) rfl (rf_pickT rfl rfl rfl u3_2) rfl ?_
        refine wl_valE (v := .bool true) rfl (rf_assign rfl) rfl ?_
        refine wl_nil ?_
        refine thn ?_
        refine condT rfl rfl ?_
        refine seq_ ?_
        refine region_ ?_
        refine wl_valE (v := .pointer none) rfl (rf_assign rfl) rfl ?_
        refine wl_valE (v := .int .i64 (111 : Int)) rfl (rf_assign rfl) rfl ?_
        refine wl_nil ?_
        refine thn ?_
        refine ret_ ?_
        refine blr (thr ?_)
        refine fin2 (v1 := .pointer none) (v2 := .int .i64 (111 : Int)) Try.results9 rfl rfl rfl rfl ?_
        exact ⟨_, ⟨by unfold werr; first | rw [if_neg (by omega)] | rw [if_pos (by omega)], rfl⟩, H0.pick' [] rfl rfl⟩
      · have u3_2p := of_decide_eq_false u3_2
        refine wl_guardT rfl rfl rfl u3_2 ?_
        refine wl_valE (v := .int .i64 c) rfl (rf_move rfl) rfl ?_
        refine wl_guardT rfl rfl rfl u3_2 ?_
        refine wl_valE (v := .bool (decide ((16 : Int) < c))) rfl (rf_gtr rfl rfl rfl rfl) rfl ?_
        refine wl_valE (v := .bool (decide ((16 : Int) < c))) rfl (rf_pickF rfl rfl rfl u3_2) rfl ?_
        refine wl_valE (v := .bool (decide ((16 : Int) < c))) rfl (rf_assign rfl) rfl ?_
        refine wl_nil ?_
        refine thn ?_
        refine cond_ (t := decide ((16 : Int) < c)) rfl rfl (fun c19 => ?_) (fun c19 => ?_)
        · have c19p := of_decide_eq_true c19
          refine seq_ ?_
          refine region_ ?_
          refine wl_valE (v := .pointer none) rfl (rf_assign rfl) rfl ?_
          refine wl_valE (v := .int .i64 (111 : Int)) rfl (rf_assign rfl) rfl ?_
          refine wl_nil ?_
          refine thn ?_
          refine ret_ ?_
          refine blr (thr ?_)
          refine fin2 (v1 := .pointer none) (v2 := .int .i64 (111 : Int)) Try.results9 rfl rfl rfl rfl ?_
          exact ⟨_, ⟨by unfold werr; first | rw [if_neg (by omega)] | rw [if_pos (by omega)], rfl⟩, H0.pick' [] rfl rfl⟩
        · have c19p := of_decide_eq_false c19
          omega
theorem bnew_tr (p0 : Nat) (m c : Int) (h : GoodW m c) : Tr Try.prog 10 [.pointer (some ⟨p0, 0, none⟩), .int .i64 m, .int .i64 c, .int .i64 0] [] [] (fun v q => ∃ b, v = .tuple #[.pointer (some ⟨b, 0, none⟩), .int .i64 0] ∧ q = []) := by
  intro w0 S0 H0
  unfold GoodW at h
  obtain ⟨n, rfl⟩ : ∃ n : Nat, m = (n : Int) := ⟨m.toNat, by omega⟩
  refine enterR Try.func10 rfl Try.ntmps10 rfl ?_
  intro g0
  refine seq_ ?_
  refine region_ ?_
  refine wl_valE (v := .pointer none) rfl (rf_assign rfl) rfl ?_
  refine wl_valE (v := .int .i64 (0 : Int)) rfl (rf_assign rfl) rfl ?_
  refine wl_nil ?_
  refine thn ?_
  refine seq_ ?_
  refine seq_ ?_
  refine region_ ?_
  refine wl_valE (v := .int .i64 ((n : Nat) : Int)) rfl (rf_move rfl) rfl ?_
  refine wl_valE (v := .bool (decide (((n : Nat) : Int) < (1 : Int)))) rfl (rf_lss rfl rfl rfl rfl) rfl ?_
  refine wl_valE (v := .bool (decide (((n : Nat) : Int) < (1 : Int)))) rfl (rf_move rfl) rfl ?_
  refine wl_guardT rfl rfl rfl (decide_eq_false (by omega)) ?_
  refine wl_valE (v := .int .i64 ((n : Nat) : Int)) rfl (rf_move rfl) rfl ?_
  refine wl_guardT rfl rfl rfl (decide_eq_false (by omega)) ?_
  refine wl_valE (v := .bool (decide ((64 : Int) < ((n : Nat) : Int)))) rfl (rf_gtr rfl rfl rfl rfl) rfl ?_
  refine wl_valE (v := .bool (decide ((64 : Int) < ((n : Nat) : Int)))) rfl (rf_pickF rfl rfl rfl (decide_eq_false (by omega))) rfl ?_
  refine wl_nil ?_
  refine thn ?_
  refine condF' rfl rfl (t := decide ((64 : Int) < ((n : Nat) : Int))) ((decide_eq_false (by omega))) ?_
  refine skip_ ?_
  refine thn ?_
  refine seq_ ?_
  refine seq_ ?_
  refine region_ ?_
  refine wl_valE (v := .int .i64 c) rfl (rf_move rfl) rfl ?_
  refine wl_valE (v := .bool (decide (c < (1 : Int)))) rfl (rf_lss rfl rfl rfl rfl) rfl ?_
  refine wl_valE (v := .bool (decide (c < (1 : Int)))) rfl (rf_move rfl) rfl ?_
  refine wl_guardT rfl rfl rfl (decide_eq_false (by omega)) ?_
  refine wl_valE (v := .int .i64 c) rfl (rf_move rfl) rfl ?_
  refine wl_guardT rfl rfl rfl (decide_eq_false (by omega)) ?_
  refine wl_valE (v := .bool (decide ((16 : Int) < c))) rfl (rf_gtr rfl rfl rfl rfl) rfl ?_
  refine wl_valE (v := .bool (decide ((16 : Int) < c))) rfl (rf_pickF rfl rfl rfl (decide_eq_false (by omega))) rfl ?_
  refine wl_nil ?_
  refine thn ?_
  refine condF' rfl rfl (t := decide ((16 : Int) < c)) ((decide_eq_false (by omega))) ?_
  refine skip_ ?_
  refine thn ?_
  refine seq_ ?_
  refine seq_ ?_
  refine region_ ?_
  refine wl_valE (v := .int .i64 0) rfl (rf_move rfl) rfl ?_
  refine wl_valE (v := .bool false) rfl (rf_lss rfl rfl rfl rfl) (congrArg Value.bool (by decide)) ?_
  refine wl_valE (v := .bool false) rfl (rf_move rfl) rfl ?_
  refine wl_guardT rfl rfl rfl rfl ?_
  refine wl_valE (v := .int .i64 0) rfl (rf_move rfl) rfl ?_
  refine wl_guardT rfl rfl rfl rfl ?_
  refine wl_valE (v := .bool false) rfl (rf_gtr rfl rfl rfl rfl) (congrArg Value.bool (by decide)) ?_
  refine wl_valE (v := .bool false) rfl (rf_pickF rfl rfl rfl rfl) rfl ?_
  refine wl_nil ?_
  refine thn ?_
  refine condF rfl rfl ?_
  refine skip_ ?_
  refine thn ?_
  refine seq_ ?_
  refine region_h (S := (fun wq => St w0 S0 [] wq [])) mixedP ?_
  intro w1 hk1
  have H1 := H0.keep hk1
  have hS1 : St w0 S0 [] w1 [] := H1.pick' [] rfl rfl
  refine wh_take (i := 0) (v := .pointer (some ⟨p0, 0, none⟩)) rfl (by kernel_rfl) (by kernel_rfl) (by kernel_rfl) hS1 rfl (fun wq hq => rf_move rfl) rfl ?_
  refine wh_take (i := 1) (v := .int .i64 ((n : Nat) : Int)) rfl (by kernel_rfl) (by kernel_rfl) (by kernel_rfl) hS1 rfl (fun wq hq => rf_move rfl) rfl ?_
  refine wh_take (i := 2) (v := .int .i64 c) rfl (by kernel_rfl) (by kernel_rfl) (by kernel_rfl) hS1 rfl (fun wq hq => rf_move rfl) rfl ?_
  refine wh_take (i := 3) (v := .int .i64 0) rfl (by kernel_rfl) (by kernel_rfl) (by kernel_rfl) hS1 rfl (fun wq hq => rf_move rfl) rfl ?_
  refine wh_take (i := 4) (v := .int .i64 ((n : Nat) : Int)) rfl (by kernel_rfl) (by kernel_rfl) (by kernel_rfl) hS1 rfl (fun wq hq => rf_move rfl) rfl ?_
  refine wh_take (i := 6) (v := .int .i64 ((n : Nat) : Int)) rfl (by kernel_rfl) (by kernel_rfl) (by kernel_rfl) hS1 rfl (fun wq hq => rf_move rfl) rfl ?_
  refine wh_two (i := 5) (j := 7) (by kernel_rfl) rfl rfl ?_ ?_
  · refine wl_makeSliceH (enc := encI) (l := n) (c := n) H1 0 rfl encI_len Try.underlying65 ti3 rfl rfl rfl rfl rfl (by omega) (by omega) ?_
    intro xa w3 H3
    refine wl_nil ?_
    have hS4 : St w0 S0 [] w3 [] := H3.pick' [] rfl rfl
    refine wh_back hS4 ?_
    refine wh_one (i := 7) (by kernel_rfl) rfl ?_
    refine wl_makeSliceH (enc := encI) (l := n) (c := n) H3 0 rfl encI_len Try.underlying65 ti3 rfl rfl rfl rfl rfl (by omega) (by omega) ?_
    intro xb w6 H6
    refine wl_nil ?_
    have hS7 : St w0 S0 [] w6 [] := H6.pick' [] rfl rfl
    refine wh_back hS7 ?_
    refine wh_take (i := 8) (v := .agg #[.pointer (some ⟨p0, 0, none⟩), .int .i64 ((n : Nat) : Int), .int .i64 c, .int .i64 0, .slice none 0 0, .int .i64 (0 : Int), .slice none 0 0, .slice xa n n, .slice xb n n, .slice none 0 0]) rfl (by kernel_rfl) (by kernel_rfl) (by kernel_rfl) hS7 rfl (fun wq hq => rf_build (offs := [(0, [.pointer (some ⟨p0, 0, none⟩)]), (1, [.int .i64 ((n : Nat) : Int)]), (2, [.int .i64 c]), (3, [.int .i64 0]), (7, [.slice xa n n]), (8, [.slice xb n n])]) (places := #[(0, 1), (1, 1), (2, 1), (3, 1), (4, 1), (5, 1), (6, 1), (7, 1), (8, 1), (9, 1)]) Try.underlying82 ti82 (fun w => by kernel_rfl) (.cons rfl rfl rfl rfl rfl rfl (.cons rfl rfl rfl rfl rfl rfl (.cons rfl rfl rfl rfl rfl rfl (.cons rfl rfl rfl rfl rfl rfl (.cons rfl rfl rfl rfl rfl rfl (.cons rfl rfl rfl rfl rfl rfl .nil))))))) rfl ?_
    refine wh_one (i := 9) (by kernel_rfl) rfl ?_
    refine wl_boxH H6 (v := .agg #[.pointer (some ⟨p0, 0, none⟩), .int .i64 ((n : Nat) : Int), .int .i64 c, .int .i64 0, .slice none 0 0, .int .i64 (0 : Int), .slice none 0 0, .slice xa n n, .slice xb n n, .slice none 0 0]) rfl rfl ?_
    intro b8 w9 H9
    refine wl_nil ?_
    have hS10 : St w0 S0 [] w9 [] := H9.pick' [] rfl rfl
    refine wh_back hS10 ?_
    refine wh_take (i := 10) (v := .pointer (some ⟨b8, 0, none⟩)) rfl (by kernel_rfl) (by kernel_rfl) (by kernel_rfl) hS10 rfl (fun wq hq => rf_assign rfl) rfl ?_
    refine wh_take (i := 11) (v := .int .i64 (0 : Int)) rfl (by kernel_rfl) (by kernel_rfl) (by kernel_rfl) hS10 rfl (fun wq hq => rf_assign rfl) rfl ?_
    refine wh_done (by kernel_rfl) ?_
    refine thn ?_
    refine ret_ ?_
    refine fin2 (v1 := .pointer (some ⟨b8, 0, none⟩)) (v2 := .int .i64 (0 : Int)) Try.results10 rfl rfl rfl rfl ?_
    exact ⟨_, ⟨_, rfl, rfl⟩, H9.pick' [] rfl rfl⟩
  · refine wl_makeSliceH (enc := encI) (l := n) (c := n) H1 0 rfl encI_len Try.underlying65 ti3 rfl rfl rfl rfl rfl (by omega) (by omega) ?_
    intro xb w12 H12
    refine wl_nil ?_
    have hS13 : St w0 S0 [] w12 [] := H12.pick' [] rfl rfl
    refine wh_back hS13 ?_
    refine wh_one (i := 5) (by kernel_rfl) rfl ?_
    refine wl_makeSliceH (enc := encI) (l := n) (c := n) H12 0 rfl encI_len Try.underlying65 ti3 rfl rfl rfl rfl rfl (by omega) (by omega) ?_
    intro xa w15 H15
    refine wl_nil ?_
    have hS16 : St w0 S0 [] w15 [] := H15.pick' [] rfl rfl
    refine wh_back hS16 ?_
    refine wh_take (i := 8) (v := .agg #[.pointer (some ⟨p0, 0, none⟩), .int .i64 ((n : Nat) : Int), .int .i64 c, .int .i64 0, .slice none 0 0, .int .i64 (0 : Int), .slice none 0 0, .slice xa n n, .slice xb n n, .slice none 0 0]) rfl (by kernel_rfl) (by kernel_rfl) (by kernel_rfl) hS16 rfl (fun wq hq => rf_build (offs := [(0, [.pointer (some ⟨p0, 0, none⟩)]), (1, [.int .i64 ((n : Nat) : Int)]), (2, [.int .i64 c]), (3, [.int .i64 0]), (7, [.slice xa n n]), (8, [.slice xb n n])]) (places := #[(0, 1), (1, 1), (2, 1), (3, 1), (4, 1), (5, 1), (6, 1), (7, 1), (8, 1), (9, 1)]) Try.underlying82 ti82 (fun w => by kernel_rfl) (.cons rfl rfl rfl rfl rfl rfl (.cons rfl rfl rfl rfl rfl rfl (.cons rfl rfl rfl rfl rfl rfl (.cons rfl rfl rfl rfl rfl rfl (.cons rfl rfl rfl rfl rfl rfl (.cons rfl rfl rfl rfl rfl rfl .nil))))))) rfl ?_
    refine wh_one (i := 9) (by kernel_rfl) rfl ?_
    refine wl_boxH H15 (v := .agg #[.pointer (some ⟨p0, 0, none⟩), .int .i64 ((n : Nat) : Int), .int .i64 c, .int .i64 0, .slice none 0 0, .int .i64 (0 : Int), .slice none 0 0, .slice xa n n, .slice xb n n, .slice none 0 0]) rfl rfl ?_
    intro b17 w18 H18
    refine wl_nil ?_
    have hS19 : St w0 S0 [] w18 [] := H18.pick' [] rfl rfl
    refine wh_back hS19 ?_
    refine wh_take (i := 10) (v := .pointer (some ⟨b17, 0, none⟩)) rfl (by kernel_rfl) (by kernel_rfl) (by kernel_rfl) hS19 rfl (fun wq hq => rf_assign rfl) rfl ?_
    refine wh_take (i := 11) (v := .int .i64 (0 : Int)) rfl (by kernel_rfl) (by kernel_rfl) (by kernel_rfl) hS19 rfl (fun wq hq => rf_assign rfl) rfl ?_
    refine wh_done (by kernel_rfl) ?_
    refine thn ?_
    refine ret_ ?_
    refine fin2 (v1 := .pointer (some ⟨b17, 0, none⟩)) (v2 := .int .i64 (0 : Int)) Try.results10 rfl rfl rfl rfl ?_
    exact ⟨_, ⟨_, rfl, rfl⟩, H18.pick' [] rfl rfl⟩
theorem bnewB_tr (p0 : Nat) (m c : Int) (h : ¬ GoodW m c) : Tr Try.prog 10 [.pointer (some ⟨p0, 0, none⟩), .int .i64 m, .int .i64 c, .int .i64 0] [] [] (fun v q => v = .tuple #[.pointer none, .int .i64 (werr m)] ∧ q = []) := by
  intro w0 S0 H0
  unfold GoodW at h
  refine enterR Try.func10 rfl Try.ntmps10 rfl ?_
  intro g0
  refine seq_ ?_
  refine region_ ?_
  refine wl_valE (v := .pointer none) rfl (rf_assign rfl) rfl ?_
  refine wl_valE (v := .int .i64 (0 : Int)) rfl (rf_assign rfl) rfl ?_
  refine wl_nil ?_
  refine thn ?_
  refine seq_ ?_
  refine seq_ ?_
  refine region_ ?_
  refine wl_valE (v := .int .i64 m) rfl (rf_move rfl) rfl ?_
  refine wl_valE (v := .bool (decide (m < (1 : Int)))) rfl (rf_lss rfl rfl rfl rfl) rfl ?_
  refine wl_valE (v := .bool (decide (m < (1 : Int)))) rfl (rf_move rfl) rfl ?_
  refine wl_split (decide (m < (1 : Int))) (fun u1_2 => ?_) (fun u1_2 => ?_)
  · have u1_2p := of_decide_eq_true u1_2
    refine wl_guardF rfl rfl rfl u1_2 ?_
    refine wl_guardF rfl rfl rfl u1_2 ?_
    refine wl_valE (v := .bool true) rfl (rf_pickT rfl rfl rfl u1_2) rfl ?_
    refine wl_nil ?_
    refine thn ?_
    refine condT rfl rfl ?_
    refine seq_ ?_
    refine region_ ?_
    refine wl_valE (v := .pointer none) rfl (rf_assign rfl) rfl ?_
    refine wl_valE (v := .int .i64 (110 : Int)) rfl (rf_assign rfl) rfl ?_
    refine wl_nil ?_
    refine thn ?_
    refine ret_ ?_
    refine thr ?_
    refine fin2 (v1 := .pointer none) (v2 := .int .i64 (110 : Int)) Try.results10 rfl rfl rfl rfl ?_
    exact ⟨_, ⟨by unfold werr; first | rw [if_neg (by omega)] | rw [if_pos (by omega)], rfl⟩, H0.pick' [] rfl rfl⟩
  · have u1_2p := of_decide_eq_false u1_2
    refine wl_guardT rfl rfl rfl u1_2 ?_
    refine wl_valE (v := .int .i64 m) rfl (rf_move rfl) rfl ?_
    refine wl_guardT rfl rfl rfl u1_2 ?_
    refine wl_valE (v := .bool (decide ((64 : Int) < m))) rfl (rf_gtr rfl rfl rfl rfl) rfl ?_
    refine wl_valE (v := .bool (decide ((64 : Int) < m))) rfl (rf_pickF rfl rfl rfl u1_2) rfl ?_
    refine wl_nil ?_
    refine thn ?_
    refine cond_ (t := decide ((64 : Int) < m)) rfl rfl (fun c15 => ?_) (fun c15 => ?_)
    · have c15p := of_decide_eq_true c15
      refine seq_ ?_
      refine region_ ?_
      refine wl_valE (v := .pointer none) rfl (rf_assign rfl) rfl ?_
      refine wl_valE (v := .int .i64 (110 : Int)) rfl (rf_assign rfl) rfl ?_
      refine wl_nil ?_
      refine thn ?_
      refine ret_ ?_
      refine thr ?_
      refine fin2 (v1 := .pointer none) (v2 := .int .i64 (110 : Int)) Try.results10 rfl rfl rfl rfl ?_
      exact ⟨_, ⟨by unfold werr; first | rw [if_neg (by omega)] | rw [if_pos (by omega)], rfl⟩, H0.pick' [] rfl rfl⟩
    · have c15p := of_decide_eq_false c15
      refine skip_ ?_
      refine thn ?_
      refine seq_ ?_
      refine seq_ ?_
      refine region_ ?_
      refine wl_valE (v := .int .i64 c) rfl (rf_move rfl) rfl ?_
      refine wl_valE (v := .bool (decide (c < (1 : Int)))) rfl (rf_lss rfl rfl rfl rfl) rfl ?_
      refine wl_valE (v := .bool (decide (c < (1 : Int)))) rfl (rf_move rfl) rfl ?_
      refine wl_split (decide (c < (1 : Int))) (fun u3_2 => ?_) (fun u3_2 => ?_)
      · have u3_2p := of_decide_eq_true u3_2
        refine wl_guardF rfl rfl rfl u3_2 ?_
        refine wl_guardF rfl rfl rfl u3_2 ?_
        refine wl_valE (v := .bool true) rfl (rf_pickT rfl rfl rfl u3_2) rfl ?_
        refine wl_nil ?_
        refine thn ?_
        refine condT rfl rfl ?_
        refine seq_ ?_
        refine region_ ?_
        refine wl_valE (v := .pointer none) rfl (rf_assign rfl) rfl ?_
        refine wl_valE (v := .int .i64 (111 : Int)) rfl (rf_assign rfl) rfl ?_
        refine wl_nil ?_
        refine thn ?_
        refine ret_ ?_
        refine thr ?_
        refine fin2 (v1 := .pointer none) (v2 := .int .i64 (111 : Int)) Try.results10 rfl rfl rfl rfl ?_
        exact ⟨_, ⟨by unfold werr; first | rw [if_neg (by omega)] | rw [if_pos (by omega)], rfl⟩, H0.pick' [] rfl rfl⟩
      · have u3_2p := of_decide_eq_false u3_2
        refine wl_guardT rfl rfl rfl u3_2 ?_
        refine wl_valE (v := .int .i64 c) rfl (rf_move rfl) rfl ?_
        refine wl_guardT rfl rfl rfl u3_2 ?_
        refine wl_valE (v := .bool (decide ((16 : Int) < c))) rfl (rf_gtr rfl rfl rfl rfl) rfl ?_
        refine wl_valE (v := .bool (decide ((16 : Int) < c))) rfl (rf_pickF rfl rfl rfl u3_2) rfl ?_
        refine wl_nil ?_
        refine thn ?_
        refine cond_ (t := decide ((16 : Int) < c)) rfl rfl (fun c21 => ?_) (fun c21 => ?_)
        · have c21p := of_decide_eq_true c21
          refine seq_ ?_
          refine region_ ?_
          refine wl_valE (v := .pointer none) rfl (rf_assign rfl) rfl ?_
          refine wl_valE (v := .int .i64 (111 : Int)) rfl (rf_assign rfl) rfl ?_
          refine wl_nil ?_
          refine thn ?_
          refine ret_ ?_
          refine thr ?_
          refine fin2 (v1 := .pointer none) (v2 := .int .i64 (111 : Int)) Try.results10 rfl rfl rfl rfl ?_
          exact ⟨_, ⟨by unfold werr; first | rw [if_neg (by omega)] | rw [if_pos (by omega)], rfl⟩, H0.pick' [] rfl rfl⟩
        · have c21p := of_decide_eq_false c21
          omega
theorem hnew_tr (p0 p1 : Nat) (a : Option Addr) (n c : Nat) (lib : List ProcR) (hd : Int) (he : errL lib = 0) (hh : 1 ≤ hd ∧ hd ≤ 64) : Tr Try.prog 14 [.pointer (some ⟨p0, 0, none⟩), .pointer (some ⟨p1, 0, none⟩), .slice a n c, .int .i64 hd] [rdH encProc 6 a n c lib, shH (lib.map mkC)] [] (fun v q => ∃ b, v = .tuple #[.pointer (some ⟨b, 0, none⟩), .int .i64 0] ∧ q = []) := by
  intro w0 S0 H0
  obtain ⟨nh, rfl⟩ : ∃ nh : Nat, hd = (nh : Int) := ⟨hd.toNat, by omega⟩
  refine enterR Try.func14 rfl Try.ntmps14 rfl ?_
  intro g0
  refine seq_ ?_
  refine region_ ?_
  refine wl_valE (v := .pointer none) rfl (rf_assign rfl) rfl ?_
  refine wl_valE (v := .int .i64 (0 : Int)) rfl (rf_assign rfl) rfl ?_
  refine wl_nil ?_
  refine thn ?_
  refine seq_ ?_
  refine region_ ?_
  refine wl_valE (v := .slice a n c) rfl (rf_move rfl) rfl ?_
  refine wl_tr H0 rfl [] (checkR_tr a n c lib) rfl (.ro 0 Le.rfl (.ro 1 Le.rfl .nil)) (rf_call Try.call20 rfl rfl) rfl ?_
  rintro _ w1 _ ⟨ei, rfl, rfl⟩ H1
  refine wl_valE (v := .tuple #[.int .i64 ei, .int .i64 (errL lib)]) rfl (rf_move rfl) rfl ?_
  refine wl_valE (v := .int .i64 ei) rfl (rf_extract rfl rfl rfl) rfl ?_
  refine wl_valE (v := .int .i64 (errL lib)) rfl (rf_extract rfl rfl rfl) rfl ?_
  refine wl_valE (v := .int .i64 ei) rfl (rf_assign rfl) rfl ?_
  refine wl_valE (v := .int .i64 (errL lib)) rfl (rf_assign rfl) rfl ?_
  refine wl_nil ?_
  refine thn ?_
  refine seq_ ?_
  refine seq_ ?_
  refine region_ ?_
  refine wl_valE (v := .int .i64 (errL lib)) rfl (rf_move rfl) rfl ?_
  refine wl_valE (v := .bool (decide (errL lib ≠ (0 : Int)))) rfl (rf_neq rfl rfl rfl rfl) rfl ?_
  refine wl_nil ?_
  refine thn ?_
  refine condF' rfl rfl (t := decide (errL lib ≠ (0 : Int))) ((decide_eq_false (by omega))) ?_
  refine skip_ ?_
  refine thn ?_
  refine seq_ ?_
  refine seq_ ?_
  refine region_ ?_
  refine wl_valE (v := .int .i64 ((nh : Nat) : Int)) rfl (rf_move rfl) rfl ?_
  refine wl_valE (v := .bool (decide (((nh : Nat) : Int) < (1 : Int)))) rfl (rf_lss rfl rfl rfl rfl) rfl ?_
  refine wl_valE (v := .bool (decide (((nh : Nat) : Int) < (1 : Int)))) rfl (rf_move rfl) rfl ?_
  refine wl_guardT rfl rfl rfl (decide_eq_false (by omega)) ?_
  refine wl_valE (v := .int .i64 ((nh : Nat) : Int)) rfl (rf_move rfl) rfl ?_
  refine wl_guardT rfl rfl rfl (decide_eq_false (by omega)) ?_
  refine wl_valE (v := .bool (decide ((64 : Int) < ((nh : Nat) : Int)))) rfl (rf_gtr rfl rfl rfl rfl) rfl ?_
  refine wl_valE (v := .bool (decide ((64 : Int) < ((nh : Nat) : Int)))) rfl (rf_pickF rfl rfl rfl (decide_eq_false (by omega))) rfl ?_
  refine wl_nil ?_
  refine thn ?_
  refine condF' rfl rfl (t := decide ((64 : Int) < ((nh : Nat) : Int))) ((decide_eq_false (by omega))) ?_
  refine skip_ ?_
  refine thn ?_
  refine seq_ ?_
  refine region_ ?_
  refine wl_valE (v := .pointer (some ⟨p0, 0, none⟩)) rfl (rf_move rfl) rfl ?_
  refine wl_valE (v := .pointer (some ⟨p1, 0, none⟩)) rfl (rf_move rfl) rfl ?_
  refine wl_valE (v := .slice a n c) rfl (rf_move rfl) rfl ?_
  refine wl_valE (v := .int .i64 ((nh : Nat) : Int)) rfl (rf_move rfl) rfl ?_
  refine wl_makeSliceH (enc := encSv) (l := nh) (c := nh) H1 (⟨none, 0, 0⟩) rfl encSv_len Try.underlying93 ti158 rfl rfl rfl rfl rfl (by omega) (by omega) ?_
  intro xs w3 H3
  refine wl_valE (v := .agg #[.pointer (some ⟨p0, 0, none⟩), .pointer (some ⟨p1, 0, none⟩), .slice a n c, .slice xs nh nh]) rfl (rf_build (offs := [(0, [.pointer (some ⟨p0, 0, none⟩)]), (1, [.pointer (some ⟨p1, 0, none⟩)]), (2, [.slice a n c]), (3, [.slice xs nh nh])]) (places := #[(0, 1), (1, 1), (2, 1), (3, 1)]) Try.underlying95 ti95 (fun w => by kernel_rfl) (.cons rfl rfl rfl rfl rfl rfl (.cons rfl rfl rfl rfl rfl rfl (.cons rfl rfl rfl rfl rfl rfl (.cons rfl rfl rfl rfl rfl rfl .nil))))) rfl ?_
  refine wl_boxH H3 (v := .agg #[.pointer (some ⟨p0, 0, none⟩), .pointer (some ⟨p1, 0, none⟩), .slice a n c, .slice xs nh nh]) rfl rfl ?_
  intro b4 w5 H5
  refine wl_valE (v := .pointer (some ⟨b4, 0, none⟩)) rfl (rf_assign rfl) rfl ?_
  refine wl_valE (v := .int .i64 (0 : Int)) rfl (rf_assign rfl) rfl ?_
  refine wl_nil ?_
  refine thn ?_
  refine ret_ ?_
  refine fin2 (v1 := .pointer (some ⟨b4, 0, none⟩)) (v2 := .int .i64 (0 : Int)) Try.results14 rfl rfl rfl rfl ?_
  exact ⟨_, ⟨_, rfl, rfl⟩, H5.pick' [] rfl rfl⟩
theorem hnewB_tr (p0 p1 : Nat) (a : Option Addr) (n c : Nat) (lib : List ProcR) (hd : Int) (h : herr lib hd ≠ 0) : Tr Try.prog 14 [.pointer (some ⟨p0, 0, none⟩), .pointer (some ⟨p1, 0, none⟩), .slice a n c, .int .i64 hd] [rdH encProc 6 a n c lib, shH (lib.map mkC)] [] (fun v q => v = .tuple #[.pointer none, .int .i64 (herr lib hd)] ∧ q = []) := by
  intro w0 S0 H0
  have hcase : errL lib ≠ 0 ∨ ¬ (1 ≤ hd ∧ hd ≤ 64) := by unfold herr at h; omega
  refine enterR Try.func14 rfl Try.ntmps14 rfl ?_
  intro g0
  refine seq_ ?_
  refine region_ ?_
  refine wl_valE (v := .pointer none) rfl (rf_assign rfl) rfl ?_
  refine wl_valE (v := .int .i64 (0 : Int)) rfl (rf_assign rfl) rfl ?_
  refine wl_nil ?_
  refine thn ?_
  refine seq_ ?_
  refine region_ ?_
  refine wl_valE (v := .slice a n c) rfl (rf_move rfl) rfl ?_
  refine wl_tr H0 rfl [] (checkR_tr a n c lib) rfl (.ro 0 Le.rfl (.ro 1 Le.rfl .nil)) (rf_call Try.call20 rfl rfl) rfl ?_
  rintro _ w1 _ ⟨ei, rfl, rfl⟩ H1
  refine wl_valE (v := .tuple #[.int .i64 ei, .int .i64 (errL lib)]) rfl (rf_move rfl) rfl ?_
  refine wl_valE (v := .int .i64 ei) rfl (rf_extract rfl rfl rfl) rfl ?_
  refine wl_valE (v := .int .i64 (errL lib)) rfl (rf_extract rfl rfl rfl) rfl ?_
  refine wl_valE (v := .int .i64 ei) rfl (rf_assign rfl) rfl ?_
  refine wl_valE (v := .int .i64 (errL lib)) rfl (rf_assign rfl) rfl ?_
  refine wl_nil ?_
  refine thn ?_
  refine seq_ ?_
  refine seq_ ?_
  refine region_ ?_
  refine wl_valE (v := .int .i64 (errL lib)) rfl (rf_move rfl) rfl ?_
  refine wl_valE (v := .bool (decide (errL lib ≠ (0 : Int)))) rfl (rf_neq rfl rfl rfl rfl) rfl ?_
  refine wl_nil ?_
  refine thn ?_
  refine cond_ (t := decide (errL lib ≠ (0 : Int))) rfl rfl (fun c18 => ?_) (fun c18 => ?_)
  · have c18p := of_decide_eq_true c18
    refine seq_ ?_
    refine region_ ?_
    refine wl_valE (v := .int .i64 (errL lib)) rfl (rf_move rfl) rfl ?_
    refine wl_valE (v := .pointer none) rfl (rf_assign rfl) rfl ?_
    refine wl_valE (v := .int .i64 (errL lib)) rfl (rf_assign rfl) rfl ?_
    refine wl_nil ?_
    refine thn ?_
    refine ret_ ?_
    refine thr ?_
    refine fin2 (v1 := .pointer none) (v2 := .int .i64 (errL lib)) Try.results14 rfl rfl rfl rfl ?_
    exact ⟨_, ⟨by unfold herr; rw [if_pos (by omega)], rfl⟩, H1.pick' [] rfl rfl⟩
  · have c18p := of_decide_eq_false c18
    refine skip_ ?_
    refine thn ?_
    refine seq_ ?_
    refine seq_ ?_
    refine region_ ?_
    refine wl_valE (v := .int .i64 hd) rfl (rf_move rfl) rfl ?_
    refine wl_valE (v := .bool (decide (hd < (1 : Int)))) rfl (rf_lss rfl rfl rfl rfl) rfl ?_
    refine wl_valE (v := .bool (decide (hd < (1 : Int)))) rfl (rf_move rfl) rfl ?_
    refine wl_split (decide (hd < (1 : Int))) (fun u4_2 => ?_) (fun u4_2 => ?_)
    · have u4_2p := of_decide_eq_true u4_2
      refine wl_guardF rfl rfl rfl u4_2 ?_
      refine wl_guardF rfl rfl rfl u4_2 ?_
      refine wl_valE (v := .bool true) rfl (rf_pickT rfl rfl rfl u4_2) rfl ?_
      refine wl_nil ?_
      refine thn ?_
      refine condT rfl rfl ?_
      refine seq_ ?_
      refine region_ ?_
      refine wl_valE (v := .pointer none) rfl (rf_assign rfl) rfl ?_
      refine wl_valE (v := .int .i64 (120 : Int)) rfl (rf_assign rfl) rfl ?_
      refine wl_nil ?_
      refine thn ?_
      refine ret_ ?_
      refine thr ?_
      refine fin2 (v1 := .pointer none) (v2 := .int .i64 (120 : Int)) Try.results14 rfl rfl rfl rfl ?_
      exact ⟨_, ⟨by unfold herr; rw [if_neg (by omega), if_neg (by omega)], rfl⟩, H1.pick' [] rfl rfl⟩
    · have u4_2p := of_decide_eq_false u4_2
      refine wl_guardT rfl rfl rfl u4_2 ?_
      refine wl_valE (v := .int .i64 hd) rfl (rf_move rfl) rfl ?_
      refine wl_guardT rfl rfl rfl u4_2 ?_
      refine wl_valE (v := .bool (decide ((64 : Int) < hd))) rfl (rf_gtr rfl rfl rfl rfl) rfl ?_
      refine wl_valE (v := .bool (decide ((64 : Int) < hd))) rfl (rf_pickF rfl rfl rfl u4_2) rfl ?_
      refine wl_nil ?_
      refine thn ?_
      refine cond_ (t := decide ((64 : Int) < hd)) rfl rfl (fun c25 => ?_) (fun c25 => ?_)
      · have c25p := of_decide_eq_true c25
        refine seq_ ?_
        refine region_ ?_
        refine wl_valE (v := .pointer none) rfl (rf_assign rfl) rfl ?_
        refine wl_valE (v := .int .i64 (120 : Int)) rfl (rf_assign rfl) rfl ?_
        refine wl_nil ?_
        refine thn ?_
        refine ret_ ?_
        refine thr ?_
        refine fin2 (v1 := .pointer none) (v2 := .int .i64 (120 : Int)) Try.results14 rfl rfl rfl rfl ?_
        exact ⟨_, ⟨by unfold herr; rw [if_neg (by omega), if_neg (by omega)], rfl⟩, H1.pick' [] rfl rfl⟩
      · have c25p := of_decide_eq_false c25
        omega
theorem cloneP_tr (a : Option Addr) (n c : Nat) (l : List ProcR) (hn : n ≤ 1048576) : Tr Try.prog 18 [.slice a n c] [rdH encProc 6 a n c l] [] (fun v m => ∃ a' c', v = .slice a' n c' ∧ m = [slH encProc 6 34 a' n c' l]) := by
  intro w0 S0 H0
  refine enterR Try.func18 rfl Try.ntmps18 rfl ?_
  intro g0
  refine seq_ ?_
  refine region_ ?_
  refine wl_valE (v := .slice none 0 0) rfl (rf_assign rfl) rfl ?_
  refine wl_nil ?_
  refine thn ?_
  refine seq_ ?_
  refine seq_ ?_
  refine region_ ?_
  refine wl_valE (v := .slice a n c) rfl (rf_move rfl) rfl ?_
  refine wl_valE (v := .bool a.isNone) rfl (rf_eqlSN Try.underlying24 rfl rfl rfl rfl) rfl ?_
  refine wl_nil ?_
  refine thn ?_
  refine cond_ (t := a.isNone) rfl rfl (fun c4 => ?_) (fun c4 => ?_)
  · have hl := rd_len (H0.rdR 0 Le.rfl)
    have h0 : n = 0 := by
      rcases Nat.eq_zero_or_pos n with h | h
      · exact h
      · have := rd_at (H0.rdR 0 Le.rfl) h; rw [this] at c4; cases c4
    subst h0
    have hl0 := List.eq_nil_of_length_eq_zero hl.1.symm
    subst hl0
    refine seq_ ?_
    refine region_ ?_
    refine wl_valE (v := .slice none 0 0) rfl (rf_assign rfl) rfl ?_
    refine wl_nil ?_
    refine thn ?_
    refine ret_ ?_
    refine thr ?_
    refine fin1 (v := .slice none 0 0) Try.results18 rfl rfl ?_
    exact ⟨_, ⟨none, 0, rfl, rfl⟩, H0.addNil _ _ _⟩
  · refine skip_ ?_
    refine thn ?_
    refine seq_ ?_
    refine region_ ?_
    refine wl_buildSlice0H (enc := encProc) H0 encProc_len Try.underlying24 ti34 ?_
    intro a1 w2 H2
    refine wl_valE (v := .slice a n c) rfl (rf_move rfl) rfl ?_
    refine wl_appendH (enc := encProc) (N := n) H2 0 rfl rfl encProc_len encProc_one Try.underlying24 ti34 rfl rfl rfl rfl rfl (H2.rdR 0 Le.rfl) (Nat.zero_add _) (by omega) (by omega) ?_
    intro a3 c3 w3 hc3 hd3 H3
    refine wl_valE (v := .slice a3 n c3) rfl (rf_assign rfl) rfl ?_
    refine wl_nil ?_
    refine thn ?_
    refine ret_ ?_
    refine fin1 (v := .slice a3 n c3) Try.results18 rfl rfl ?_
    exact ⟨_, ⟨_, _, rfl, rfl⟩, H3.pick' [0] rfl rfl⟩
theorem cloneI_tr (a : Option Addr) (n c : Nat) (l : List InsR) (hn : n ≤ 4398046511104) : Tr Try.prog 19 [.slice a n c] [rdH encIns 2 a n c l] [] (fun v m => ∃ a' c', v = .slice a' n c' ∧ m = [slH encIns 2 87 a' n c' l]) := by
  intro w0 S0 H0
  refine enterR Try.func19 rfl Try.ntmps19 rfl ?_
  intro g0
  refine seq_ ?_
  refine region_ ?_
  refine wl_valE (v := .slice none 0 0) rfl (rf_assign rfl) rfl ?_
  refine wl_nil ?_
  refine thn ?_
  refine seq_ ?_
  refine seq_ ?_
  refine region_ ?_
  refine wl_valE (v := .slice a n c) rfl (rf_move rfl) rfl ?_
  refine wl_valE (v := .bool a.isNone) rfl (rf_eqlSN Try.underlying30 rfl rfl rfl rfl) rfl ?_
  refine wl_nil ?_
  refine thn ?_
  refine cond_ (t := a.isNone) rfl rfl (fun c4 => ?_) (fun c4 => ?_)
  · have hl := rd_len (H0.rdR 0 Le.rfl)
    have h0 : n = 0 := by
      rcases Nat.eq_zero_or_pos n with h | h
      · exact h
      · have := rd_at (H0.rdR 0 Le.rfl) h; rw [this] at c4; cases c4
    subst h0
    have hl0 := List.eq_nil_of_length_eq_zero hl.1.symm
    subst hl0
    refine seq_ ?_
    refine region_ ?_
    refine wl_valE (v := .slice none 0 0) rfl (rf_assign rfl) rfl ?_
    refine wl_nil ?_
    refine thn ?_
    refine ret_ ?_
    refine thr ?_
    refine fin1 (v := .slice none 0 0) Try.results19 rfl rfl ?_
    exact ⟨_, ⟨none, 0, rfl, rfl⟩, H0.addNil _ _ _⟩
  · refine skip_ ?_
    refine thn ?_
    refine seq_ ?_
    refine region_ ?_
    refine wl_buildSlice0H (enc := encIns) H0 encIns_len Try.underlying30 ti87 ?_
    intro a1 w2 H2
    refine wl_valE (v := .slice a n c) rfl (rf_move rfl) rfl ?_
    refine wl_appendH (enc := encIns) (N := n) H2 0 rfl rfl encIns_len encIns_one Try.underlying30 ti87 rfl rfl rfl rfl rfl (H2.rdR 0 Le.rfl) (Nat.zero_add _) (by omega) (by omega) ?_
    intro a3 c3 w3 hc3 hd3 H3
    refine wl_valE (v := .slice a3 n c3) rfl (rf_assign rfl) rfl ?_
    refine wl_nil ?_
    refine thn ?_
    refine ret_ ?_
    refine fin1 (v := .slice a3 n c3) Try.results19 rfl rfl ?_
    exact ⟨_, ⟨_, _, rfl, rfl⟩, H3.pick' [0] rfl rfl⟩
theorem xnew_tr (p0 p1 : Nat) (a : Option Addr) (n c : Nat) (lib : List ProcR) (hd : Int) (hn : n ≤ 1048576) (hb : ∀ x ∈ lib, x.prog.code.n ≤ 4398046511104) (he : errL lib = 0) (hh : 1 ≤ hd ∧ hd ≤ 64) : Tr Try.prog 12 [.pointer (some ⟨p0, 0, none⟩), .pointer (some ⟨p1, 0, none⟩), .slice a n c, .int .i64 hd] [rdH encProc 6 a n c lib, shH (lib.map mkC)] [] (fun v q => ∃ b, v = .tuple #[.pointer (some ⟨b, 0, none⟩), .int .i64 0] ∧ q = []) := by
  intro w0 S0 H0
  obtain ⟨nh, rfl⟩ : ∃ nh : Nat, hd = (nh : Int) := ⟨hd.toNat, by omega⟩
  have hl := (rd_len (H0.rdR 0 Le.rfl)).1
  refine enterR Try.func12 rfl Try.ntmps12 rfl ?_
  intro g0
  refine seq_ ?_
  refine region_ ?_
  refine wl_valE (v := .pointer none) rfl (rf_assign rfl) rfl ?_
  refine wl_valE (v := .int .i64 (0 : Int)) rfl (rf_assign rfl) rfl ?_
  refine wl_nil ?_
  refine thn ?_
  refine seq_ ?_
  refine seq_ ?_
  refine region_ ?_
  refine wl_valE (v := .slice a n c) rfl (rf_move rfl) rfl ?_
  refine wl_tr H0 rfl [] (checkL_tr a n c lib) rfl (.ro 0 Le.rfl (.ro 1 Le.rfl .nil)) (rf_call Try.call17 rfl rfl) rfl ?_
  rintro _ w1 _ ⟨ei, rfl, rfl⟩ H1
  refine wl_valE (v := .tuple #[.int .i64 ei, .int .i64 (errL lib)]) rfl (rf_move rfl) rfl ?_
  refine wl_valE (v := .int .i64 ei) rfl (rf_extract rfl rfl rfl) rfl ?_
  refine wl_valE (v := .int .i64 (errL lib)) rfl (rf_extract rfl rfl rfl) rfl ?_
  refine wl_valE (v := .int .i64 ei) rfl (rf_assign rfl) rfl ?_
  refine wl_valE (v := .int .i64 (errL lib)) rfl (rf_assign rfl) rfl ?_
  refine wl_nil ?_
  refine thn ?_
  refine seq_ ?_
  refine region_ ?_
  refine wl_valE (v := .int .i64 (errL lib)) rfl (rf_move rfl) rfl ?_
  refine wl_valE (v := .bool (decide (errL lib ≠ (0 : Int)))) rfl (rf_neq rfl rfl rfl rfl) rfl ?_
  refine wl_nil ?_
  refine thn ?_
  refine condF' rfl rfl (t := decide (errL lib ≠ (0 : Int))) ((decide_eq_false (by omega))) ?_
  refine skip_ ?_
  refine thn ?_
  refine seq_ ?_
  refine seq_ ?_
  refine region_ ?_
  refine wl_valE (v := .int .i64 ((nh : Nat) : Int)) rfl (rf_move rfl) rfl ?_
  refine wl_valE (v := .bool (decide (((nh : Nat) : Int) < (1 : Int)))) rfl (rf_lss rfl rfl rfl rfl) rfl ?_
  refine wl_valE (v := .bool (decide (((nh : Nat) : Int) < (1 : Int)))) rfl (rf_move rfl) rfl ?_
  refine wl_guardT rfl rfl rfl (decide_eq_false (by omega)) ?_
  refine wl_valE (v := .int .i64 ((nh : Nat) : Int)) rfl (rf_move rfl) rfl ?_
  refine wl_guardT rfl rfl rfl (decide_eq_false (by omega)) ?_
  refine wl_valE (v := .bool (decide ((64 : Int) < ((nh : Nat) : Int)))) rfl (rf_gtr rfl rfl rfl rfl) rfl ?_
  refine wl_valE (v := .bool (decide ((64 : Int) < ((nh : Nat) : Int)))) rfl (rf_pickF rfl rfl rfl (decide_eq_false (by omega))) rfl ?_
  refine wl_nil ?_
  refine thn ?_
  refine condF' rfl rfl (t := decide ((64 : Int) < ((nh : Nat) : Int))) ((decide_eq_false (by omega))) ?_
  refine skip_ ?_
  refine thn ?_
  refine seq_ ?_
  refine region_ ?_
  refine wl_valE (v := .slice a n c) rfl (rf_move rfl) rfl ?_
  refine wl_tr H1 rfl [] (cloneP_tr a n c lib (by omega)) rfl (.ro 0 Le.rfl .nil) (rf_call Try.call18 rfl rfl) rfl ?_
  rintro _ w2 _ ⟨oa, oc, rfl, rfl⟩ H2
  refine wl_valE (v := .slice oa n oc) rfl (rf_assign rfl) rfl ?_
  refine wl_nil ?_
  refine thn ?_
  refine seq_ ?_
  refine seq_ ?_
  refine region_ ?_
  refine wl_valE (v := .slice oa n oc) rfl (rf_move rfl) rfl ?_
  refine wl_valE (v := .int .i64 ((n : Nat) : Int)) rfl (rf_len_slice Try.underlying24 rfl rfl) rfl ?_
  refine wl_valE (v := .int .i64 (0 : Int)) rfl (rf_move rfl) rfl ?_
  refine wl_nil ?_
  refine thn ?_
  refine block_ ?_
  refine loop_ (fun qk_ qf_ qw_ => ∃ (g : Nat → Value) (i : Nat) (ow : List ProcR), qf_ = upds g [(0, .pointer (some ⟨p0, 0, none⟩)), (1, .pointer (some ⟨p1, 0, none⟩)), (3, .int .i64 ((nh : Nat) : Int)), (12, .slice oa n oc), (31, .int .i64 ((n : Nat) : Int)), (32, .int .i64 ((i : Nat) : Int))] ∧ qk_ = n - i ∧ (i ≤ n ∧ ow.length = n) ∧ (∀ j : Nat, i ≤ j → ow[j]? = lib[j]?) ∧ St w0 S0 [rdH encProc 6 a n c lib, shH (lib.map mkC)] qw_ [slH encProc 6 34 oa n oc ow]) (n - 0) ?_ ?_
  · refine ⟨_, 0, lib, upds_self ⟨rfl, rfl, rfl, rfl, rfl, rfl, trivial⟩, rfl, ⟨Nat.zero_le _, hl.symm⟩, fun j _ => rfl, H2.pick' [0] rfl rfl⟩
  · rintro lk0 _ wl0 ⟨gl0, i, ow, rfl, hlk0, ⟨hi, hol⟩, hsm, HL0⟩
    refine seq_ ?_
    refine region_ ?_
    refine wl_valE (v := .bool (decide (((i : Nat) : Int) < ((n : Nat) : Int)))) rfl (rf_lss rfl rfl rfl rfl) rfl ?_
    refine wl_nil ?_
    refine thn ?_
    refine seq_ ?_
    refine cond_ (t := decide (((i : Nat) : Int) < ((n : Nat) : Int))) rfl rfl (fun c33 => ?_) (fun c33 => ?_)
    · have c33p := of_decide_eq_true c33
      refine skip_ ?_
      refine thn ?_
      refine seq_ ?_
      refine block_ ?_
      refine seq_ ?_
      refine region_ ?_
      refine wl_valE (v := .int .i64 ((i : Nat) : Int)) rfl (rf_move rfl) rfl ?_
      refine wl_valE (v := .int .i64 ((i : Nat) : Int)) rfl (rf_assign rfl) rfl ?_
      refine wl_nil ?_
      refine thn ?_
      have hn3 := slH_len HL0 0 rfl
      obtain ⟨x, hx⟩ : ∃ q_, ow[i]? = some q_ := ⟨_, List.getElem?_eq_getElem (by omega)⟩
      have hx2 : lib[i]? = some x := by rw [← hsm i (Nat.le_refl _)]; exact hx
      have H4 := HL0.shR 1 i rfl (getH_map mkC hx2)
      try dsimp only [mkC, List.cons_append, List.nil_append] at H4
      have hxn := hb x (List.mem_of_getElem? hx2)
      refine region_ ?_
      refine wl_valE (v := .slice oa n oc) rfl (rf_move rfl) rfl ?_
      refine wl_valE (v := .int .i64 ((i : Nat) : Int)) rfl (rf_move rfl) rfl ?_
      refine wl_valE (v := .slice oa n oc) rfl (rf_move rfl) rfl ?_
      refine wl_valE (v := .int .i64 ((i : Nat) : Int)) rfl (rf_move rfl) rfl ?_
      refine wl_valE (v := .pointer (some ⟨ab oa, ao oa + i * 6, none⟩)) rfl (rf_indexAddrH Try.underlying24 ti34 rfl rfl rfl rfl (by omega) (by omega) (H4.rdO 0 slH_rd)) rfl ?_
      refine wl_valE (v := .pointer (some ⟨ab oa, ao oa + i * 6 + 1, none⟩)) rfl (rf_fieldAddr Try.underlying34 rfl ti32 rfl rfl) rfl ?_
      refine wl_valE (v := .pointer (some ⟨ab oa, ao oa + i * 6 + 5, none⟩)) rfl (rf_fieldAddr Try.underlying32 rfl ti30 rfl rfl) rfl ?_
      refine wl_valE (v := .slice x.prog.code.a x.prog.code.n x.prog.code.c) rfl (rf_load Try.underlying30 rfl rfl rfl (rd_el (H4.rdO 0 slH_rd) hx 5 _ rfl)) rfl ?_
      refine wl_tr H4 rfl [] (cloneI_tr x.prog.code.a x.prog.code.n x.prog.code.c x.prog.cl (by omega)) rfl (.ro 2 Le.rfl .nil) (rf_call Try.call19 rfl rfl) rfl ?_
      rintro _ w5 _ ⟨ac5, cc5, rfl, rfl⟩ H5
      refine wl_valE (v := .pointer (some ⟨ab oa, ao oa + i * 6, none⟩)) rfl (rf_indexAddrH Try.underlying24 ti34 rfl rfl rfl rfl (by omega) (by omega) (H5.rdO 0 slH_rd)) rfl ?_
      refine wl_valE (v := .pointer (some ⟨ab oa, ao oa + i * 6 + 1, none⟩)) rfl (rf_fieldAddr Try.underlying34 rfl ti32 rfl rfl) rfl ?_
      refine wl_valE (v := .pointer (some ⟨ab oa, ao oa + i * 6 + 5, none⟩)) rfl (rf_fieldAddr Try.underlying32 rfl ti30 rfl rfl) rfl ?_
      refine wl_storeElH H5 0 (enc := encProc) (i := i) (j := 5) (q := { x with prog.code := ⟨ac5, x.prog.code.n, cc5⟩ }) (u := .slice ac5 x.prog.code.n cc5) (cs := [.slice ac5 x.prog.code.n cc5]) rfl rfl encProc_len ti30 rfl rfl rfl rfl rfl rfl oneAll hx (leb rfl) rfl ?_
      intro w6 H6
      try dsimp only [putsH, setH, List.cons_append, List.nil_append] at H6
      have hx6 : (ow.set i ({ x with prog.code := ⟨ac5, x.prog.code.n, cc5⟩ }))[i]? = some ({ x with prog.code := ⟨ac5, x.prog.code.n, cc5⟩ }) := List.getElem?_set_self (List.getElem?_eq_some_iff.1 hx).1
      have hn6 := slH_len H6 0 rfl
      refine wl_nil ?_
      refine bln ?_
      refine thn ?_
      refine region_ ?_
      refine wl_valE (v := .int .i64 ((i + 1 : Nat) : Int)) rfl (rf_add rfl rfl rfl rfl (IntWalk.i64_in _ (by omega))) rfl ?_
      refine wl_valE (v := .int .i64 ((i + 1 : Nat) : Int)) rfl (rf_move rfl) rfl ?_
      refine wl_nil ?_
      refine thn ?_
      refine ⟨n - (i + 1), _, rfl, (by omega), _, i + 1, (ow.set i ({ x with prog.code := ⟨ac5, x.prog.code.n, cc5⟩ })), upds_self ⟨rfl, rfl, rfl, rfl, rfl, rfl, trivial⟩, rfl, ⟨by omega, by rw [List.length_set]; exact hol⟩, fun j hj => by rw [List.getElem?_set_ne (by omega)]; exact hsm j (by omega), (H6.weakR 2 rfl).pick' [0] rfl rfl⟩
    · have c33p := of_decide_eq_false c33
      refine exit_ ?_
      refine thx (thx (blx ?_))
      refine thn ?_
      refine seq_ ?_
      refine region_ ?_
      refine wl_valE (v := .pointer (some ⟨p0, 0, none⟩)) rfl (rf_move rfl) rfl ?_
      refine wl_valE (v := .pointer (some ⟨p1, 0, none⟩)) rfl (rf_move rfl) rfl ?_
      refine wl_valE (v := .slice oa n oc) rfl (rf_move rfl) rfl ?_
      refine wl_valE (v := .int .i64 ((nh : Nat) : Int)) rfl (rf_move rfl) rfl ?_
      refine wl_makeSliceH (enc := encSv) (l := nh) (c := nh) HL0 (⟨none, 0, 0⟩) rfl encSv_len Try.underlying88 ti157 rfl rfl rfl rfl rfl (by omega) (by omega) ?_
      intro xs w8 H8
      refine wl_valE (v := .agg #[.pointer (some ⟨p0, 0, none⟩), .pointer (some ⟨p1, 0, none⟩), .slice oa n oc, .slice xs nh nh]) rfl (rf_build (offs := [(0, [.pointer (some ⟨p0, 0, none⟩)]), (1, [.pointer (some ⟨p1, 0, none⟩)]), (2, [.slice oa n oc]), (3, [.slice xs nh nh])]) (places := #[(0, 1), (1, 1), (2, 1), (3, 1)]) Try.underlying90 ti90 (fun w => by kernel_rfl) (.cons rfl rfl rfl rfl rfl rfl (.cons rfl rfl rfl rfl rfl rfl (.cons rfl rfl rfl rfl rfl rfl (.cons rfl rfl rfl rfl rfl rfl .nil))))) rfl ?_
      refine wl_boxH H8 (v := .agg #[.pointer (some ⟨p0, 0, none⟩), .pointer (some ⟨p1, 0, none⟩), .slice oa n oc, .slice xs nh nh]) rfl rfl ?_
      intro b9 w10 H10
      refine wl_valE (v := .pointer (some ⟨b9, 0, none⟩)) rfl (rf_assign rfl) rfl ?_
      refine wl_valE (v := .int .i64 (0 : Int)) rfl (rf_assign rfl) rfl ?_
      refine wl_nil ?_
      refine thn ?_
      refine ret_ ?_
      refine fin2 (v1 := .pointer (some ⟨b9, 0, none⟩)) (v2 := .int .i64 (0 : Int)) Try.results12 rfl rfl rfl rfl ?_
      exact ⟨_, ⟨_, rfl, rfl⟩, H10.pick' [] rfl rfl⟩
theorem xnewB_tr (p0 p1 : Nat) (a : Option Addr) (n c : Nat) (lib : List ProcR) (hd : Int) (h : herr lib hd ≠ 0) : Tr Try.prog 12 [.pointer (some ⟨p0, 0, none⟩), .pointer (some ⟨p1, 0, none⟩), .slice a n c, .int .i64 hd] [rdH encProc 6 a n c lib, shH (lib.map mkC)] [] (fun v q => v = .tuple #[.pointer none, .int .i64 (herr lib hd)] ∧ q = []) := by
  intro w0 S0 H0
  have hcase : errL lib ≠ 0 ∨ ¬ (1 ≤ hd ∧ hd ≤ 64) := by unfold herr at h; omega
  refine enterR Try.func12 rfl Try.ntmps12 rfl ?_
  intro g0
  refine seq_ ?_
  refine region_ ?_
  refine wl_valE (v := .pointer none) rfl (rf_assign rfl) rfl ?_
  refine wl_valE (v := .int .i64 (0 : Int)) rfl (rf_assign rfl) rfl ?_
  refine wl_nil ?_
  refine thn ?_
  refine seq_ ?_
  refine seq_ ?_
  refine region_ ?_
  refine wl_valE (v := .slice a n c) rfl (rf_move rfl) rfl ?_
  refine wl_tr H0 rfl [] (checkL_tr a n c lib) rfl (.ro 0 Le.rfl (.ro 1 Le.rfl .nil)) (rf_call Try.call17 rfl rfl) rfl ?_
  rintro _ w1 _ ⟨ei, rfl, rfl⟩ H1
  refine wl_valE (v := .tuple #[.int .i64 ei, .int .i64 (errL lib)]) rfl (rf_move rfl) rfl ?_
  refine wl_valE (v := .int .i64 ei) rfl (rf_extract rfl rfl rfl) rfl ?_
  refine wl_valE (v := .int .i64 (errL lib)) rfl (rf_extract rfl rfl rfl) rfl ?_
  refine wl_valE (v := .int .i64 ei) rfl (rf_assign rfl) rfl ?_
  refine wl_valE (v := .int .i64 (errL lib)) rfl (rf_assign rfl) rfl ?_
  refine wl_nil ?_
  refine thn ?_
  refine seq_ ?_
  refine region_ ?_
  refine wl_valE (v := .int .i64 (errL lib)) rfl (rf_move rfl) rfl ?_
  refine wl_valE (v := .bool (decide (errL lib ≠ (0 : Int)))) rfl (rf_neq rfl rfl rfl rfl) rfl ?_
  refine wl_nil ?_
  refine thn ?_
  refine cond_ (t := decide (errL lib ≠ (0 : Int))) rfl rfl (fun c20 => ?_) (fun c20 => ?_)
  · have c20p := of_decide_eq_true c20
    refine seq_ ?_
    refine region_ ?_
    refine wl_valE (v := .int .i64 (errL lib)) rfl (rf_move rfl) rfl ?_
    refine wl_valE (v := .pointer none) rfl (rf_assign rfl) rfl ?_
    refine wl_valE (v := .int .i64 (errL lib)) rfl (rf_assign rfl) rfl ?_
    refine wl_nil ?_
    refine thn ?_
    refine ret_ ?_
    refine thr ?_
    refine fin2 (v1 := .pointer none) (v2 := .int .i64 (errL lib)) Try.results12 rfl rfl rfl rfl ?_
    exact ⟨_, ⟨by unfold herr; rw [if_pos (by omega)], rfl⟩, H1.pick' [] rfl rfl⟩
  · have c20p := of_decide_eq_false c20
    refine skip_ ?_
    refine thn ?_
    refine seq_ ?_
    refine seq_ ?_
    refine region_ ?_
    refine wl_valE (v := .int .i64 hd) rfl (rf_move rfl) rfl ?_
    refine wl_valE (v := .bool (decide (hd < (1 : Int)))) rfl (rf_lss rfl rfl rfl rfl) rfl ?_
    refine wl_valE (v := .bool (decide (hd < (1 : Int)))) rfl (rf_move rfl) rfl ?_
    refine wl_split (decide (hd < (1 : Int))) (fun u4_2 => ?_) (fun u4_2 => ?_)
    · have u4_2p := of_decide_eq_true u4_2
      refine wl_guardF rfl rfl rfl u4_2 ?_
      refine wl_guardF rfl rfl rfl u4_2 ?_
      refine wl_valE (v := .bool true) rfl (rf_pickT rfl rfl rfl u4_2) rfl ?_
      refine wl_nil ?_
      refine thn ?_
      refine condT rfl rfl ?_
      refine seq_ ?_
      refine region_ ?_
      refine wl_valE (v := .pointer none) rfl (rf_assign rfl) rfl ?_
      refine wl_valE (v := .int .i64 (120 : Int)) rfl (rf_assign rfl) rfl ?_
      refine wl_nil ?_
      refine thn ?_
      refine ret_ ?_
      refine thr ?_
      refine fin2 (v1 := .pointer none) (v2 := .int .i64 (120 : Int)) Try.results12 rfl rfl rfl rfl ?_
      exact ⟨_, ⟨by unfold herr; rw [if_neg (by omega), if_neg (by omega)], rfl⟩, H1.pick' [] rfl rfl⟩
    · have u4_2p := of_decide_eq_false u4_2
      refine wl_guardT rfl rfl rfl u4_2 ?_
      refine wl_valE (v := .int .i64 hd) rfl (rf_move rfl) rfl ?_
      refine wl_guardT rfl rfl rfl u4_2 ?_
      refine wl_valE (v := .bool (decide ((64 : Int) < hd))) rfl (rf_gtr rfl rfl rfl rfl) rfl ?_
      refine wl_valE (v := .bool (decide ((64 : Int) < hd))) rfl (rf_pickF rfl rfl rfl u4_2) rfl ?_
      refine wl_nil ?_
      refine thn ?_
      refine cond_ (t := decide ((64 : Int) < hd)) rfl rfl (fun c27 => ?_) (fun c27 => ?_)
      · have c27p := of_decide_eq_true c27
        refine seq_ ?_
        refine region_ ?_
        refine wl_valE (v := .pointer none) rfl (rf_assign rfl) rfl ?_
        refine wl_valE (v := .int .i64 (120 : Int)) rfl (rf_assign rfl) rfl ?_
        refine wl_nil ?_
        refine thn ?_
        refine ret_ ?_
        refine thr ?_
        refine fin2 (v1 := .pointer none) (v2 := .int .i64 (120 : Int)) Try.results12 rfl rfl rfl rfl ?_
        exact ⟨_, ⟨by unfold herr; rw [if_neg (by omega), if_neg (by omega)], rfl⟩, H1.pick' [] rfl rfl⟩
      · have c27p := of_decide_eq_false c27
        omega
theorem parts_tr (a : Option Addr) (n c : Nat) (lib : List ProcR) (hn : n ≤ 140737488351232) (hs : ∀ x ∈ lib, x.name.size ≤ 140737488351232 ∧ x.prog.code.n ≤ 140737488351232) : Tr Try.prog 4 [.slice a n c, .int .i64 100000] [rdH encProc 6 a n c lib] [] (fun v m => ∃ y, v = .int .i64 y ∧ (0 ≤ y → n ≤ 100000 ∧ ∀ x ∈ lib, x.prog.code.n ≤ 100000) ∧ m = []) := by
  intro w0 S0 H0
  have hl := (rd_len (H0.rdR 0 Le.rfl)).1
  refine enterR Try.func4 rfl Try.ntmps4 rfl ?_
  intro g0
  refine seq_ ?_
  refine region_ ?_
  refine wl_valE (v := .int .i64 (0 : Int)) rfl (rf_assign rfl) rfl ?_
  refine wl_nil ?_
  refine thn ?_
  refine seq_ ?_
  refine seq_ ?_
  refine region_ ?_
  refine wl_valE (v := .int .i64 (0 : Int)) rfl (rf_assign rfl) rfl ?_
  refine wl_nil ?_
  refine thn ?_
  refine block_ ?_
  refine loop_ (fun qk_ qf_ qw_ => ∃ (g : Nat → Value) (i : Nat) (y : Int), qf_ = upds g [(0, .slice a n c), (1, .int .i64 y), (5, .int .i64 ((i : Nat) : Int))] ∧ qk_ = n - i ∧ (i ≤ n) ∧ (-1000000000000000 ≤ y ∧ y + ((i : Nat) : Int) ≤ 100000) ∧ (∀ (j : Nat) x, lib[j]? = some x → j < i → y + ((x.prog.code.n : Nat) : Int) ≤ 100000) ∧ St w0 S0 [rdH encProc 6 a n c lib] qw_ []) (n - 0) ?_ ?_
  · refine ⟨_, 0, 100000, upds_self ⟨rfl, rfl, rfl, trivial⟩, rfl, Nat.zero_le _, ⟨by omega, by omega⟩, fun j x _ h => by omega, H0.pick' [] rfl rfl⟩
  · rintro lk0 _ wl0 ⟨gl0, i, y, rfl, hlk0, hi, hy, hyc, HL0⟩
    refine seq_ ?_
    refine seq_ ?_
    refine region_ ?_
    refine wl_valE (v := .int .i64 ((i : Nat) : Int)) rfl (rf_move rfl) rfl ?_
    refine wl_valE (v := .slice a n c) rfl (rf_move rfl) rfl ?_
    refine wl_valE (v := .int .i64 ((n : Nat) : Int)) rfl (rf_len_slice Try.underlying24 rfl rfl) rfl ?_
    refine wl_valE (v := .bool (decide (((i : Nat) : Int) < ((n : Nat) : Int)))) rfl (rf_lss rfl rfl rfl rfl) rfl ?_
    refine wl_valE (v := .bool (decide (((i : Nat) : Int) < ((n : Nat) : Int)))) rfl (rf_move rfl) rfl ?_
    refine wl_split (decide (((i : Nat) : Int) < ((n : Nat) : Int))) (fun u2_4 => ?_) (fun u2_4 => ?_)
    · have u2_4p := of_decide_eq_true u2_4
      refine wl_guardT rfl rfl rfl u2_4 ?_
      refine wl_valE (v := .int .i64 y) rfl (rf_move rfl) rfl ?_
      refine wl_guardT rfl rfl rfl u2_4 ?_
      refine wl_valE (v := .bool (decide ((0 : Int) ≤ y))) rfl (rf_geq rfl rfl rfl rfl) rfl ?_
      refine wl_valE (v := .bool (decide ((0 : Int) ≤ y))) rfl (rf_pickT rfl rfl rfl u2_4) rfl ?_
      refine wl_nil ?_
      refine thn ?_
      refine cond_ (t := decide ((0 : Int) ≤ y)) rfl rfl (fun c13 => ?_) (fun c13 => ?_)
      · have c13p := of_decide_eq_true c13
        refine skip_ ?_
        refine thn ?_
        refine seq_ ?_
        refine block_ ?_
        have hn1 := rd_len (HL0.rdR 0 Le.rfl)
        obtain ⟨x, hx⟩ : ∃ q_, lib[i]? = some q_ := ⟨_, List.getElem?_eq_getElem (by omega)⟩
        have hsx := hs x (List.mem_of_getElem? hx)
        refine region_q mixedP (by kernel_rfl) ?_
        refine qt_valE (v := .int .i64 y) rfl (fun wq hq => rf_move rfl) rfl ?_
        refine qt_valE (v := .int .i64 (y - (1 : Int))) rfl (fun wq hq => rf_sub rfl rfl rfl rfl (IntWalk.i64_in _ (by omega))) rfl ?_
        refine qt_valE (v := .slice a n c) rfl (fun wq hq => rf_move rfl) rfl ?_
        refine qt_valE (v := .int .i64 ((i : Nat) : Int)) rfl (fun wq hq => rf_move rfl) rfl ?_
        refine qt_valE (v := .pointer (some ⟨ab a, ao a + i * 6, none⟩)) rfl (fun wq hq => rf_indexAddrH Try.underlying24 ti34 rfl rfl rfl rfl (by omega) (by omega) ((HL0.keep hq).rdR 0 Le.rfl)) rfl ?_
        refine qt_valE (v := .pointer (some ⟨ab a, ao a + i * 6, none⟩)) rfl (fun wq hq => rf_fieldAddr Try.underlying34 rfl ti9 rfl rfl) rfl ?_
        refine qt_valE (v := .string x.name) rfl (fun wq hq => rf_load Try.underlying9 rfl rfl rfl (rd_el ((HL0.keep hq).rdR 0 Le.rfl) hx 0 _ rfl)) rfl ?_
        refine qt_valE (v := .int .i64 ((x.name.size : Nat) : Int)) rfl (fun wq hq => rf_len_string Try.underlying9 rfl rfl) rfl ?_
        refine qt_valE (v := .int .i64 ((y - (1 : Int)) - ((x.name.size : Nat) : Int))) rfl (fun wq hq => rf_sub rfl rfl rfl rfl (IntWalk.i64_in _ (by omega))) rfl ?_
        refine qt_valE (v := .slice a n c) rfl (fun wq hq => rf_move rfl) rfl ?_
        refine qt_valE (v := .int .i64 ((i : Nat) : Int)) rfl (fun wq hq => rf_move rfl) rfl ?_
        refine qt_valE (v := .pointer (some ⟨ab a, ao a + i * 6, none⟩)) rfl (fun wq hq => rf_indexAddrH Try.underlying24 ti34 rfl rfl rfl rfl (by omega) (by omega) ((HL0.keep hq).rdR 0 Le.rfl)) rfl ?_
        refine qt_valE (v := .pointer (some ⟨ab a, ao a + i * 6 + 1, none⟩)) rfl (fun wq hq => rf_fieldAddr Try.underlying34 rfl ti32 rfl rfl) rfl ?_
        refine qt_valE (v := .pointer (some ⟨ab a, ao a + i * 6 + 5, none⟩)) rfl (fun wq hq => rf_fieldAddr Try.underlying32 rfl ti30 rfl rfl) rfl ?_
        refine qt_valE (v := .slice x.prog.code.a x.prog.code.n x.prog.code.c) rfl (fun wq hq => rf_load Try.underlying30 rfl rfl rfl (rd_el ((HL0.keep hq).rdR 0 Le.rfl) hx 5 _ rfl)) rfl ?_
        refine qt_valE (v := .int .i64 ((x.prog.code.n : Nat) : Int)) rfl (fun wq hq => rf_len_slice Try.underlying30 rfl rfl) rfl ?_
        refine qt_valE (v := .int .i64 (((y - (1 : Int)) - ((x.name.size : Nat) : Int)) - ((x.prog.code.n : Nat) : Int))) rfl (fun wq hq => rf_sub rfl rfl rfl rfl (IntWalk.i64_in _ (by omega))) rfl ?_
        refine qt_valE (v := .int .i64 (((y - (1 : Int)) - ((x.name.size : Nat) : Int)) - ((x.prog.code.n : Nat) : Int))) rfl (fun wq hq => rf_assign rfl) rfl ?_
        refine qt_nil ?_
        intro w2 hk2
        have H2 := HL0.keep hk2
        refine bln ?_
        refine thn ?_
        refine region_ ?_
        refine wl_valE (v := .int .i64 ((i : Nat) : Int)) rfl (rf_move rfl) rfl ?_
        refine wl_valE (v := .int .i64 ((i + 1 : Nat) : Int)) rfl (rf_add rfl rfl rfl rfl (IntWalk.i64_in _ (by omega))) rfl ?_
        refine wl_valE (v := .int .i64 ((i + 1 : Nat) : Int)) rfl (rf_assign rfl) rfl ?_
        refine wl_nil ?_
        refine thn ?_
        refine ⟨n - (i + 1), _, rfl, (by omega), _, i + 1, (((y - (1 : Int)) - ((x.name.size : Nat) : Int)) - ((x.prog.code.n : Nat) : Int)), upds_self ⟨rfl, rfl, rfl, trivial⟩, rfl, by omega, ⟨by omega, by omega⟩, fun j z hz h => by
          rcases Nat.lt_or_eq_of_le (Nat.le_of_lt_succ h) with h | h
          · have := hyc j z hz h; omega
          · subst h; rw [hx] at hz; cases hz; omega, H2.pick' [] rfl rfl⟩
      · have c13p := of_decide_eq_false c13
        refine exit_ ?_
        refine thx (thx (blx ?_))
        refine thn ?_
        refine seq_ ?_
        refine region_ ?_
        refine wl_valE (v := .int .i64 y) rfl (rf_move rfl) rfl ?_
        refine wl_valE (v := .int .i64 y) rfl (rf_assign rfl) rfl ?_
        refine wl_nil ?_
        refine thn ?_
        refine ret_ ?_
        refine fin1 (v := .int .i64 y) Try.results4 rfl rfl ?_
        exact ⟨_, ⟨_, rfl, fun h => ⟨by omega, fun x hx => by obtain ⟨j, hj⟩ := List.getElem?_of_mem hx; have := hyc j x hj (by have := (List.getElem?_eq_some_iff.1 hj).1; omega); omega⟩, rfl⟩, HL0.pick' [] rfl rfl⟩
    · have u2_4p := of_decide_eq_false u2_4
      refine wl_guardF rfl rfl rfl u2_4 ?_
      refine wl_guardF rfl rfl rfl u2_4 ?_
      refine wl_valE (v := .bool false) rfl (rf_pickF rfl rfl rfl u2_4) rfl ?_
      refine wl_nil ?_
      refine thn ?_
      refine condF rfl rfl ?_
      refine exit_ ?_
      refine thx (thx (blx ?_))
      refine thn ?_
      refine seq_ ?_
      refine region_ ?_
      refine wl_valE (v := .int .i64 y) rfl (rf_move rfl) rfl ?_
      refine wl_valE (v := .int .i64 y) rfl (rf_assign rfl) rfl ?_
      refine wl_nil ?_
      refine thn ?_
      refine ret_ ?_
      refine fin1 (v := .int .i64 y) Try.results4 rfl rfl ?_
      exact ⟨_, ⟨_, rfl, fun h => ⟨by omega, fun x hx => by obtain ⟨j, hj⟩ := List.getElem?_of_mem hx; have := hyc j x hj (by have := (List.getElem?_eq_some_iff.1 hj).1; omega); omega⟩, rfl⟩, HL0.pick' [] rfl rfl⟩
end Go.Proofs.Ytphllgfbjfajfaa.W
