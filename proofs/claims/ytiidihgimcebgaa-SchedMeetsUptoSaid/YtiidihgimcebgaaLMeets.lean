import Derived.Test.YtiidihgimcebgaaC7
import Derived.KernelRfl
namespace Go.Proofs.Ytiidihgimcebgaa.W
open Go Go.Wk
set_option linter.unusedVariables false
theorem meets_tr (a : Option Addr) (n c : Nat) (l : List MakeR) (turn : Int) (a2 : Option Addr) (n2 c2 : Nat) (pk : List Int) (most : Int) (hn : n ≤ 1048576) (hn2 : n2 ≤ 1048576) (hb : ∀ x ∈ l, x.behind.n ≤ 4398046511104) (hbl : ∀ x ∈ l, x.bl.length ≤ 4398046511104) : Tr Try.prog 9 [.slice a n c, .int .i64 turn, .slice a2 n2 c2, .int .i64 most] [rdH encMake 2 a n c l, shH (l.map mkB), rdH encI 1 a2 n2 c2 pk] [] (fun v m => v = .bool true) := by
  intro w0 S0 H0
  have hl1 := (rd_len (H0.rdR 0 Le.rfl)).1
  have hl2 := (rd_len (H0.rdR 2 Le.rfl)).1
  have hj0 : Jn (mkCs 0 l) (mkTs n turn 0 n) := ⟨mk_wf hl1 hbl (by omega), mk_dag l, mk_cov hl1⟩
  have ht0 := mk_tot l 0
  have htf := totF_in (l.map (·.steps))
  rw [List.length_map] at htf
  have hpl := playN_le (l := pk) hj0.wf
  have hpj := playC_jn (l := pk) hj0
  have hplen := playC_len (ts := (mkTs n turn 0 n)) pk (mkCs 0 l)
  rw [mkCs_len] at hplen
  have hdt := drain_tot (ts := (mkTs n turn 0 n)) (f := totL (playC (mkTs n turn 0 n) (mkCs 0 l) pk) + 1) (cs := playC (mkTs n turn 0 n) (mkCs 0 l) pk) (m := most) hpj.wf
  refine enterR Try.func9 rfl Try.ntmps9 rfl ?_
  intro g0
  refine seq_ ?_
  refine region_ ?_
  refine wl_valE (v := .bool false) rfl (rf_assign rfl) rfl ?_
  refine wl_nil ?_
  refine thn ?_
  refine seq_ ?_
  refine seq_ ?_
  refine region_ ?_
  refine wl_valE (v := .slice a n c) rfl (rf_move rfl) rfl ?_
  refine wl_tr H0 rfl [] (parts_tr a n c l none 0 0 [] (fun x hx => Nat.le_trans (hb x hx) (by decide)) (by simp) (by omega) (by omega)) rfl (.ro 0 Le.rfl (.non nil_rd .nil)) (rf_call Try.call10 rfl rfl) rfl ?_
  rintro _ w1 _ ⟨rfl, rfl⟩ H1
  refine wl_valE (v := .bool (decide (pL (pL 100000 (l.map (·.behind.n))) (([] : List OpR).map (·.picks.n)) < (0 : Int)))) rfl (rf_lss rfl rfl rfl rfl) rfl ?_
  refine wl_nil ?_
  refine thn ?_
  refine cond_ (t := decide (pL (pL 100000 (l.map (·.behind.n))) (([] : List OpR).map (·.picks.n)) < (0 : Int))) rfl rfl (fun c21 => ?_) (fun c21 => ?_)
  · have c21p := of_decide_eq_true c21
    refine seq_ ?_
    refine region_ ?_
    refine wl_valE (v := .bool true) rfl (rf_assign rfl) rfl ?_
    refine wl_nil ?_
    refine thn ?_
    refine ret_ ?_
    refine thr ?_
    refine fin1 (v := .bool true) Try.results9 rfl rfl ?_
    exact ⟨_, rfl, H1.pick' [] rfl rfl⟩
  · have c21p := of_decide_eq_false c21
    refine skip_ ?_
    refine thn ?_
    refine seq_ ?_
    refine seq_ ?_
    refine region_ ?_
    refine wl_tr H1 rfl [] (works_tr) rfl .nil (rf_call Try.call11 rfl rfl) rfl ?_
    rintro _ w2 _ ⟨rfl, rfl⟩ H2
    refine wl_valE (v := .bool false) rfl (rf_not rfl rfl) rfl ?_
    refine wl_nil ?_
    refine thn ?_
    refine condF rfl rfl ?_
    refine skip_ ?_
    refine thn ?_
    refine seq_ ?_
    refine region_ ?_
    refine wl_valE (v := .slice a n c) rfl (rf_move rfl) rfl ?_
    refine wl_valE (v := .int .i64 turn) rfl (rf_move rfl) rfl ?_
    refine wl_tr H2 rfl [] (line_tr a n c l turn (by omega) hb) rfl (.ro 0 Le.rfl (.ro 1 Le.rfl .nil)) (rf_call Try.call12 rfl rfl) rfl ?_
    rintro _ w3 _ ⟨ps1, al1, cl1, pl1, hps1, rfl, rfl⟩ H3
    refine wl_valE (v := .tuple #[.slice al1 n cl1, .pointer (some ⟨pl1, 0, none⟩)]) rfl (rf_move rfl) rfl ?_
    refine wl_valE (v := .slice al1 n cl1) rfl (rf_extract rfl rfl rfl) rfl ?_
    refine wl_valE (v := .pointer (some ⟨pl1, 0, none⟩)) rfl (rf_extract rfl rfl rfl) rfl ?_
    refine wl_valE (v := .slice al1 n cl1) rfl (rf_assign rfl) rfl ?_
    refine wl_valE (v := .pointer (some ⟨pl1, 0, none⟩)) rfl (rf_assign rfl) rfl ?_
    refine wl_nil ?_
    refine thn ?_
    refine seq_ ?_
    refine region_ ?_
    refine wl_valE (v := .slice a n c) rfl (rf_move rfl) rfl ?_
    refine wl_valE (v := .int .i64 turn) rfl (rf_move rfl) rfl ?_
    refine wl_tr H3 rfl [] (line_tr a n c l turn (by omega) hb) rfl (.ro 0 Le.rfl (.ro 1 Le.rfl .nil)) (rf_call Try.call12 rfl rfl) rfl ?_
    rintro _ w4 _ ⟨ps2, al2, cl2, pl2, hps2, rfl, rfl⟩ H4
    refine wl_valE (v := .tuple #[.slice al2 n cl2, .pointer (some ⟨pl2, 0, none⟩)]) rfl (rf_move rfl) rfl ?_
    refine wl_valE (v := .slice al2 n cl2) rfl (rf_extract rfl rfl rfl) rfl ?_
    refine wl_valE (v := .pointer (some ⟨pl2, 0, none⟩)) rfl (rf_extract rfl rfl rfl) rfl ?_
    refine wl_valE (v := .slice al2 n cl2) rfl (rf_assign rfl) rfl ?_
    refine wl_valE (v := .pointer (some ⟨pl2, 0, none⟩)) rfl (rf_assign rfl) rfl ?_
    refine wl_nil ?_
    refine thn ?_
    refine seq_ ?_
    refine region_ ?_
    refine wl_valE (v := .pointer (some ⟨pl1, 0, none⟩)) rfl (rf_move rfl) rfl ?_
    refine wl_valE (v := .slice a2 n2 c2) rfl (rf_move rfl) rfl ?_
    refine wl_tr H4 rfl [2, 1] (play_tr hj0.wf ⟨by omega, by omega⟩ a2 n2 c2 pk (by omega)) rfl (.ro 2 Le.rfl .nil) (rf_call Try.call26 rfl rfl) rfl ?_
    rintro _ w5 _ ⟨rfl, rfl⟩ H5
    refine wl_valE (v := .int .i64 ((playN (mkTs n turn 0 n) (mkCs 0 l) pk : Nat) : Int)) rfl (rf_assign rfl) rfl ?_
    refine wl_nil ?_
    refine thn ?_
    refine seq_ ?_
    refine region_ ?_
    refine wl_valE (v := .int .i64 (0 : Int)) rfl (rf_assign rfl) rfl ?_
    refine wl_nil ?_
    refine thn ?_
    refine seq_ ?_
    refine seq_ ?_
    refine region_ ?_
    refine wl_valE (v := .int .i64 (0 : Int)) rfl (rf_assign rfl) rfl ?_
    refine wl_nil ?_
    refine thn ?_
    refine block_ ?_
    refine loop_ (fun qk_ qf_ qw_ => ∃ (g : Nat → Value) (i : Nat) (d : Nat) (cs : List Cho), qf_ = upds g [(2, .slice a2 n2 c2), (3, .int .i64 most), (9, .slice al1 n cl1), (10, .pointer (some ⟨pl1, 0, none⟩)), (11, .slice al2 n cl2), (12, .pointer (some ⟨pl2, 0, none⟩)), (13, .int .i64 ((playN (mkTs n turn 0 n) (mkCs 0 l) pk : Nat) : Int)), (14, .int .i64 ((d : Nat) : Int)), (15, .int .i64 ((i : Nat) : Int))] ∧ qk_ = n2 - i ∧ (i ≤ n2) ∧ (WfC cs (mkTs n turn 0 n) ∧ d + totL cs = totL (mkCs 0 l) ∧ playC (mkTs n turn 0 n) cs (pk.drop i) = playC (mkTs n turn 0 n) (mkCs 0 l) pk ∧ d + playN (mkTs n turn 0 n) cs (pk.drop i) = playN (mkTs n turn 0 n) (mkCs 0 l) pk) ∧ St w0 S0 [rdH encMake 2 a n c l, shH (l.map mkB), rdH encI 1 a2 n2 c2 pk] qw_ [slH encOP 1 30 al1 n cl1 (ps1.map some), ChH ps1 (playC (mkTs n turn 0 n) (mkCs 0 l) pk), lineH pl1 ps1 (mkTs n turn 0 n) ((0 : Int) + ((playN (mkTs n turn 0 n) (mkCs 0 l) pk : Nat) : Int)), slH encOP 1 30 al2 n cl2 (ps2.map some), ChH ps2 cs, lineH pl2 ps2 (mkTs n turn 0 n) ((d : Nat) : Int)]) (n2 - 0) ?_ ?_
    · refine ⟨_, 0, 0, mkCs 0 l, upds_self ⟨rfl, rfl, rfl, rfl, rfl, rfl, rfl, rfl, rfl, trivial⟩, rfl, Nat.zero_le _, ⟨hj0.wf, by omega, rfl, Nat.zero_add _⟩, H5.pick' [0, 1, 2, 3, 4, 5] rfl rfl⟩
    · rintro lk0 _ wl0 ⟨gl0, i, d, cs, rfl, hlk0, hr0, ⟨hw, htd, hp1, hp2⟩, HL0⟩
      refine seq_ ?_
      refine seq_ ?_
      refine region_ ?_
      refine wl_valE (v := .int .i64 ((i : Nat) : Int)) rfl (rf_move rfl) rfl ?_
      refine wl_valE (v := .slice a2 n2 c2) rfl (rf_move rfl) rfl ?_
      refine wl_valE (v := .int .i64 ((n2 : Nat) : Int)) rfl (rf_len_slice Try.underlying23 rfl rfl) rfl ?_
      refine wl_valE (v := .bool (decide (((i : Nat) : Int) < ((n2 : Nat) : Int)))) rfl (rf_lss rfl rfl rfl rfl) rfl ?_
      refine wl_nil ?_
      refine thn ?_
      refine cond_ (t := decide (((i : Nat) : Int) < ((n2 : Nat) : Int))) rfl rfl (fun c42 => ?_) (fun c42 => ?_)
      · have c42p := of_decide_eq_true c42
        refine skip_ ?_
        refine thn ?_
        refine seq_ ?_
        refine block_ ?_
        refine seq_ ?_
        refine region_ ?_
        refine wl_valE (v := .pointer (some ⟨pl2, 0, none⟩)) rfl (rf_move rfl) rfl ?_
        refine wl_valE (v := .slice a2 n2 c2) rfl (rf_move rfl) rfl ?_
        refine wl_valE (v := .int .i64 ((i : Nat) : Int)) rfl (rf_move rfl) rfl ?_
        refine wl_valE (v := .pointer (some ⟨ab a2, ao a2 + i * 1, none⟩)) rfl (rf_indexAddrH Try.underlying23 ti3 rfl rfl rfl rfl (by omega) (by omega) (HL0.rdR 2 Le.rfl)) rfl ?_
        have hn7 := rd_len (HL0.rdR 2 Le.rfl)
        obtain ⟨x6, hx6⟩ : ∃ x, pk[i]? = some x := ⟨_, List.getElem?_eq_getElem (by omega)⟩
        refine wl_valE (v := .int .i64 x6) rfl (rf_load Try.underlying3 rfl rfl rfl (rd_el (HL0.rdR 2 Le.rfl) hx6 0 _ rfl)) rfl ?_
        refine wl_tr HL0 rfl [5, 4] (take_tr hw ⟨by omega, by omega⟩ x6) rfl .nil (rf_call Try.call14 rfl rfl) rfl ?_
        rintro _ w8 _ ⟨rfl, rfl⟩ H8
        have htt := takeC_tot hw x6
        have hq2 : 0 ≤ takeV cs (mkTs n turn 0 n) x6 → (bn (takeI cs (mkTs n turn 0 n) x6).isSome = 1) := fun h => by obtain ⟨i, hi⟩ := takeV_pos h; rw [hi]; rfl
        have hq3 : ¬ 0 ≤ takeV cs (mkTs n turn 0 n) x6 → (bn (takeI cs (mkTs n turn 0 n) x6).isSome = 0) := fun h => by rw [takeV_neg h]; rfl
        refine wl_valE (v := .bool (decide ((0 : Int) ≤ takeV cs (mkTs n turn 0 n) x6))) rfl (rf_geq rfl rfl rfl rfl) rfl ?_
        refine wl_nil ?_
        refine thn ?_
        refine cond_ (t := decide ((0 : Int) ≤ takeV cs (mkTs n turn 0 n) x6)) rfl rfl (fun c51 => ?_) (fun c51 => ?_)
        · have c51p := of_decide_eq_true c51
          refine region_ ?_
          refine wl_valE (v := .int .i64 ((d : Nat) : Int)) rfl (rf_move rfl) rfl ?_
          refine wl_valE (v := .int .i64 ((d + 1 : Nat) : Int)) rfl (rf_add rfl rfl rfl rfl (IntWalk.i64_in _ (by omega))) rfl ?_
          refine wl_valE (v := .int .i64 ((d + 1 : Nat) : Int)) rfl (rf_assign rfl) rfl ?_
          refine wl_nil ?_
          refine bln ?_
          refine thn ?_
          refine region_ ?_
          refine wl_valE (v := .int .i64 ((i : Nat) : Int)) rfl (rf_move rfl) rfl ?_
          refine wl_valE (v := .int .i64 ((i + 1 : Nat) : Int)) rfl (rf_add rfl rfl rfl rfl (IntWalk.i64_in _ (by omega))) rfl ?_
          refine wl_valE (v := .int .i64 ((i + 1 : Nat) : Int)) rfl (rf_assign rfl) rfl ?_
          refine wl_nil ?_
          refine thn ?_
          rw [drop_at hx6] at hp1 hp2
          simp only [playC, playN] at hp1 hp2
          refine ⟨n2 - (i + 1), _, rfl, (by omega), _, i + 1, d + 1, takeC cs (mkTs n turn 0 n) x6, upds_self ⟨rfl, rfl, rfl, rfl, rfl, rfl, rfl, rfl, rfl, trivial⟩, rfl, by omega, ⟨hw.take _, by omega, hp1, by omega⟩, (by rw [show (((d + 1 : Nat)) : Int) = ((d : Nat) : Int) + ((bn (takeI cs (mkTs n turn 0 n) x6).isSome : Nat) : Int) from by omega]; exact H8.pick' [0, 1, 2, 3, 4, 5] rfl rfl)⟩
        · have c51p := of_decide_eq_false c51
          refine skip_ ?_
          refine bln ?_
          refine thn ?_
          refine region_ ?_
          refine wl_valE (v := .int .i64 ((i : Nat) : Int)) rfl (rf_move rfl) rfl ?_
          refine wl_valE (v := .int .i64 ((i + 1 : Nat) : Int)) rfl (rf_add rfl rfl rfl rfl (IntWalk.i64_in _ (by omega))) rfl ?_
          refine wl_valE (v := .int .i64 ((i + 1 : Nat) : Int)) rfl (rf_assign rfl) rfl ?_
          refine wl_nil ?_
          refine thn ?_
          rw [drop_at hx6] at hp1 hp2
          simp only [playC, playN] at hp1 hp2
          refine ⟨n2 - (i + 1), _, rfl, (by omega), _, i + 1, d, takeC cs (mkTs n turn 0 n) x6, upds_self ⟨rfl, rfl, rfl, rfl, rfl, rfl, rfl, rfl, rfl, trivial⟩, rfl, by omega, ⟨hw.take _, by omega, hp1, by omega⟩, (by rw [show ((d : Nat) : Int) = ((d : Nat) : Int) + ((bn (takeI cs (mkTs n turn 0 n) x6).isSome : Nat) : Int) from by omega]; exact H8.pick' [0, 1, 2, 3, 4, 5] rfl rfl)⟩
      · have c42p := of_decide_eq_false c42
        refine exit_ ?_
        refine thx (thx (blx ?_))
        refine thn ?_
        refine seq_ ?_
        refine seq_ ?_
        rw [drop_all (by omega)] at hp1 hp2
        simp only [playC, playN, Nat.add_zero] at hp1 hp2
        refine region_ ?_
        refine wl_valE (v := .int .i64 ((playN (mkTs n turn 0 n) (mkCs 0 l) pk : Nat) : Int)) rfl (rf_move rfl) rfl ?_
        refine wl_valE (v := .int .i64 ((d : Nat) : Int)) rfl (rf_move rfl) rfl ?_
        refine wl_valE (v := .bool (decide (((playN (mkTs n turn 0 n) (mkCs 0 l) pk : Nat) : Int) ≠ ((d : Nat) : Int)))) rfl (rf_neq rfl rfl rfl rfl) rfl ?_
        refine wl_valE (v := .bool (decide (((playN (mkTs n turn 0 n) (mkCs 0 l) pk : Nat) : Int) ≠ ((d : Nat) : Int)))) rfl (rf_move rfl) rfl ?_
        refine wl_guardT rfl rfl rfl (by simp only [decide_eq_false_iff_not]; omega) ?_
        refine wl_valE (v := .int .i64 ((playN (mkTs n turn 0 n) (mkCs 0 l) pk : Nat) : Int)) rfl (rf_move rfl) rfl ?_
        refine wl_guardT rfl rfl rfl (by simp only [decide_eq_false_iff_not]; omega) ?_
        refine wl_valE (v := .pointer (some ⟨pl1, 0, none⟩)) rfl (rf_move rfl) rfl ?_
        refine wl_guardT rfl rfl rfl (by simp only [decide_eq_false_iff_not]; omega) ?_
        refine wl_tr HL0 rfl [] (steps_tr) rfl (.own 2 rfl Le.rfl .nil) (rf_call Try.call19 rfl rfl) rfl ?_
        rintro _ w9 _ ⟨rfl, rfl⟩ H9
        refine wl_guardT rfl rfl rfl (by simp only [decide_eq_false_iff_not]; omega) ?_
        refine wl_valE (v := .bool (decide (((playN (mkTs n turn 0 n) (mkCs 0 l) pk : Nat) : Int) ≠ ((0 : Int) + ((playN (mkTs n turn 0 n) (mkCs 0 l) pk : Nat) : Int))))) rfl (rf_neq rfl rfl rfl rfl) rfl ?_
        refine wl_valE (v := .bool (decide (((playN (mkTs n turn 0 n) (mkCs 0 l) pk : Nat) : Int) ≠ ((0 : Int) + ((playN (mkTs n turn 0 n) (mkCs 0 l) pk : Nat) : Int))))) rfl (rf_pickF rfl rfl rfl (by simp only [decide_eq_false_iff_not]; omega)) rfl ?_
        refine wl_nil ?_
        refine thn ?_
        refine condF' rfl rfl (t := decide (((playN (mkTs n turn 0 n) (mkCs 0 l) pk : Nat) : Int) ≠ ((0 : Int) + ((playN (mkTs n turn 0 n) (mkCs 0 l) pk : Nat) : Int)))) ((by simp only [decide_eq_false_iff_not]; omega)) ?_
        refine skip_ ?_
        refine thn ?_
        refine seq_ ?_
        refine region_ ?_
        refine wl_valE (v := .pointer (some ⟨pl1, 0, none⟩)) rfl (rf_move rfl) rfl ?_
        refine wl_valE (v := .int .i64 most) rfl (rf_move rfl) rfl ?_
        refine wl_tr H9 rfl [2, 1] (drain_tr hpj.wf ⟨by omega, by omega⟩ most) rfl .nil (rf_call Try.call18 rfl rfl) rfl ?_
        rintro _ w10 _ ⟨rfl, rfl⟩ H10
        refine wl_valE (v := .int .i64 (((drainS (mkTs n turn 0 n) (totL (playC (mkTs n turn 0 n) (mkCs 0 l) pk) + 1) (playC (mkTs n turn 0 n) (mkCs 0 l) pk) most).2 : Nat) : Int)) rfl (rf_assign rfl) rfl ?_
        refine wl_nil ?_
        refine thn ?_
        refine seq_ ?_
        refine region_ ?_
        refine wl_valE (v := .int .i64 (0 : Int)) rfl (rf_assign rfl) rfl ?_
        refine wl_nil ?_
        refine thn ?_
        refine seq_ ?_
        refine cut_ (fun qf_ qw_ => ∃ (g : Nat → Value) (k : Nat), qf_ = upds g [(9, .slice al1 n cl1), (10, .pointer (some ⟨pl1, 0, none⟩)), (11, .slice al2 n cl2), (12, .pointer (some ⟨pl2, 0, none⟩)), (16, .int .i64 (((drainS (mkTs n turn 0 n) (totL (playC (mkTs n turn 0 n) (mkCs 0 l) pk) + 1) (playC (mkTs n turn 0 n) (mkCs 0 l) pk) most).2 : Nat) : Int)), (17, .int .i64 ((k : Nat) : Int))] ∧ (k = (drainS (mkTs n turn 0 n) (totL (playC (mkTs n turn 0 n) (mkCs 0 l) pk) + 1) (playC (mkTs n turn 0 n) (mkCs 0 l) pk) most).2) ∧ St w0 S0 [rdH encMake 2 a n c l, shH (l.map mkB), rdH encI 1 a2 n2 c2 pk] qw_ [slH encOP 1 30 al1 n cl1 (ps1.map some), ChH ps1 ((drainS (mkTs n turn 0 n) (totL (playC (mkTs n turn 0 n) (mkCs 0 l) pk) + 1) (playC (mkTs n turn 0 n) (mkCs 0 l) pk) most).1), lineH pl1 ps1 (mkTs n turn 0 n) (((0 : Int) + ((playN (mkTs n turn 0 n) (mkCs 0 l) pk : Nat) : Int)) + (((drainS (mkTs n turn 0 n) (totL (playC (mkTs n turn 0 n) (mkCs 0 l) pk) + 1) (playC (mkTs n turn 0 n) (mkCs 0 l) pk) most).2 : Nat) : Int)), slH encOP 1 30 al2 n cl2 (ps2.map some), ChH ps2 ((drainS (mkTs n turn 0 n) (totL (playC (mkTs n turn 0 n) (mkCs 0 l) pk) + 1) (playC (mkTs n turn 0 n) (mkCs 0 l) pk) most).1), lineH pl2 ps2 (mkTs n turn 0 n) (((d + k : Nat)) : Int)]) ?_ ?_
        · refine block_ ?_
          refine loop_ (fun qk_ qf_ qw_ => ∃ (g : Nat → Value) (k : Nat) (ds : List Cho), qf_ = upds g [(3, .int .i64 most), (9, .slice al1 n cl1), (10, .pointer (some ⟨pl1, 0, none⟩)), (11, .slice al2 n cl2), (12, .pointer (some ⟨pl2, 0, none⟩)), (16, .int .i64 (((drainS (mkTs n turn 0 n) (totL (playC (mkTs n turn 0 n) (mkCs 0 l) pk) + 1) (playC (mkTs n turn 0 n) (mkCs 0 l) pk) most).2 : Nat) : Int)), (17, .int .i64 ((k : Nat) : Int))] ∧ qk_ = totL ds ∧ (WfC ds (mkTs n turn 0 n) ∧ d + k + totL ds = totL (mkCs 0 l)) ∧ ((drainS (mkTs n turn 0 n) (totL ds + 1) ds (most - ((k : Nat) : Int))).1 = (drainS (mkTs n turn 0 n) (totL (playC (mkTs n turn 0 n) (mkCs 0 l) pk) + 1) (playC (mkTs n turn 0 n) (mkCs 0 l) pk) most).1 ∧ k + (drainS (mkTs n turn 0 n) (totL ds + 1) ds (most - ((k : Nat) : Int))).2 = (drainS (mkTs n turn 0 n) (totL (playC (mkTs n turn 0 n) (mkCs 0 l) pk) + 1) (playC (mkTs n turn 0 n) (mkCs 0 l) pk) most).2) ∧ St w0 S0 [rdH encMake 2 a n c l, shH (l.map mkB), rdH encI 1 a2 n2 c2 pk] qw_ [slH encOP 1 30 al1 n cl1 (ps1.map some), ChH ps1 ((drainS (mkTs n turn 0 n) (totL (playC (mkTs n turn 0 n) (mkCs 0 l) pk) + 1) (playC (mkTs n turn 0 n) (mkCs 0 l) pk) most).1), lineH pl1 ps1 (mkTs n turn 0 n) (((0 : Int) + ((playN (mkTs n turn 0 n) (mkCs 0 l) pk : Nat) : Int)) + (((drainS (mkTs n turn 0 n) (totL (playC (mkTs n turn 0 n) (mkCs 0 l) pk) + 1) (playC (mkTs n turn 0 n) (mkCs 0 l) pk) most).2 : Nat) : Int)), slH encOP 1 30 al2 n cl2 (ps2.map some), ChH ps2 ds, lineH pl2 ps2 (mkTs n turn 0 n) (((d + k : Nat)) : Int)]) (totL cs) ?_ ?_
          · refine ⟨_, 0, cs, upds_self ⟨rfl, rfl, rfl, rfl, rfl, rfl, rfl, trivial⟩, rfl, ⟨hw, by omega⟩, (by rw [hp1]; simp), H10.pick' [0, 1, 2, 3, 4, 5] rfl rfl⟩
          · rintro lk1 _ wl1 ⟨gl1, k, ds, rfl, hlk1, ⟨hw2, htk⟩, ⟨hd1, hd2⟩, HL1⟩
            refine seq_ ?_
            refine seq_ ?_
            refine region_ ?_
            refine wl_valE (v := .int .i64 ((k : Nat) : Int)) rfl (rf_move rfl) rfl ?_
            refine wl_valE (v := .int .i64 most) rfl (rf_move rfl) rfl ?_
            refine wl_valE (v := .bool (decide (((k : Nat) : Int) < most))) rfl (rf_lss rfl rfl rfl rfl) rfl ?_
            refine wl_valE (v := .bool (decide (((k : Nat) : Int) < most))) rfl (rf_move rfl) rfl ?_
            refine wl_split (decide (((k : Nat) : Int) < most)) (fun u18_3 => ?_) (fun u18_3 => ?_)
            · have u18_3p := of_decide_eq_true u18_3
              refine wl_guardT rfl rfl rfl u18_3 ?_
              refine wl_valE (v := .pointer (some ⟨pl2, 0, none⟩)) rfl (rf_move rfl) rfl ?_
              refine wl_guardT rfl rfl rfl u18_3 ?_
              refine wl_tr HL1 rfl [5, 4] (take_tr hw2 ⟨by omega, by omega⟩ (0 : Int)) rfl .nil (rf_call Try.call14 rfl rfl) rfl ?_
              rintro _ w11 _ ⟨rfl, rfl⟩ H11
              refine wl_guardT rfl rfl rfl u18_3 ?_
              refine wl_valE (v := .bool (decide ((0 : Int) ≤ takeV ds (mkTs n turn 0 n) (0 : Int)))) rfl (rf_geq rfl rfl rfl rfl) rfl ?_
              refine wl_valE (v := .bool (decide ((0 : Int) ≤ takeV ds (mkTs n turn 0 n) (0 : Int)))) rfl (rf_pickT rfl rfl rfl u18_3) rfl ?_
              refine wl_nil ?_
              refine thn ?_
              refine cond_ (t := decide ((0 : Int) ≤ takeV ds (mkTs n turn 0 n) (0 : Int))) rfl rfl (fun c73 => ?_) (fun c73 => ?_)
              · have c73p := of_decide_eq_true c73
                obtain ⟨i0, hti⟩ := takeV_pos c73p
                refine skip_ ?_
                refine thn ?_
                refine block_ ?_
                refine region_ ?_
                refine wl_valE (v := .int .i64 ((k : Nat) : Int)) rfl (rf_move rfl) rfl ?_
                refine wl_valE (v := .int .i64 ((k + 1 : Nat) : Int)) rfl (rf_add rfl rfl rfl rfl (IntWalk.i64_in _ (by omega))) rfl ?_
                refine wl_valE (v := .int .i64 ((k + 1 : Nat) : Int)) rfl (rf_assign rfl) rfl ?_
                refine wl_nil ?_
                refine bln ?_
                refine thn ?_
                have e9 : most - ((k + 1 : Nat) : Int) = most - ((k : Nat) : Int) - 1 := by omega
                have htt := takeC_tot hw2 (0 : Int)
                have hb1 : bn (takeI ds (mkTs n turn 0 n) (0 : Int)).isSome = 1 := by rw [hti]; rfl
                rw [drain_some hw2 (by omega) hti] at hd1 hd2
                refine ⟨totL (takeC ds (mkTs n turn 0 n) (0 : Int)), _, rfl, (by omega), _, k + 1, takeC ds (mkTs n turn 0 n) (0 : Int), upds_self ⟨rfl, rfl, rfl, rfl, rfl, rfl, rfl, trivial⟩, rfl, ⟨hw2.take _, by omega⟩, ⟨by rw [e9]; exact hd1, by rw [e9, ← hd2]; simp only []; omega⟩, (by rw [show (((d + (k + 1) : Nat)) : Int) = (((d + k : Nat)) : Int) + ((bn (takeI ds (mkTs n turn 0 n) (0 : Int)).isSome : Nat) : Int) from by omega]; exact H11.pick' [0, 1, 2, 3, 4, 5] rfl rfl)⟩
              · have c73p := of_decide_eq_false c73
                have hti := takeV_neg c73p
                refine exit_ ?_
                refine thx (thx (blx ?_))
                rw [show takeC ds (mkTs n turn 0 n) (0 : Int) = ds from by unfold takeC; rw [hti], hti, show (((d + k : Nat)) : Int) + ((bn (none : Option Int).isSome : Nat) : Int) = (((d + k : Nat)) : Int) from Int.add_zero _] at H11
                rw [drain_none (.inr hti)] at hd1
                rw [show ds = (drainS (mkTs n turn 0 n) (totL (playC (mkTs n turn 0 n) (mkCs 0 l) pk) + 1) (playC (mkTs n turn 0 n) (mkCs 0 l) pk) most).1 from hd1] at H11
                refine cxn ⟨_, k, upds_self ⟨rfl, rfl, rfl, rfl, rfl, rfl, trivial⟩, by rw [drain_none (.inr hti)] at hd2; simpa using hd2, H11.pick' [0, 1, 2, 3, 4, 5] rfl rfl⟩
            · have u18_3p := of_decide_eq_false u18_3
              refine wl_guardF rfl rfl rfl u18_3 ?_
              refine wl_guardF rfl rfl rfl u18_3 ?_
              refine wl_guardF rfl rfl rfl u18_3 ?_
              refine wl_valE (v := .bool false) rfl (rf_pickF rfl rfl rfl u18_3) rfl ?_
              refine wl_nil ?_
              refine thn ?_
              refine condF rfl rfl ?_
              refine exit_ ?_
              refine thx (thx (blx ?_))
              rw [drain_none (.inl (by omega))] at hd1
              rw [show ds = (drainS (mkTs n turn 0 n) (totL (playC (mkTs n turn 0 n) (mkCs 0 l) pk) + 1) (playC (mkTs n turn 0 n) (mkCs 0 l) pk) most).1 from hd1] at HL1
              refine cxn ⟨_, k, upds_self ⟨rfl, rfl, rfl, rfl, rfl, rfl, trivial⟩, by rw [drain_none (.inl (by omega))] at hd2; simpa using hd2, HL1.pick' [0, 1, 2, 3, 4, 5] rfl rfl⟩
        · rintro _ wcutb2 ⟨glcutb2, k, rfl, hk2, Hcutb2⟩
          refine thn ?_
          refine seq_ ?_
          refine seq_ ?_
          refine region_ ?_
          refine wl_valE (v := .int .i64 (((drainS (mkTs n turn 0 n) (totL (playC (mkTs n turn 0 n) (mkCs 0 l) pk) + 1) (playC (mkTs n turn 0 n) (mkCs 0 l) pk) most).2 : Nat) : Int)) rfl (rf_move rfl) rfl ?_
          refine wl_valE (v := .int .i64 ((k : Nat) : Int)) rfl (rf_move rfl) rfl ?_
          refine wl_valE (v := .bool (decide ((((drainS (mkTs n turn 0 n) (totL (playC (mkTs n turn 0 n) (mkCs 0 l) pk) + 1) (playC (mkTs n turn 0 n) (mkCs 0 l) pk) most).2 : Nat) : Int) ≠ ((k : Nat) : Int)))) rfl (rf_neq rfl rfl rfl rfl) rfl ?_
          refine wl_valE (v := .bool (decide ((((drainS (mkTs n turn 0 n) (totL (playC (mkTs n turn 0 n) (mkCs 0 l) pk) + 1) (playC (mkTs n turn 0 n) (mkCs 0 l) pk) most).2 : Nat) : Int) ≠ ((k : Nat) : Int)))) rfl (rf_move rfl) rfl ?_
          refine wl_guardT rfl rfl rfl (by simp only [decide_eq_false_iff_not]; omega) ?_
          refine wl_valE (v := .pointer (some ⟨pl1, 0, none⟩)) rfl (rf_move rfl) rfl ?_
          refine wl_guardT rfl rfl rfl (by simp only [decide_eq_false_iff_not]; omega) ?_
          refine wl_tr Hcutb2 rfl [] (steps_tr) rfl (.own 2 rfl Le.rfl .nil) (rf_call Try.call19 rfl rfl) rfl ?_
          rintro _ w12 _ ⟨rfl, rfl⟩ H12
          refine wl_guardT rfl rfl rfl (by simp only [decide_eq_false_iff_not]; omega) ?_
          refine wl_valE (v := .pointer (some ⟨pl2, 0, none⟩)) rfl (rf_move rfl) rfl ?_
          refine wl_guardT rfl rfl rfl (by simp only [decide_eq_false_iff_not]; omega) ?_
          refine wl_tr H12 rfl [] (steps_tr) rfl (.own 5 rfl Le.rfl .nil) (rf_call Try.call19 rfl rfl) rfl ?_
          rintro _ w13 _ ⟨rfl, rfl⟩ H13
          refine wl_guardT rfl rfl rfl (by simp only [decide_eq_false_iff_not]; omega) ?_
          refine wl_valE (v := .bool (decide ((((0 : Int) + ((playN (mkTs n turn 0 n) (mkCs 0 l) pk : Nat) : Int)) + (((drainS (mkTs n turn 0 n) (totL (playC (mkTs n turn 0 n) (mkCs 0 l) pk) + 1) (playC (mkTs n turn 0 n) (mkCs 0 l) pk) most).2 : Nat) : Int)) ≠ (((d + k : Nat)) : Int)))) rfl (rf_neq rfl rfl rfl rfl) rfl ?_
          refine wl_valE (v := .bool (decide ((((0 : Int) + ((playN (mkTs n turn 0 n) (mkCs 0 l) pk : Nat) : Int)) + (((drainS (mkTs n turn 0 n) (totL (playC (mkTs n turn 0 n) (mkCs 0 l) pk) + 1) (playC (mkTs n turn 0 n) (mkCs 0 l) pk) most).2 : Nat) : Int)) ≠ (((d + k : Nat)) : Int)))) rfl (rf_pickF rfl rfl rfl (by simp only [decide_eq_false_iff_not]; omega)) rfl ?_
          refine wl_valE (v := .bool (decide ((((0 : Int) + ((playN (mkTs n turn 0 n) (mkCs 0 l) pk : Nat) : Int)) + (((drainS (mkTs n turn 0 n) (totL (playC (mkTs n turn 0 n) (mkCs 0 l) pk) + 1) (playC (mkTs n turn 0 n) (mkCs 0 l) pk) most).2 : Nat) : Int)) ≠ (((d + k : Nat)) : Int)))) rfl (rf_move rfl) rfl ?_
          refine wl_guardT rfl rfl rfl (by simp only [decide_eq_false_iff_not]; omega) ?_
          refine wl_valE (v := .pointer (some ⟨pl1, 0, none⟩)) rfl (rf_move rfl) rfl ?_
          refine wl_guardT rfl rfl rfl (by simp only [decide_eq_false_iff_not]; omega) ?_
          refine wl_tr H13 rfl [] (lready_tr hdt.2.1.hok hdt.2.1.hbl hdt.2.1.hts hdt.2.1.htl) rfl (.own 2 rfl Le.rfl (.own 1 rfl Le.rfl .nil)) (rf_call Try.call17 rfl rfl) rfl ?_
          rintro _ w14 _ ⟨ar14, nr14, cr14, rfl, rfl⟩ H14
          refine wl_guardT rfl rfl rfl (by simp only [decide_eq_false_iff_not]; omega) ?_
          refine wl_valE (v := .pointer (some ⟨pl2, 0, none⟩)) rfl (rf_move rfl) rfl ?_
          refine wl_guardT rfl rfl rfl (by simp only [decide_eq_false_iff_not]; omega) ?_
          refine wl_tr H14 rfl [] (lready_tr hdt.2.1.hok hdt.2.1.hbl hdt.2.1.hts hdt.2.1.htl) rfl (.own 5 rfl Le.rfl (.own 4 rfl Le.rfl .nil)) (rf_call Try.call17 rfl rfl) rfl ?_
          rintro _ w15 _ ⟨ar15, nr15, cr15, rfl, rfl⟩ H15
          have hlq1 := slH_len H15 6 rfl
          have hlq2 := rdyL_len (cs := (drainS (mkTs n turn 0 n) (totL (playC (mkTs n turn 0 n) (mkCs 0 l) pk) + 1) (playC (mkTs n turn 0 n) (mkCs 0 l) pk) most).1) (ts := (mkTs n turn 0 n)) (k := 0)
          have hlq3 := hdt.2.1.htl
          refine wl_guardT rfl rfl rfl (by simp only [decide_eq_false_iff_not]; omega) ?_
          refine wl_tr H15 rfl [] (same_tr ar14 nr14 cr14 (rdyL ((drainS (mkTs n turn 0 n) (totL (playC (mkTs n turn 0 n) (mkCs 0 l) pk) + 1) (playC (mkTs n turn 0 n) (mkCs 0 l) pk) most).1) 0 (mkTs n turn 0 n)) ar15 nr15 cr15 (rdyL ((drainS (mkTs n turn 0 n) (totL (playC (mkTs n turn 0 n) (mkCs 0 l) pk) + 1) (playC (mkTs n turn 0 n) (mkCs 0 l) pk) most).1) 0 (mkTs n turn 0 n)) (by omega)) rfl (.own 6 rfl slH_rd (.own 7 rfl slH_rd .nil)) (rf_call Try.call27 rfl rfl) rfl ?_
          rintro _ w16 _ ⟨rfl, rfl⟩ H16
          refine wl_guardT rfl rfl rfl (by simp only [decide_eq_false_iff_not]; omega) ?_
          refine wl_valE (v := .bool (!(decide (rdyL ((drainS (mkTs n turn 0 n) (totL (playC (mkTs n turn 0 n) (mkCs 0 l) pk) + 1) (playC (mkTs n turn 0 n) (mkCs 0 l) pk) most).1) 0 (mkTs n turn 0 n) = rdyL ((drainS (mkTs n turn 0 n) (totL (playC (mkTs n turn 0 n) (mkCs 0 l) pk) + 1) (playC (mkTs n turn 0 n) (mkCs 0 l) pk) most).1) 0 (mkTs n turn 0 n))))) rfl (rf_not rfl rfl) rfl ?_
          refine wl_valE (v := .bool (!(decide (rdyL ((drainS (mkTs n turn 0 n) (totL (playC (mkTs n turn 0 n) (mkCs 0 l) pk) + 1) (playC (mkTs n turn 0 n) (mkCs 0 l) pk) most).1) 0 (mkTs n turn 0 n) = rdyL ((drainS (mkTs n turn 0 n) (totL (playC (mkTs n turn 0 n) (mkCs 0 l) pk) + 1) (playC (mkTs n turn 0 n) (mkCs 0 l) pk) most).1) 0 (mkTs n turn 0 n))))) rfl (rf_pickF rfl rfl rfl (by simp only [decide_eq_false_iff_not]; omega)) rfl ?_
          refine wl_nil ?_
          refine thn ?_
          refine condF' rfl rfl (t := !(decide (rdyL ((drainS (mkTs n turn 0 n) (totL (playC (mkTs n turn 0 n) (mkCs 0 l) pk) + 1) (playC (mkTs n turn 0 n) (mkCs 0 l) pk) most).1) 0 (mkTs n turn 0 n) = rdyL ((drainS (mkTs n turn 0 n) (totL (playC (mkTs n turn 0 n) (mkCs 0 l) pk) + 1) (playC (mkTs n turn 0 n) (mkCs 0 l) pk) most).1) 0 (mkTs n turn 0 n)))) ((by simp)) ?_
          refine skip_ ?_
          refine thn ?_
          refine seq_ ?_
          refine seq_ ?_
          refine region_ ?_
          refine wl_valE (v := .int .i64 (0 : Int)) rfl (rf_assign rfl) rfl ?_
          refine wl_nil ?_
          refine thn ?_
          refine block_ ?_
          refine loop_ (fun qk_ qf_ qw_ => ∃ (g : Nat → Value) (i : Nat), qf_ = upds g [(9, .slice al1 n cl1), (11, .slice al2 n cl2), (18, .int .i64 ((i : Nat) : Int))] ∧ qk_ = n - i ∧ (i ≤ n) ∧ St w0 S0 [rdH encMake 2 a n c l, shH (l.map mkB), rdH encI 1 a2 n2 c2 pk] qw_ [slH encOP 1 30 al1 n cl1 (ps1.map some), ChH ps1 ((drainS (mkTs n turn 0 n) (totL (playC (mkTs n turn 0 n) (mkCs 0 l) pk) + 1) (playC (mkTs n turn 0 n) (mkCs 0 l) pk) most).1), lineH pl1 ps1 (mkTs n turn 0 n) (((0 : Int) + ((playN (mkTs n turn 0 n) (mkCs 0 l) pk : Nat) : Int)) + (((drainS (mkTs n turn 0 n) (totL (playC (mkTs n turn 0 n) (mkCs 0 l) pk) + 1) (playC (mkTs n turn 0 n) (mkCs 0 l) pk) most).2 : Nat) : Int)), slH encOP 1 30 al2 n cl2 (ps2.map some), ChH ps2 ((drainS (mkTs n turn 0 n) (totL (playC (mkTs n turn 0 n) (mkCs 0 l) pk) + 1) (playC (mkTs n turn 0 n) (mkCs 0 l) pk) most).1), lineH pl2 ps2 (mkTs n turn 0 n) (((d + k : Nat)) : Int), slH encI 1 3 ar14 nr14 cr14 (rdyL ((drainS (mkTs n turn 0 n) (totL (playC (mkTs n turn 0 n) (mkCs 0 l) pk) + 1) (playC (mkTs n turn 0 n) (mkCs 0 l) pk) most).1) 0 (mkTs n turn 0 n)), slH encI 1 3 ar15 nr15 cr15 (rdyL ((drainS (mkTs n turn 0 n) (totL (playC (mkTs n turn 0 n) (mkCs 0 l) pk) + 1) (playC (mkTs n turn 0 n) (mkCs 0 l) pk) most).1) 0 (mkTs n turn 0 n))]) (n - 0) ?_ ?_
          · refine ⟨_, 0, upds_self ⟨rfl, rfl, rfl, trivial⟩, rfl, Nat.zero_le _, H16.pick' [0, 1, 2, 3, 4, 5, 6, 7] rfl rfl⟩
          · rintro lk2 _ wl2 ⟨gl2, i, rfl, hlk2, hr9, HL2⟩
            refine seq_ ?_
            refine seq_ ?_
            refine region_ ?_
            refine wl_valE (v := .int .i64 ((i : Nat) : Int)) rfl (rf_move rfl) rfl ?_
            refine wl_valE (v := .slice al1 n cl1) rfl (rf_move rfl) rfl ?_
            refine wl_valE (v := .int .i64 ((n : Nat) : Int)) rfl (rf_len_slice Try.underlying26 rfl rfl) rfl ?_
            refine wl_valE (v := .bool (decide (((i : Nat) : Int) < ((n : Nat) : Int)))) rfl (rf_lss rfl rfl rfl rfl) rfl ?_
            refine wl_nil ?_
            refine thn ?_
            refine cond_ (t := decide (((i : Nat) : Int) < ((n : Nat) : Int))) rfl rfl (fun c97 => ?_) (fun c97 => ?_)
            · have c97p := of_decide_eq_true c97
              refine skip_ ?_
              refine thn ?_
              refine seq_ ?_
              refine block_ ?_
              refine seq_ ?_
              refine region_h (S := (fun wq => St w0 S0 [rdH encMake 2 a n c l, shH (l.map mkB), rdH encI 1 a2 n2 c2 pk] wq [slH encOP 1 30 al1 n cl1 (ps1.map some), slH encOP 1 30 al2 n cl2 (ps2.map some)])) mixedP ?_
              intro w17 hk17
              have H17 := HL2.keep hk17
              have hS17 : St w0 S0 [rdH encMake 2 a n c l, shH (l.map mkB), rdH encI 1 a2 n2 c2 pk] w17 [slH encOP 1 30 al1 n cl1 (ps1.map some), slH encOP 1 30 al2 n cl2 (ps2.map some)] := H17.pick' [0, 3] rfl rfl
              refine wh_take (i := 0) (v := .slice al1 n cl1) rfl (by kernel_rfl) (by kernel_rfl) (by kernel_rfl) hS17 rfl (fun wq hq => rf_move rfl) rfl ?_
              refine wh_take (i := 1) (v := .int .i64 ((i : Nat) : Int)) rfl (by kernel_rfl) (by kernel_rfl) (by kernel_rfl) hS17 rfl (fun wq hq => rf_move rfl) rfl ?_
              refine wh_take (i := 2) (v := .pointer (some ⟨ab al1, ao al1 + i * 1, none⟩)) rfl (by kernel_rfl) (by kernel_rfl) (by kernel_rfl) hS17 rfl (fun wq hq => rf_indexAddrH Try.underlying26 ti30 rfl rfl rfl rfl (by omega) (by omega) (hq.rdO 0 slH_rd)) rfl ?_
              have hn19 := slH_len H17 0 rfl
              obtain ⟨x18, hx18⟩ : ∃ x, (ps1.map some)[i]? = some x := ⟨_, List.getElem?_eq_getElem (by omega)⟩
              refine wh_take (i := 3) (v := .pointer (x18.map fun b => ⟨b, 0, none⟩)) rfl (by kernel_rfl) (by kernel_rfl) (by kernel_rfl) hS17 rfl (fun wq hq => rf_load Try.underlying30 rfl rfl rfl (rd_el (hq.rdO 0 slH_rd) hx18 0 _ rfl)) rfl ?_
              obtain ⟨hpy, hip⟩ := map_some_at hx18
              subst hpy
              obtain ⟨e, he⟩ : ∃ e, ((drainS (mkTs n turn 0 n) (totL (playC (mkTs n turn 0 n) (mkCs 0 l) pk) + 1) (playC (mkTs n turn 0 n) (mkCs 0 l) pk) most).1)[i]? = some e := ⟨_, List.getElem?_eq_getElem (by omega)⟩
              refine wh_take (i := 5) (v := .slice al2 n cl2) rfl (by kernel_rfl) (by kernel_rfl) (by kernel_rfl) hS17 rfl (fun wq hq => rf_move rfl) rfl ?_
              refine wh_take (i := 6) (v := .int .i64 ((i : Nat) : Int)) rfl (by kernel_rfl) (by kernel_rfl) (by kernel_rfl) hS17 rfl (fun wq hq => rf_move rfl) rfl ?_
              refine wh_take (i := 7) (v := .pointer (some ⟨ab al2, ao al2 + i * 1, none⟩)) rfl (by kernel_rfl) (by kernel_rfl) (by kernel_rfl) hS17 rfl (fun wq hq => rf_indexAddrH Try.underlying26 ti30 rfl rfl rfl rfl (by omega) (by omega) (hq.rdO 1 slH_rd)) rfl ?_
              have hn21 := slH_len H17 3 rfl
              obtain ⟨x20, hx20⟩ : ∃ x, (ps2.map some)[i]? = some x := ⟨_, List.getElem?_eq_getElem (by omega)⟩
              refine wh_take (i := 8) (v := .pointer (x20.map fun b => ⟨b, 0, none⟩)) rfl (by kernel_rfl) (by kernel_rfl) (by kernel_rfl) hS17 rfl (fun wq hq => rf_load Try.underlying30 rfl rfl rfl (rd_el (hq.rdO 1 slH_rd) hx20 0 _ rfl)) rfl ?_
              obtain ⟨hpy2, hip2⟩ := map_some_at hx20
              subst hpy2
              refine wh_one (i := 4) (by kernel_rfl) rfl ?_
              refine wl_tr H17 rfl [] (left_tr i e he) rfl (.own 1 rfl Le.rfl .nil) (rf_call Try.call13 rfl rfl) rfl ?_
              rintro _ w22 _ ⟨rfl, rfl⟩ H22
              refine wl_nil ?_
              have hS23 : St w0 S0 [rdH encMake 2 a n c l, shH (l.map mkB), rdH encI 1 a2 n2 c2 pk] w22 [slH encOP 1 30 al1 n cl1 (ps1.map some), slH encOP 1 30 al2 n cl2 (ps2.map some)] := H22.pick' [0, 3] rfl rfl
              refine wh_back hS23 ?_
              refine wh_one (i := 9) (by kernel_rfl) rfl ?_
              refine wl_tr H22 rfl [] (left_tr i e he) rfl (.own 4 rfl Le.rfl .nil) (rf_call Try.call13 rfl rfl) rfl ?_
              rintro _ w24 _ ⟨rfl, rfl⟩ H24
              refine wl_nil ?_
              have hS25 : St w0 S0 [rdH encMake 2 a n c l, shH (l.map mkB), rdH encI 1 a2 n2 c2 pk] w24 [slH encOP 1 30 al1 n cl1 (ps1.map some), slH encOP 1 30 al2 n cl2 (ps2.map some)] := H24.pick' [0, 3] rfl rfl
              refine wh_back hS25 ?_
              refine wh_take (i := 10) (v := .bool (decide (e.left ≠ e.left))) rfl (by kernel_rfl) (by kernel_rfl) (by kernel_rfl) hS25 rfl (fun wq hq => rf_neq rfl rfl rfl rfl) rfl ?_
              refine wh_done (by kernel_rfl) ?_
              refine thn ?_
              refine condF' rfl rfl (t := decide (e.left ≠ e.left)) ((by simp)) ?_
              refine skip_ ?_
              refine bln ?_
              refine thn ?_
              refine region_ ?_
              refine wl_valE (v := .int .i64 ((i : Nat) : Int)) rfl (rf_move rfl) rfl ?_
              refine wl_valE (v := .int .i64 ((i + 1 : Nat) : Int)) rfl (rf_add rfl rfl rfl rfl (IntWalk.i64_in _ (by omega))) rfl ?_
              refine wl_valE (v := .int .i64 ((i + 1 : Nat) : Int)) rfl (rf_assign rfl) rfl ?_
              refine wl_nil ?_
              refine thn ?_
              refine ⟨n - (i + 1), _, rfl, (by omega), _, i + 1, upds_self ⟨rfl, rfl, rfl, trivial⟩, rfl, by omega, H24.pick' [0, 1, 2, 3, 4, 5, 6, 7] rfl rfl⟩
            · have c97p := of_decide_eq_false c97
              refine exit_ ?_
              refine thx (thx (blx ?_))
              refine thn ?_
              refine seq_ ?_
              refine region_ ?_
              refine wl_valE (v := .bool true) rfl (rf_assign rfl) rfl ?_
              refine wl_nil ?_
              refine thn ?_
              refine ret_ ?_
              refine fin1 (v := .bool true) Try.results9 rfl rfl ?_
              exact ⟨_, rfl, HL2.pick' [] rfl rfl⟩
end Go.Proofs.Ytiidihgimcebgaa.W
