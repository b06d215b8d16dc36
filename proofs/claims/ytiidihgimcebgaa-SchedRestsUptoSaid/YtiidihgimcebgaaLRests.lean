import Derived.Test.YtiidihgimcebgaaC7
import Derived.KernelRfl
namespace Go.Proofs.Ytiidihgimcebgaa.W
open Go Go.Wk
set_option linter.unusedVariables false
theorem rests_tr (a : Option Addr) (n c : Nat) (l : List MakeR) (turn : Int) (a2 : Option Addr) (n2 c2 : Nat) (pk : List Int) (hn : n ≤ 1048576) (hn2 : n2 ≤ 1048576) (hb : ∀ x ∈ l, x.behind.n ≤ 4398046511104) (hbl : ∀ x ∈ l, x.bl.length ≤ 4398046511104) : Tr Try.prog 4 [.slice a n c, .int .i64 turn, .slice a2 n2 c2] [rdH encMake 2 a n c l, shH (l.map mkB), rdH encI 1 a2 n2 c2 pk] [] (fun v m => v = .bool true) := by
  intro w0 S0 H0
  have hl1 := (rd_len (H0.rdR 0 Le.rfl)).1
  have hl2 := (rd_len (H0.rdR 2 Le.rfl)).1
  have hj0 : Jn (mkCs 0 l) (mkTs n turn 0 n) := ⟨mk_wf hl1 hbl (by omega), mk_dag l, mk_cov hl1⟩
  have ht0 := mk_tot l 0
  have htf := totF_in (l.map (·.steps))
  rw [List.length_map] at htf
  refine enterR Try.func4 rfl Try.ntmps4 rfl ?_
  intro g0
  refine seq_ ?_
  refine region_ ?_
  refine wl_valE (v := .bool false) rfl (rf_assign rfl) rfl ?_
  refine wl_nil ?_
  refine thn ?_
  refine seq_ ?_
  refine seq_ ?_
  refine region_ ?_
  refine wl_valE (v := .slice a n c) rfl (rf_move rfl) rfl ?_
  refine wl_tr H0 rfl [] (parts_tr a n c l none 0 0 [] (fun x hx => Nat.le_trans (hb x hx) (by decide)) (by simp) (by omega) (by omega)) rfl (.ro 0 Le.rfl (.non nil_rd .nil)) (rf_call Try.call10 rfl rfl) rfl ?_
  rintro _ w1 _ ⟨rfl, rfl⟩ H1
  refine wl_valE (v := .bool (decide (pL (pL 100000 (l.map (·.behind.n))) (([] : List OpR).map (·.picks.n)) < (0 : Int)))) rfl (rf_lss rfl rfl rfl rfl) rfl ?_
  refine wl_nil ?_
  refine thn ?_
  refine cond_ (t := decide (pL (pL 100000 (l.map (·.behind.n))) (([] : List OpR).map (·.picks.n)) < (0 : Int))) rfl rfl (fun c16 => ?_) (fun c16 => ?_)
  · have c16p := of_decide_eq_true c16
    refine seq_ ?_
    refine region_ ?_
    refine wl_valE (v := .bool true) rfl (rf_assign rfl) rfl ?_
    refine wl_nil ?_
    refine thn ?_
    refine ret_ ?_
    refine thr ?_
    refine fin1 (v := .bool true) Try.results4 rfl rfl ?_
    exact ⟨_, rfl, H1.pick' [] rfl rfl⟩
  · have c16p := of_decide_eq_false c16
    refine skip_ ?_
    refine thn ?_
    refine seq_ ?_
    refine seq_ ?_
    refine region_ ?_
    refine wl_tr H1 rfl [] (works_tr) rfl .nil (rf_call Try.call11 rfl rfl) rfl ?_
    rintro _ w2 _ ⟨rfl, rfl⟩ H2
    refine wl_valE (v := .bool false) rfl (rf_not rfl rfl) rfl ?_
    refine wl_nil ?_
    refine thn ?_
    refine condF rfl rfl ?_
    refine skip_ ?_
    refine thn ?_
    refine seq_ ?_
    refine region_ ?_
    refine wl_valE (v := .slice a n c) rfl (rf_move rfl) rfl ?_
    refine wl_tr H2 rfl [] (total_tr a n c l (by omega)) rfl (.ro 0 Le.rfl .nil) (rf_call Try.call16 rfl rfl) rfl ?_
    rintro _ w3 _ ⟨rfl, rfl⟩ H3
    refine wl_valE (v := .int .i64 (totF (l.map (·.steps)))) rfl (rf_assign rfl) rfl ?_
    refine wl_nil ?_
    refine thn ?_
    refine seq_ ?_
    refine region_ ?_
    refine wl_valE (v := .slice a n c) rfl (rf_move rfl) rfl ?_
    refine wl_valE (v := .int .i64 turn) rfl (rf_move rfl) rfl ?_
    refine wl_tr H3 rfl [] (line_tr a n c l turn (by omega) hb) rfl (.ro 0 Le.rfl (.ro 1 Le.rfl .nil)) (rf_call Try.call12 rfl rfl) rfl ?_
    rintro _ w4 _ ⟨ps1, al1, cl1, pl1, hps1, rfl, rfl⟩ H4
    refine wl_valE (v := .tuple #[.slice al1 n cl1, .pointer (some ⟨pl1, 0, none⟩)]) rfl (rf_move rfl) rfl ?_
    refine wl_valE (v := .slice al1 n cl1) rfl (rf_extract rfl rfl rfl) rfl ?_
    refine wl_valE (v := .pointer (some ⟨pl1, 0, none⟩)) rfl (rf_extract rfl rfl rfl) rfl ?_
    refine wl_valE (v := .slice al1 n cl1) rfl (rf_assign rfl) rfl ?_
    refine wl_valE (v := .pointer (some ⟨pl1, 0, none⟩)) rfl (rf_assign rfl) rfl ?_
    refine wl_nil ?_
    refine thn ?_
    refine seq_ ?_
    refine region_ ?_
    refine wl_valE (v := .int .i64 (0 : Int)) rfl (rf_assign rfl) rfl ?_
    refine wl_nil ?_
    refine thn ?_
    refine seq_ ?_
    refine seq_ ?_
    refine region_ ?_
    refine wl_valE (v := .int .i64 (0 : Int)) rfl (rf_assign rfl) rfl ?_
    refine wl_nil ?_
    refine thn ?_
    refine block_ ?_
    refine loop_ (fun qk_ qf_ qw_ => ∃ (g : Nat → Value) (i : Nat) (d : Nat) (cs : List Cho), qf_ = upds g [(2, .slice a2 n2 c2), (7, .int .i64 (totF (l.map (·.steps)))), (8, .slice al1 n cl1), (9, .pointer (some ⟨pl1, 0, none⟩)), (10, .int .i64 ((d : Nat) : Int)), (11, .int .i64 ((i : Nat) : Int))] ∧ qk_ = n2 - i ∧ (i ≤ n2) ∧ (Jn cs (mkTs n turn 0 n) ∧ ((totL cs : Nat) : Int) + ((d : Nat) : Int) = totF (l.map (·.steps)) ∧ cs.length = n) ∧ St w0 S0 [rdH encMake 2 a n c l, shH (l.map mkB), rdH encI 1 a2 n2 c2 pk] qw_ [slH encOP 1 30 al1 n cl1 (ps1.map some), ChH ps1 cs, lineH pl1 ps1 (mkTs n turn 0 n) ((d : Nat) : Int)]) (n2 - 0) ?_ ?_
    · refine ⟨_, 0, 0, mkCs 0 l, upds_self ⟨rfl, rfl, rfl, rfl, rfl, rfl, trivial⟩, rfl, Nat.zero_le _, ⟨hj0, by omega, by rw [mkCs_len]; omega⟩, H4.pick' [0, 1, 2] rfl rfl⟩
    · rintro lk0 _ wl0 ⟨gl0, i, d, cs, rfl, hlk0, hr0, ⟨hj, htd, hjl⟩, HL0⟩
      refine seq_ ?_
      refine seq_ ?_
      refine region_ ?_
      refine wl_valE (v := .int .i64 ((i : Nat) : Int)) rfl (rf_move rfl) rfl ?_
      refine wl_valE (v := .slice a2 n2 c2) rfl (rf_move rfl) rfl ?_
      refine wl_valE (v := .int .i64 ((n2 : Nat) : Int)) rfl (rf_len_slice Try.underlying23 rfl rfl) rfl ?_
      refine wl_valE (v := .bool (decide (((i : Nat) : Int) < ((n2 : Nat) : Int)))) rfl (rf_lss rfl rfl rfl rfl) rfl ?_
      refine wl_nil ?_
      refine thn ?_
      refine cond_ (t := decide (((i : Nat) : Int) < ((n2 : Nat) : Int))) rfl rfl (fun c30 => ?_) (fun c30 => ?_)
      · have c30p := of_decide_eq_true c30
        refine skip_ ?_
        refine thn ?_
        refine seq_ ?_
        refine block_ ?_
        refine seq_ ?_
        refine region_ ?_
        refine wl_valE (v := .pointer (some ⟨pl1, 0, none⟩)) rfl (rf_move rfl) rfl ?_
        refine wl_valE (v := .slice a2 n2 c2) rfl (rf_move rfl) rfl ?_
        refine wl_valE (v := .int .i64 ((i : Nat) : Int)) rfl (rf_move rfl) rfl ?_
        refine wl_valE (v := .pointer (some ⟨ab a2, ao a2 + i * 1, none⟩)) rfl (rf_indexAddrH Try.underlying23 ti3 rfl rfl rfl rfl (by omega) (by omega) (HL0.rdR 2 Le.rfl)) rfl ?_
        have hn6 := rd_len (HL0.rdR 2 Le.rfl)
        obtain ⟨x5, hx5⟩ : ∃ x, pk[i]? = some x := ⟨_, List.getElem?_eq_getElem (by omega)⟩
        refine wl_valE (v := .int .i64 x5) rfl (rf_load Try.underlying3 rfl rfl rfl (rd_el (HL0.rdR 2 Le.rfl) hx5 0 _ rfl)) rfl ?_
        refine wl_tr HL0 rfl [2, 1] (take_tr hj.wf ⟨by omega, by omega⟩ x5) rfl .nil (rf_call Try.call14 rfl rfl) rfl ?_
        rintro _ w7 _ ⟨rfl, rfl⟩ H7
        have hjt := hj.take x5
        have htt := takeC_tot hj.wf x5
        have hq1 : 0 ≤ takeV cs (mkTs n turn 0 n) x5 ↔ ((d : Nat) : Int) < totF (l.map (·.steps)) := takeV_iff.trans (hj.live.trans (by omega))
        have hq2 : 0 ≤ takeV cs (mkTs n turn 0 n) x5 → (bn (takeI cs (mkTs n turn 0 n) x5).isSome = 1) := fun h => by obtain ⟨i, hi⟩ := takeV_pos h; rw [hi]; rfl
        have hq3 : ¬ 0 ≤ takeV cs (mkTs n turn 0 n) x5 → (bn (takeI cs (mkTs n turn 0 n) x5).isSome = 0) := fun h => by rw [takeV_neg h]; rfl
        refine wl_valE (v := .int .i64 (takeV cs (mkTs n turn 0 n) x5)) rfl (rf_assign rfl) rfl ?_
        refine wl_nil ?_
        refine thn ?_
        refine seq_ ?_
        refine seq_ ?_
        refine region_ ?_
        refine wl_valE (v := .int .i64 (takeV cs (mkTs n turn 0 n) x5)) rfl (rf_move rfl) rfl ?_
        refine wl_valE (v := .bool (decide ((0 : Int) ≤ takeV cs (mkTs n turn 0 n) x5))) rfl (rf_geq rfl rfl rfl rfl) rfl ?_
        refine wl_valE (v := .int .i64 ((d : Nat) : Int)) rfl (rf_move rfl) rfl ?_
        refine wl_valE (v := .int .i64 (totF (l.map (·.steps)))) rfl (rf_move rfl) rfl ?_
        refine wl_valE (v := .bool (decide (((d : Nat) : Int) < totF (l.map (·.steps))))) rfl (rf_lss rfl rfl rfl rfl) rfl ?_
        refine wl_valE (v := .bool (decide ((decide ((0 : Int) ≤ takeV cs (mkTs n turn 0 n) x5)) ≠ (decide (((d : Nat) : Int) < totF (l.map (·.steps))))))) rfl (rf_neqB Try.underlying4 rfl rfl rfl rfl) rfl ?_
        refine wl_valE (v := .bool (decide ((decide ((0 : Int) ≤ takeV cs (mkTs n turn 0 n) x5)) ≠ (decide (((d : Nat) : Int) < totF (l.map (·.steps))))))) rfl (rf_move rfl) rfl ?_
        refine wl_guardT rfl rfl rfl (dne hq1) ?_
        refine wl_valE (v := .pointer (some ⟨pl1, 0, none⟩)) rfl (rf_move rfl) rfl ?_
        refine wl_guardT rfl rfl rfl (dne hq1) ?_
        refine wl_tr H7 rfl [] (lready_tr hjt.wf.hok hjt.wf.hbl hjt.wf.hts hjt.wf.htl) rfl (.own 2 rfl Le.rfl (.own 1 rfl Le.rfl .nil)) (rf_call Try.call17 rfl rfl) rfl ?_
        rintro _ w8 _ ⟨ar8, nr8, cr8, rfl, rfl⟩ H8
        have hrl := (slH_len H8 3 rfl).1
        have hq4 : 0 ≤ takeV cs (mkTs n turn 0 n) x5 → ((0 : Int) < ((nr8 : Nat) : Int) ↔ ((d + 1 : Nat) : Int) < totF (l.map (·.steps))) := fun h => by have h1 := hq2 h; have h2 := hjt.live; constructor <;> intro h3 <;> omega
        refine wl_guardT rfl rfl rfl (dne hq1) ?_
        refine wl_valE (v := .int .i64 ((nr8 : Nat) : Int)) rfl (rf_len_slice Try.underlying23 rfl rfl) rfl ?_
        refine wl_guardT rfl rfl rfl (dne hq1) ?_
        refine wl_valE (v := .bool (decide ((0 : Int) < ((nr8 : Nat) : Int)))) rfl (rf_gtr rfl rfl rfl rfl) rfl ?_
        refine wl_guardT rfl rfl rfl (dne hq1) ?_
        refine wl_valE (v := .int .i64 ((d : Nat) : Int)) rfl (rf_move rfl) rfl ?_
        refine wl_guardT rfl rfl rfl (dne hq1) ?_
        refine wl_valE (v := .int .i64 ((d + 1 : Nat) : Int)) rfl (rf_add rfl rfl rfl rfl (IntWalk.i64_in _ (by omega))) rfl ?_
        refine wl_guardT rfl rfl rfl (dne hq1) ?_
        refine wl_valE (v := .int .i64 (totF (l.map (·.steps)))) rfl (rf_move rfl) rfl ?_
        refine wl_guardT rfl rfl rfl (dne hq1) ?_
        refine wl_valE (v := .bool (decide (((d + 1 : Nat) : Int) < totF (l.map (·.steps))))) rfl (rf_lss rfl rfl rfl rfl) rfl ?_
        refine wl_guardT rfl rfl rfl (dne hq1) ?_
        refine wl_valE (v := .bool (decide ((decide ((0 : Int) < ((nr8 : Nat) : Int))) ≠ (decide (((d + 1 : Nat) : Int) < totF (l.map (·.steps))))))) rfl (rf_neqB Try.underlying4 rfl rfl rfl rfl) rfl ?_
        refine wl_guardT rfl rfl rfl (dne hq1) ?_
        refine wl_valE (v := .bool (decide ((decide ((0 : Int) < ((nr8 : Nat) : Int))) ≠ (decide (((d + 1 : Nat) : Int) < totF (l.map (·.steps))))))) rfl (rf_move rfl) rfl ?_
        refine wl_split (decide ((decide ((0 : Int) < ((nr8 : Nat) : Int))) ≠ (decide (((d + 1 : Nat) : Int) < totF (l.map (·.steps)))))) (fun u12_16 => ?_) (fun u12_16 => ?_)
        · have u12_16p := of_decide_eq_true u12_16
          refine wl_guardT rfl rfl rfl u12_16 ?_
          refine wl_valE (v := .int .i64 (takeV cs (mkTs n turn 0 n) x5)) rfl (rf_move rfl) rfl ?_
          refine wl_guardT rfl rfl rfl u12_16 ?_
          refine wl_valE (v := .bool (decide ((0 : Int) ≤ takeV cs (mkTs n turn 0 n) x5))) rfl (rf_geq rfl rfl rfl rfl) rfl ?_
          refine wl_guardT rfl rfl rfl (dne hq1) ?_
          refine wl_valE (v := .bool (decide ((0 : Int) ≤ takeV cs (mkTs n turn 0 n) x5))) rfl (rf_pickT rfl rfl rfl u12_16) rfl ?_
          refine wl_valE (v := .bool (decide ((0 : Int) ≤ takeV cs (mkTs n turn 0 n) x5))) rfl (rf_pickF rfl rfl rfl (dne hq1)) rfl ?_
          refine wl_nil ?_
          refine thn ?_
          refine cond_ (t := decide ((0 : Int) ≤ takeV cs (mkTs n turn 0 n) x5)) rfl rfl (fun c59 => ?_) (fun c59 => ?_)
          · have c59p := of_decide_eq_true c59
            exact absurd u12_16 (by rw [dne (hq4 c59p)]; simp)
          · have c59p := of_decide_eq_false c59
            refine skip_ ?_
            refine thn ?_
            refine seq_ ?_
            refine region_ ?_
            refine wl_valE (v := .int .i64 (takeV cs (mkTs n turn 0 n) x5)) rfl (rf_move rfl) rfl ?_
            refine wl_valE (v := .bool (decide ((0 : Int) ≤ takeV cs (mkTs n turn 0 n) x5))) rfl (rf_geq rfl rfl rfl rfl) rfl ?_
            refine wl_nil ?_
            refine thn ?_
            refine cond_ (t := decide ((0 : Int) ≤ takeV cs (mkTs n turn 0 n) x5)) rfl rfl (fun c61 => ?_) (fun c61 => ?_)
            · have c61p := of_decide_eq_true c61
              refine region_ ?_
              refine wl_valE (v := .int .i64 ((d : Nat) : Int)) rfl (rf_move rfl) rfl ?_
              refine wl_valE (v := .int .i64 ((d + 1 : Nat) : Int)) rfl (rf_add rfl rfl rfl rfl (IntWalk.i64_in _ (by omega))) rfl ?_
              refine wl_valE (v := .int .i64 ((d + 1 : Nat) : Int)) rfl (rf_assign rfl) rfl ?_
              refine wl_nil ?_
              refine bln ?_
              refine thn ?_
              refine region_ ?_
              refine wl_valE (v := .int .i64 ((i : Nat) : Int)) rfl (rf_move rfl) rfl ?_
              refine wl_valE (v := .int .i64 ((i + 1 : Nat) : Int)) rfl (rf_add rfl rfl rfl rfl (IntWalk.i64_in _ (by omega))) rfl ?_
              refine wl_valE (v := .int .i64 ((i + 1 : Nat) : Int)) rfl (rf_assign rfl) rfl ?_
              refine wl_nil ?_
              refine thn ?_
              refine ⟨n2 - (i + 1), _, rfl, (by omega), _, i + 1, d + 1, takeC cs (mkTs n turn 0 n) x5, upds_self ⟨rfl, rfl, rfl, rfl, rfl, rfl, trivial⟩, rfl, by omega, ⟨hj.take _, by omega, by rw [takeC_len]; exact hjl⟩, (by rw [show (((d + 1 : Nat)) : Int) = ((d : Nat) : Int) + ((bn (takeI cs (mkTs n turn 0 n) x5).isSome : Nat) : Int) from by omega]; exact H8.pick' [0, 1, 2] rfl rfl)⟩
            · have c61p := of_decide_eq_false c61
              refine skip_ ?_
              refine bln ?_
              refine thn ?_
              refine region_ ?_
              refine wl_valE (v := .int .i64 ((i : Nat) : Int)) rfl (rf_move rfl) rfl ?_
              refine wl_valE (v := .int .i64 ((i + 1 : Nat) : Int)) rfl (rf_add rfl rfl rfl rfl (IntWalk.i64_in _ (by omega))) rfl ?_
              refine wl_valE (v := .int .i64 ((i + 1 : Nat) : Int)) rfl (rf_assign rfl) rfl ?_
              refine wl_nil ?_
              refine thn ?_
              refine ⟨n2 - (i + 1), _, rfl, (by omega), _, i + 1, d, takeC cs (mkTs n turn 0 n) x5, upds_self ⟨rfl, rfl, rfl, rfl, rfl, rfl, trivial⟩, rfl, by omega, ⟨hj.take _, by omega, by rw [takeC_len]; exact hjl⟩, (by rw [show ((d : Nat) : Int) = ((d : Nat) : Int) + ((bn (takeI cs (mkTs n turn 0 n) x5).isSome : Nat) : Int) from by omega]; exact H8.pick' [0, 1, 2] rfl rfl)⟩
        · have u12_16p := of_decide_eq_false u12_16
          refine wl_guardF rfl rfl rfl u12_16 ?_
          refine wl_guardF rfl rfl rfl u12_16 ?_
          refine wl_guardT rfl rfl rfl (dne hq1) ?_
          refine wl_valE (v := .bool false) rfl (rf_pickF rfl rfl rfl u12_16) rfl ?_
          refine wl_valE (v := .bool false) rfl (rf_pickF rfl rfl rfl (dne hq1)) rfl ?_
          refine wl_nil ?_
          refine thn ?_
          refine condF rfl rfl ?_
          refine skip_ ?_
          refine thn ?_
          refine seq_ ?_
          refine region_ ?_
          refine wl_valE (v := .int .i64 (takeV cs (mkTs n turn 0 n) x5)) rfl (rf_move rfl) rfl ?_
          refine wl_valE (v := .bool (decide ((0 : Int) ≤ takeV cs (mkTs n turn 0 n) x5))) rfl (rf_geq rfl rfl rfl rfl) rfl ?_
          refine wl_nil ?_
          refine thn ?_
          refine cond_ (t := decide ((0 : Int) ≤ takeV cs (mkTs n turn 0 n) x5)) rfl rfl (fun c61 => ?_) (fun c61 => ?_)
          · have c61p := of_decide_eq_true c61
            refine region_ ?_
            refine wl_valE (v := .int .i64 ((d : Nat) : Int)) rfl (rf_move rfl) rfl ?_
            refine wl_valE (v := .int .i64 ((d + 1 : Nat) : Int)) rfl (rf_add rfl rfl rfl rfl (IntWalk.i64_in _ (by omega))) rfl ?_
            refine wl_valE (v := .int .i64 ((d + 1 : Nat) : Int)) rfl (rf_assign rfl) rfl ?_
            refine wl_nil ?_
            refine bln ?_
            refine thn ?_
            refine region_ ?_
            refine wl_valE (v := .int .i64 ((i : Nat) : Int)) rfl (rf_move rfl) rfl ?_
            refine wl_valE (v := .int .i64 ((i + 1 : Nat) : Int)) rfl (rf_add rfl rfl rfl rfl (IntWalk.i64_in _ (by omega))) rfl ?_
            refine wl_valE (v := .int .i64 ((i + 1 : Nat) : Int)) rfl (rf_assign rfl) rfl ?_
            refine wl_nil ?_
            refine thn ?_
            refine ⟨n2 - (i + 1), _, rfl, (by omega), _, i + 1, d + 1, takeC cs (mkTs n turn 0 n) x5, upds_self ⟨rfl, rfl, rfl, rfl, rfl, rfl, trivial⟩, rfl, by omega, ⟨hj.take _, by omega, by rw [takeC_len]; exact hjl⟩, (by rw [show (((d + 1 : Nat)) : Int) = ((d : Nat) : Int) + ((bn (takeI cs (mkTs n turn 0 n) x5).isSome : Nat) : Int) from by omega]; exact H8.pick' [0, 1, 2] rfl rfl)⟩
          · have c61p := of_decide_eq_false c61
            refine skip_ ?_
            refine bln ?_
            refine thn ?_
            refine region_ ?_
            refine wl_valE (v := .int .i64 ((i : Nat) : Int)) rfl (rf_move rfl) rfl ?_
            refine wl_valE (v := .int .i64 ((i + 1 : Nat) : Int)) rfl (rf_add rfl rfl rfl rfl (IntWalk.i64_in _ (by omega))) rfl ?_
            refine wl_valE (v := .int .i64 ((i + 1 : Nat) : Int)) rfl (rf_assign rfl) rfl ?_
            refine wl_nil ?_
            refine thn ?_
            refine ⟨n2 - (i + 1), _, rfl, (by omega), _, i + 1, d, takeC cs (mkTs n turn 0 n) x5, upds_self ⟨rfl, rfl, rfl, rfl, rfl, rfl, trivial⟩, rfl, by omega, ⟨hj.take _, by omega, by rw [takeC_len]; exact hjl⟩, (by rw [show ((d : Nat) : Int) = ((d : Nat) : Int) + ((bn (takeI cs (mkTs n turn 0 n) x5).isSome : Nat) : Int) from by omega]; exact H8.pick' [0, 1, 2] rfl rfl)⟩
      · have c30p := of_decide_eq_false c30
        refine exit_ ?_
        refine thx (thx (blx ?_))
        refine thn ?_
        refine seq_ ?_
        have hlen : cs.length = n := hjl
        have hd := drain_full (f := totL cs + 1) (m := totF (l.map (·.steps)) + (1 : Int)) hj (by omega) (by omega)
        have hdl := (drain_tot (ts := (mkTs n turn 0 n)) (f := totL cs + 1) (cs := cs) (m := totF (l.map (·.steps)) + (1 : Int)) hj.wf).2.2
        refine region_ ?_
        refine wl_valE (v := .int .i64 (totF (l.map (·.steps)))) rfl (rf_move rfl) rfl ?_
        refine wl_valE (v := .int .i64 ((d : Nat) : Int)) rfl (rf_move rfl) rfl ?_
        refine wl_valE (v := .int .i64 ((totF (l.map (·.steps))) - ((d : Nat) : Int))) rfl (rf_sub rfl rfl rfl rfl (IntWalk.i64_in _ (by omega))) rfl ?_
        refine wl_valE (v := .int .i64 ((totF (l.map (·.steps))) - ((d : Nat) : Int))) rfl (rf_assign rfl) rfl ?_
        refine wl_nil ?_
        refine thn ?_
        refine seq_ ?_
        refine region_ ?_
        refine wl_valE (v := .pointer (some ⟨pl1, 0, none⟩)) rfl (rf_move rfl) rfl ?_
        refine wl_valE (v := .int .i64 (totF (l.map (·.steps)))) rfl (rf_move rfl) rfl ?_
        refine wl_valE (v := .int .i64 ((totF (l.map (·.steps))) + (1 : Int))) rfl (rf_add rfl rfl rfl rfl (IntWalk.i64_in _ (by omega))) rfl ?_
        refine wl_tr HL0 rfl [2, 1] (drain_tr hj.wf ⟨by omega, by omega⟩ ((totF (l.map (·.steps))) + (1 : Int))) rfl .nil (rf_call Try.call18 rfl rfl) rfl ?_
        rintro _ w9 _ ⟨rfl, rfl⟩ H9
        obtain ⟨ds, hds⟩ : ∃ x, x = (drainS (mkTs n turn 0 n) (totL cs + 1) cs ((totF (l.map (·.steps))) + (1 : Int))).1 := ⟨_, rfl⟩
        rw [← hds] at H9 hd hdl
        refine wl_valE (v := .int .i64 ((totF (l.map (·.steps))) - ((d : Nat) : Int))) rfl (rf_move rfl) rfl ?_
        refine wl_valE (v := .bool (decide ((((drainS (mkTs n turn 0 n) (totL cs + 1) cs ((totF (l.map (·.steps))) + (1 : Int))).2 : Nat) : Int) = (totF (l.map (·.steps))) - ((d : Nat) : Int)))) rfl (rf_eql rfl rfl rfl rfl) rfl ?_
        refine wl_valE (v := .bool (decide ((((drainS (mkTs n turn 0 n) (totL cs + 1) cs ((totF (l.map (·.steps))) + (1 : Int))).2 : Nat) : Int) = (totF (l.map (·.steps))) - ((d : Nat) : Int)))) rfl (rf_move rfl) rfl ?_
        refine wl_guardT rfl rfl rfl (by simp only [decide_eq_true_eq]; omega) ?_
        refine wl_valE (v := .pointer (some ⟨pl1, 0, none⟩)) rfl (rf_move rfl) rfl ?_
        refine wl_guardT rfl rfl rfl (by simp only [decide_eq_true_eq]; omega) ?_
        refine wl_tr H9 rfl [2, 1] (drain_tr hd.2.2.wf ⟨by omega, by have := hd.2.1; omega⟩ (1 : Int)) rfl .nil (rf_call Try.call18 rfl rfl) rfl ?_
        rintro _ w10 _ ⟨rfl, rfl⟩ H10
        have hd2 := drain_none2 (f := totL ds + 1) (m := (1 : Int)) hd.2.2 hd.2.1
        rw [hd2] at H10
        dsimp only at H10
        refine wl_guardT rfl rfl rfl (by simp only [decide_eq_true_eq]; omega) ?_
        refine wl_valE (v := .bool (decide ((((drainS (mkTs n turn 0 n) (totL ds + 1) ds (1 : Int)).2 : Nat) : Int) = (0 : Int)))) rfl (rf_eql rfl rfl rfl rfl) rfl ?_
        refine wl_valE (v := .bool (decide ((((drainS (mkTs n turn 0 n) (totL ds + 1) ds (1 : Int)).2 : Nat) : Int) = (0 : Int)))) rfl (rf_pickT rfl rfl rfl (by simp only [decide_eq_true_eq]; omega)) rfl ?_
        refine wl_valE (v := .bool (decide ((((drainS (mkTs n turn 0 n) (totL ds + 1) ds (1 : Int)).2 : Nat) : Int) = (0 : Int)))) rfl (rf_move rfl) rfl ?_
        refine wl_guardT rfl rfl rfl (by simp only [decide_eq_true_eq]; rw [hd2]; rfl) ?_
        refine wl_valE (v := .pointer (some ⟨pl1, 0, none⟩)) rfl (rf_move rfl) rfl ?_
        refine wl_guardT rfl rfl rfl (by simp only [decide_eq_true_eq]; rw [hd2]; rfl) ?_
        refine wl_tr H10 rfl [2, 1] (take_tr hd.2.2.wf ⟨by omega, by have := hd.2.1; omega⟩ (0 : Int)) rfl .nil (rf_call Try.call14 rfl rfl) rfl ?_
        rintro _ w11 _ ⟨rfl, rfl⟩ H11
        have hi1 : takeI ds (mkTs n turn 0 n) (0 : Int) = none := by rcases takeI_spec ds (mkTs n turn 0 n) (0 : Int) with ⟨_, h⟩ | ⟨_, _, _, _, _, _, h⟩ <;> first | exact h | (have h9 := hd.2.2.live.1 h; have := hd.2.1; omega)
        have hc1 : takeC ds (mkTs n turn 0 n) (0 : Int) = ds := by unfold takeC; rw [hi1]
        have hb0 : bn (none : Option Int).isSome = 0 := rfl
        rw [hc1, hi1, hb0] at H11
        refine wl_guardT rfl rfl rfl (by simp only [decide_eq_true_eq]; rw [hd2]; rfl) ?_
        refine wl_valE (v := .bool (decide (takeV ds (mkTs n turn 0 n) (0 : Int) = (-1 : Int)))) rfl (rf_eql rfl rfl rfl rfl) rfl ?_
        refine wl_valE (v := .bool (decide (takeV ds (mkTs n turn 0 n) (0 : Int) = (-1 : Int)))) rfl (rf_pickT rfl rfl rfl (by simp only [decide_eq_true_eq]; rw [hd2]; rfl)) rfl ?_
        refine wl_valE (v := .bool (decide (takeV ds (mkTs n turn 0 n) (0 : Int) = (-1 : Int)))) rfl (rf_move rfl) rfl ?_
        refine wl_guardT rfl rfl rfl (by simp only [decide_eq_true_eq]; unfold takeV; rw [hi1]; rfl) ?_
        refine wl_valE (v := .pointer (some ⟨pl1, 0, none⟩)) rfl (rf_move rfl) rfl ?_
        refine wl_guardT rfl rfl rfl (by simp only [decide_eq_true_eq]; unfold takeV; rw [hi1]; rfl) ?_
        refine wl_tr H11 rfl [] (steps_tr) rfl (.own 2 rfl Le.rfl .nil) (rf_call Try.call19 rfl rfl) rfl ?_
        rintro _ w12 _ ⟨rfl, rfl⟩ H12
        refine wl_guardT rfl rfl rfl (by simp only [decide_eq_true_eq]; unfold takeV; rw [hi1]; rfl) ?_
        refine wl_valE (v := .int .i64 (totF (l.map (·.steps)))) rfl (rf_move rfl) rfl ?_
        refine wl_guardT rfl rfl rfl (by simp only [decide_eq_true_eq]; unfold takeV; rw [hi1]; rfl) ?_
        refine wl_valE (v := .bool (decide (((((d : Nat) : Int) + (((drainS (mkTs n turn 0 n) (totL cs + 1) cs (totF (l.map (·.steps)) + (1 : Int))).2 : Nat) : Int) + ((0 : Nat) : Int)) + ((0 : Nat) : Int)) = totF (l.map (·.steps))))) rfl (rf_eql rfl rfl rfl rfl) rfl ?_
        refine wl_valE (v := .bool (decide (((((d : Nat) : Int) + (((drainS (mkTs n turn 0 n) (totL cs + 1) cs (totF (l.map (·.steps)) + (1 : Int))).2 : Nat) : Int) + ((0 : Nat) : Int)) + ((0 : Nat) : Int)) = totF (l.map (·.steps))))) rfl (rf_pickT rfl rfl rfl (by simp only [decide_eq_true_eq]; unfold takeV; rw [hi1]; rfl)) rfl ?_
        refine wl_valE (v := .bool (decide (((((d : Nat) : Int) + (((drainS (mkTs n turn 0 n) (totL cs + 1) cs (totF (l.map (·.steps)) + (1 : Int))).2 : Nat) : Int) + ((0 : Nat) : Int)) + ((0 : Nat) : Int)) = totF (l.map (·.steps))))) rfl (rf_move rfl) rfl ?_
        refine wl_guardT rfl rfl rfl (by simp only [decide_eq_true_eq]; have := hd.1; omega) ?_
        refine wl_valE (v := .slice al1 n cl1) rfl (rf_move rfl) rfl ?_
        refine wl_guardT rfl rfl rfl (by simp only [decide_eq_true_eq]; have := hd.1; omega) ?_
        refine wl_tr H12 rfl [] (ended_tr hd.2.2.wf.hok hd.2.2.wf.hbl (by omega) al1 n cl1 (by omega)) rfl (.own 0 rfl slH_rd (.own 1 rfl Le.rfl .nil)) (rf_call Try.call20 rfl rfl) rfl ?_
        rintro _ w13 _ ⟨rfl, rfl⟩ H13
        refine wl_valE (v := .bool (ds.all fun c => decide (c.left = 0))) rfl (rf_pickT rfl rfl rfl (by simp only [decide_eq_true_eq]; have := hd.1; omega)) rfl ?_
        refine wl_valE (v := .bool (ds.all fun c => decide (c.left = 0))) rfl (rf_assign rfl) rfl ?_
        refine wl_nil ?_
        refine thn ?_
        refine ret_ ?_
        refine fin1 (v := .bool (ds.all fun c => decide (c.left = 0))) Try.results4 rfl rfl ?_
        exact ⟨_, congrArg Value.bool (totL_zero hd.2.2.wf.hok hd.2.1), H13.pick' [] rfl rfl⟩
end Go.Proofs.Ytiidihgimcebgaa.W
