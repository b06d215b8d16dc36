import Derived.Test.YtiidihgimcebgaaC7
import Derived.KernelRfl
namespace Go.Proofs.Ytiidihgimcebgaa.W
open Go Go.Wk
set_option linter.unusedVariables false
theorem waits_tr (a : Option Addr) (n c : Nat) (l : List MakeR) (turn : Int) (a2 : Option Addr) (n2 c2 : Nat) (pk : List Int) (hn : n ≤ 1048576) (hn2 : n2 ≤ 1048576) (hb : ∀ x ∈ l, x.behind.n ≤ 4398046511104) (hbl : ∀ x ∈ l, x.bl.length ≤ 4398046511104) : Tr Try.prog 3 [.slice a n c, .int .i64 turn, .slice a2 n2 c2] [rdH encMake 2 a n c l, shH (l.map mkB), rdH encI 1 a2 n2 c2 pk] [] (fun v m => v = .bool true) := by
  intro w0 S0 H0
  have hl1 := (rd_len (H0.rdR 0 Le.rfl)).1
  have hl2 := (rd_len (H0.rdR 2 Le.rfl)).1
  have hj0 : Jn (mkCs 0 l) (mkTs n turn 0 n) := ⟨mk_wf hl1 hbl (by omega), mk_dag l, mk_cov hl1⟩
  have ht0 := mk_tot l 0
  have htf := totF_in (l.map (·.steps))
  rw [List.length_map] at htf
  have hml := mkCs_len l 0
  refine enterR Try.func3 rfl Try.ntmps3 rfl ?_
  intro g0
  refine seq_ ?_
  refine region_ ?_
  refine wl_valE (v := .bool false) rfl (rf_assign rfl) rfl ?_
  refine wl_nil ?_
  refine thn ?_
  refine seq_ ?_
  refine seq_ ?_
  refine region_ ?_
  refine wl_valE (v := .slice a n c) rfl (rf_move rfl) rfl ?_
  refine wl_tr H0 rfl [] (parts_tr a n c l none 0 0 [] (fun x hx => Nat.le_trans (hb x hx) (by decide)) (by simp) (by omega) (by omega)) rfl (.ro 0 Le.rfl (.non nil_rd .nil)) (rf_call Try.call10 rfl rfl) rfl ?_
  rintro _ w1 _ ⟨rfl, rfl⟩ H1
  refine wl_valE (v := .bool (decide (pL (pL 100000 (l.map (·.behind.n))) (([] : List OpR).map (·.picks.n)) < (0 : Int)))) rfl (rf_lss rfl rfl rfl rfl) rfl ?_
  refine wl_nil ?_
  refine thn ?_
  refine cond_ (t := decide (pL (pL 100000 (l.map (·.behind.n))) (([] : List OpR).map (·.picks.n)) < (0 : Int))) rfl rfl (fun c19 => ?_) (fun c19 => ?_)
  · have c19p := of_decide_eq_true c19
    refine seq_ ?_
    refine region_ ?_
    refine wl_valE (v := .bool true) rfl (rf_assign rfl) rfl ?_
    refine wl_nil ?_
    refine thn ?_
    refine ret_ ?_
    refine thr ?_
    refine fin1 (v := .bool true) Try.results3 rfl rfl ?_
    exact ⟨_, rfl, H1.pick' [] rfl rfl⟩
  · have c19p := of_decide_eq_false c19
    refine skip_ ?_
    refine thn ?_
    refine seq_ ?_
    refine seq_ ?_
    refine region_ ?_
    refine wl_tr H1 rfl [] (works_tr) rfl .nil (rf_call Try.call11 rfl rfl) rfl ?_
    rintro _ w2 _ ⟨rfl, rfl⟩ H2
    refine wl_valE (v := .bool false) rfl (rf_not rfl rfl) rfl ?_
    refine wl_nil ?_
    refine thn ?_
    refine condF rfl rfl ?_
    refine skip_ ?_
    refine thn ?_
    refine seq_ ?_
    refine region_ ?_
    refine wl_valE (v := .slice a n c) rfl (rf_move rfl) rfl ?_
    refine wl_valE (v := .int .i64 turn) rfl (rf_move rfl) rfl ?_
    refine wl_tr H2 rfl [] (line_tr a n c l turn (by omega) hb) rfl (.ro 0 Le.rfl (.ro 1 Le.rfl .nil)) (rf_call Try.call12 rfl rfl) rfl ?_
    rintro _ w3 _ ⟨ps1, al1, cl1, pl1, hps1, rfl, rfl⟩ H3
    refine wl_valE (v := .tuple #[.slice al1 n cl1, .pointer (some ⟨pl1, 0, none⟩)]) rfl (rf_move rfl) rfl ?_
    refine wl_valE (v := .slice al1 n cl1) rfl (rf_extract rfl rfl rfl) rfl ?_
    refine wl_valE (v := .pointer (some ⟨pl1, 0, none⟩)) rfl (rf_extract rfl rfl rfl) rfl ?_
    refine wl_valE (v := .slice al1 n cl1) rfl (rf_assign rfl) rfl ?_
    refine wl_valE (v := .pointer (some ⟨pl1, 0, none⟩)) rfl (rf_assign rfl) rfl ?_
    refine wl_nil ?_
    refine thn ?_
    refine seq_ ?_
    refine region_ ?_
    refine wl_valE (v := .slice al1 n cl1) rfl (rf_move rfl) rfl ?_
    refine wl_valE (v := .int .i64 ((n : Nat) : Int)) rfl (rf_len_slice Try.underlying26 rfl rfl) rfl ?_
    refine wl_makeSliceH (enc := encI) (l := n) (c := n) H3 0 rfl encI_len Try.underlying23 ti3 rfl rfl rfl rfl rfl (by omega) (by omega) ?_
    intro a9 w5 H5
    refine wl_valE (v := .slice a9 n n) rfl (rf_assign rfl) rfl ?_
    refine wl_nil ?_
    refine thn ?_
    refine seq_ ?_
    refine seq_ ?_
    refine region_ ?_
    refine wl_valE (v := .int .i64 (0 : Int)) rfl (rf_assign rfl) rfl ?_
    refine wl_nil ?_
    refine thn ?_
    refine block_ ?_
    refine loop_ (fun qk_ qf_ qw_ => ∃ (g : Nat → Value) (i : Nat) (lf : List Int), qf_ = upds g [(0, .slice a n c), (1, .int .i64 turn), (2, .slice a2 n2 c2), (7, .slice al1 n cl1), (8, .pointer (some ⟨pl1, 0, none⟩)), (9, .slice a9 n n), (10, .int .i64 ((i : Nat) : Int))] ∧ qk_ = n - i ∧ (i ≤ n ∧ lf.length = n) ∧ (∀ j, j < i → lf[j]? = ((mkCs 0 l)[j]?).map (·.left)) ∧ St w0 S0 [rdH encMake 2 a n c l, shH (l.map mkB), rdH encI 1 a2 n2 c2 pk] qw_ [slH encOP 1 30 al1 n cl1 (ps1.map some), ChH ps1 (mkCs 0 l), lineH pl1 ps1 (mkTs n turn 0 n) (0 : Int), slH encI 1 3 a9 n n lf]) (n - 0) ?_ ?_
    · refine ⟨_, 0, List.replicate n 0, upds_self ⟨rfl, rfl, rfl, rfl, rfl, rfl, rfl, trivial⟩, rfl, ⟨Nat.zero_le _, by simp⟩, (fun j hj => by omega), H5.pick' [0, 1, 2, 3] rfl rfl⟩
    · rintro lk0 _ wl0 ⟨gl0, i, lf, rfl, hlk0, ⟨hr0, hlf⟩, hr1, HL0⟩
      refine seq_ ?_
      refine seq_ ?_
      refine region_ ?_
      refine wl_valE (v := .int .i64 ((i : Nat) : Int)) rfl (rf_move rfl) rfl ?_
      refine wl_valE (v := .slice al1 n cl1) rfl (rf_move rfl) rfl ?_
      refine wl_valE (v := .int .i64 ((n : Nat) : Int)) rfl (rf_len_slice Try.underlying26 rfl rfl) rfl ?_
      refine wl_valE (v := .bool (decide (((i : Nat) : Int) < ((n : Nat) : Int)))) rfl (rf_lss rfl rfl rfl rfl) rfl ?_
      refine wl_nil ?_
      refine thn ?_
      refine cond_ (t := decide (((i : Nat) : Int) < ((n : Nat) : Int))) rfl rfl (fun c34 => ?_) (fun c34 => ?_)
      · have c34p := of_decide_eq_true c34
        refine skip_ ?_
        refine thn ?_
        refine seq_ ?_
        refine block_ ?_
        refine region_ ?_
        refine wl_valE (v := .slice a9 n n) rfl (rf_move rfl) rfl ?_
        refine wl_valE (v := .int .i64 ((i : Nat) : Int)) rfl (rf_move rfl) rfl ?_
        refine wl_valE (v := .slice al1 n cl1) rfl (rf_move rfl) rfl ?_
        refine wl_valE (v := .int .i64 ((i : Nat) : Int)) rfl (rf_move rfl) rfl ?_
        refine wl_valE (v := .pointer (some ⟨ab al1, ao al1 + i * 1, none⟩)) rfl (rf_indexAddrH Try.underlying26 ti30 rfl rfl rfl rfl (by omega) (by omega) (HL0.rdO 0 slH_rd)) rfl ?_
        have hn7 := slH_len HL0 0 rfl
        obtain ⟨x6, hx6⟩ : ∃ x, (ps1.map some)[i]? = some x := ⟨_, List.getElem?_eq_getElem (by omega)⟩
        refine wl_valE (v := .pointer (x6.map fun b => ⟨b, 0, none⟩)) rfl (rf_load Try.underlying30 rfl rfl rfl (rd_el (HL0.rdO 0 slH_rd) hx6 0 _ rfl)) rfl ?_
        obtain ⟨hpy, hip⟩ := map_some_at hx6
        subst hpy
        obtain ⟨d, hd⟩ : ∃ d, (mkCs 0 l)[i]? = some d := ⟨_, List.getElem?_eq_getElem (by omega)⟩
        refine wl_tr HL0 rfl [] (left_tr i d hd) rfl (.own 1 rfl Le.rfl .nil) (rf_call Try.call13 rfl rfl) rfl ?_
        rintro _ w8 _ ⟨rfl, rfl⟩ H8
        refine wl_valE (v := .pointer (some ⟨ab a9, ao a9 + i * 1, none⟩)) rfl (rf_indexAddrH Try.underlying23 ti3 rfl rfl rfl rfl (by omega) (by omega) (H8.rdO 3 slH_rd)) rfl ?_
        have hn10 := slH_len H8 3 rfl
        obtain ⟨x9, hx9⟩ : ∃ x, lf[i]? = some x := ⟨_, List.getElem?_eq_getElem (by omega)⟩
        refine wl_storeElH H8 3 (enc := encI) (i := i) (j := 0) (q := d.left) (u := .int .i64 d.left) (cs := [.int .i64 d.left]) rfl rfl encI_len ti3 rfl rfl rfl rfl rfl rfl oneAll hx9 (leb rfl) rfl ?_
        intro w11 H11
        have hx11 : (lf.set i d.left)[i]? = some d.left := List.getElem?_set_self (List.getElem?_eq_some_iff.1 hx9).1
        have hn11 := slH_len H11 3 rfl
        refine wl_nil ?_
        refine bln ?_
        refine thn ?_
        refine region_ ?_
        refine wl_valE (v := .int .i64 ((i : Nat) : Int)) rfl (rf_move rfl) rfl ?_
        refine wl_valE (v := .int .i64 ((i + 1 : Nat) : Int)) rfl (rf_add rfl rfl rfl rfl (IntWalk.i64_in _ (by omega))) rfl ?_
        refine wl_valE (v := .int .i64 ((i + 1 : Nat) : Int)) rfl (rf_assign rfl) rfl ?_
        refine wl_nil ?_
        refine thn ?_
        refine ⟨n - (i + 1), _, rfl, (by omega), _, i + 1, (lf.set i d.left), upds_self ⟨rfl, rfl, rfl, rfl, rfl, rfl, rfl, trivial⟩, rfl, ⟨by omega, by simp; exact hlf⟩, set_step (by omega) hd hr1, H11.pick' [0, 1, 2, 3] rfl rfl⟩
      · have c34p := of_decide_eq_false c34
        refine exit_ ?_
        refine thx (thx (blx ?_))
        refine thn ?_
        refine seq_ ?_
        refine seq_ ?_
        have hlf2 := map_of (by omega) (fun j hj => hr1 j (by omega))
        rw [hlf2] at HL0
        refine region_ ?_
        refine wl_valE (v := .int .i64 (0 : Int)) rfl (rf_assign rfl) rfl ?_
        refine wl_nil ?_
        refine thn ?_
        refine block_ ?_
        refine loop_ (fun qk_ qf_ qw_ => ∃ (g : Nat → Value) (i : Nat) (s : Int) (cs : List Cho), qf_ = upds g [(0, .slice a n c), (1, .int .i64 turn), (2, .slice a2 n2 c2), (7, .slice al1 n cl1), (8, .pointer (some ⟨pl1, 0, none⟩)), (9, .slice a9 n n), (11, .int .i64 ((i : Nat) : Int))] ∧ qk_ = n2 - i ∧ (i ≤ n2 ∧ Jn cs (mkTs n turn 0 n) ∧ cs.length = n ∧ BhS cs l) ∧ (0 ≤ s ∧ s + ((totL cs : Nat) : Int) = totF (l.map (·.steps))) ∧ St w0 S0 [rdH encMake 2 a n c l, shH (l.map mkB), rdH encI 1 a2 n2 c2 pk] qw_ [slH encOP 1 30 al1 n cl1 (ps1.map some), ChH ps1 cs, lineH pl1 ps1 (mkTs n turn 0 n) s, slH encI 1 3 a9 n n (cs.map (·.left))]) (n2 - 0) ?_ ?_
        · refine ⟨_, 0, (0 : Int), mkCs 0 l, upds_self ⟨rfl, rfl, rfl, rfl, rfl, rfl, rfl, trivial⟩, rfl, ⟨Nat.zero_le _, hj0, by omega, mk_bhs l⟩, ⟨by omega, by omega⟩, HL0.pick' [0, 1, 2, 3] rfl rfl⟩
        · rintro lk1 _ wl1 ⟨gl1, i, s, cs, rfl, hlk1, ⟨hr2, hj, hjl, hbs⟩, ⟨hs0, hs1⟩, HL1⟩
          refine seq_ ?_
          refine seq_ ?_
          refine region_ ?_
          refine wl_valE (v := .int .i64 ((i : Nat) : Int)) rfl (rf_move rfl) rfl ?_
          refine wl_valE (v := .slice a2 n2 c2) rfl (rf_move rfl) rfl ?_
          refine wl_valE (v := .int .i64 ((n2 : Nat) : Int)) rfl (rf_len_slice Try.underlying23 rfl rfl) rfl ?_
          refine wl_valE (v := .bool (decide (((i : Nat) : Int) < ((n2 : Nat) : Int)))) rfl (rf_lss rfl rfl rfl rfl) rfl ?_
          refine wl_nil ?_
          refine thn ?_
          refine cond_ (t := decide (((i : Nat) : Int) < ((n2 : Nat) : Int))) rfl rfl (fun c48 => ?_) (fun c48 => ?_)
          · have c48p := of_decide_eq_true c48
            refine skip_ ?_
            refine thn ?_
            refine seq_ ?_
            refine block_ ?_
            refine seq_ ?_
            have hn12 := rd_len (HL1.rdR 2 Le.rfl)
            obtain ⟨xp, hxp⟩ : ∃ x, pk[i]? = some x := ⟨_, List.getElem?_eq_getElem (by omega)⟩
            refine region_ ?_
            refine wl_valE (v := .pointer (some ⟨pl1, 0, none⟩)) rfl (rf_move rfl) rfl ?_
            refine wl_valE (v := .slice a2 n2 c2) rfl (rf_move rfl) rfl ?_
            refine wl_valE (v := .int .i64 ((i : Nat) : Int)) rfl (rf_move rfl) rfl ?_
            refine wl_valE (v := .pointer (some ⟨ab a2, ao a2 + i * 1, none⟩)) rfl (rf_indexAddrH Try.underlying23 ti3 rfl rfl rfl rfl (by omega) (by omega) (HL1.rdR 2 Le.rfl)) rfl ?_
            refine wl_valE (v := .int .i64 xp) rfl (rf_load Try.underlying3 rfl rfl rfl (rd_el (HL1.rdR 2 Le.rfl) hxp 0 _ rfl)) rfl ?_
            refine wl_tr HL1 rfl [2, 1] (take_tr hj.wf ⟨by omega, by omega⟩ xp) rfl .nil (rf_call Try.call14 rfl rfl) rfl ?_
            rintro _ w13 _ ⟨rfl, rfl⟩ H13
            have htt := takeC_tot hj.wf xp
            have hjt := hj.take xp
            refine wl_valE (v := .int .i64 (takeV cs (mkTs n turn 0 n) xp)) rfl (rf_assign rfl) rfl ?_
            refine wl_nil ?_
            refine thn ?_
            refine seq_ ?_
            refine region_ ?_
            refine wl_valE (v := .int .i64 (-1 : Int)) rfl (rf_assign rfl) rfl ?_
            refine wl_nil ?_
            refine thn ?_
            refine seq_ ?_
            refine seq_ ?_
            refine region_ ?_
            refine wl_valE (v := .int .i64 (takeV cs (mkTs n turn 0 n) xp)) rfl (rf_move rfl) rfl ?_
            refine wl_valE (v := .bool (decide ((0 : Int) ≤ takeV cs (mkTs n turn 0 n) xp))) rfl (rf_geq rfl rfl rfl rfl) rfl ?_
            refine wl_nil ?_
            refine thn ?_
            refine cut_ (fun qf_ qw_ => ∃ (g : Nat → Value) (who : Int), qf_ = upds g [(0, .slice a n c), (1, .int .i64 turn), (2, .slice a2 n2 c2), (7, .slice al1 n cl1), (8, .pointer (some ⟨pl1, 0, none⟩)), (9, .slice a9 n n), (11, .int .i64 ((i : Nat) : Int)), (13, .int .i64 who)] ∧ (Who cs (takeC cs (mkTs n turn 0 n) xp) n who) ∧ St w0 S0 [rdH encMake 2 a n c l, shH (l.map mkB), rdH encI 1 a2 n2 c2 pk] qw_ [slH encOP 1 30 al1 n cl1 (ps1.map some), ChH ps1 (takeC cs (mkTs n turn 0 n) xp), lineH pl1 ps1 (mkTs n turn 0 n) (s + ((bn (takeI cs (mkTs n turn 0 n) xp).isSome : Nat) : Int)), slH encI 1 3 a9 n n (cs.map (·.left))]) ?_ ?_
            · refine cond_ (t := decide ((0 : Int) ≤ takeV cs (mkTs n turn 0 n) xp)) rfl rfl (fun c58 => ?_) (fun c58 => ?_)
              · have c58p := of_decide_eq_true c58
                have htl := takeV_lt c58p
                rw [mkTs_len] at htl
                have hw1 := withinF_in (n := turn) (m := ((n : Nat) : Int)) (by omega)
                refine region_ ?_
                refine wl_valE (v := .int .i64 (takeV cs (mkTs n turn 0 n) xp)) rfl (rf_move rfl) rfl ?_
                refine wl_valE (v := .int .i64 turn) rfl (rf_move rfl) rfl ?_
                refine wl_valE (v := .slice al1 n cl1) rfl (rf_move rfl) rfl ?_
                refine wl_valE (v := .int .i64 ((n : Nat) : Int)) rfl (rf_len_slice Try.underlying26 rfl rfl) rfl ?_
                refine wl_tr H13 rfl [] (within_tr turn ((n : Nat) : Int) (by omega)) rfl .nil (rf_call Try.call15 rfl rfl) rfl ?_
                rintro _ w14 _ ⟨rfl, rfl⟩ H14
                refine wl_valE (v := .int .i64 ((takeV cs (mkTs n turn 0 n) xp) + (withinF turn ((n : Nat) : Int)))) rfl (rf_add rfl rfl rfl rfl (IntWalk.i64_in _ (by omega))) rfl ?_
                refine wl_valE (v := .slice al1 n cl1) rfl (rf_move rfl) rfl ?_
                refine wl_valE (v := .int .i64 ((n : Nat) : Int)) rfl (rf_len_slice Try.underlying26 rfl rfl) rfl ?_
                refine wl_tr H14 rfl [] (within_tr ((takeV cs (mkTs n turn 0 n) xp) + (withinF turn ((n : Nat) : Int))) ((n : Nat) : Int) (by omega)) rfl .nil (rf_call Try.call15 rfl rfl) rfl ?_
                rintro _ w15 _ ⟨rfl, rfl⟩ H15
                refine wl_valE (v := .int .i64 (withinF ((takeV cs (mkTs n turn 0 n) xp) + (withinF turn ((n : Nat) : Int))) ((n : Nat) : Int))) rfl (rf_assign rfl) rfl ?_
                refine wl_nil ?_
                refine cxn ⟨_, withinF ((takeV cs (mkTs n turn 0 n) xp) + (withinF turn ((n : Nat) : Int))) ((n : Nat) : Int), upds_self ⟨rfl, rfl, rfl, rfl, rfl, rfl, rfl, rfl, trivial⟩, who_of hj.wf c58p, H15.pick' [0, 1, 2, 3] rfl rfl⟩
              · have c58p := of_decide_eq_false c58
                refine skip_ ?_
                refine cxn ⟨_, (-1 : Int), upds_self ⟨rfl, rfl, rfl, rfl, rfl, rfl, rfl, rfl, trivial⟩, .inl ⟨rfl, by unfold takeC; rw [takeV_neg c58p]⟩, H13.pick' [0, 1, 2, 3] rfl rfl⟩
            · rintro _ wcutc58 ⟨glcutc58, who, rfl, hwho, Hcutc58⟩
              have hwl := who_len hwho
              refine thn ?_
              refine seq_ ?_
              refine seq_ ?_
              refine region_ ?_
              refine wl_valE (v := .int .i64 (0 : Int)) rfl (rf_assign rfl) rfl ?_
              refine wl_nil ?_
              refine thn ?_
              refine block_ ?_
              refine loop_ (fun qk_ qf_ qw_ => ∃ (g : Nat → Value) (k : Nat) (lf : List Int), qf_ = upds g [(0, .slice a n c), (1, .int .i64 turn), (2, .slice a2 n2 c2), (7, .slice al1 n cl1), (8, .pointer (some ⟨pl1, 0, none⟩)), (9, .slice a9 n n), (11, .int .i64 ((i : Nat) : Int)), (13, .int .i64 who), (14, .int .i64 ((k : Nat) : Int))] ∧ qk_ = n - k ∧ (k ≤ n ∧ lf.length = n) ∧ ((∀ j, j < k → lf[j]? = ((takeC cs (mkTs n turn 0 n) xp)[j]?).map (·.left)) ∧ ∀ j, k ≤ j → lf[j]? = (cs[j]?).map (·.left)) ∧ St w0 S0 [rdH encMake 2 a n c l, shH (l.map mkB), rdH encI 1 a2 n2 c2 pk] qw_ [slH encOP 1 30 al1 n cl1 (ps1.map some), ChH ps1 (takeC cs (mkTs n turn 0 n) xp), lineH pl1 ps1 (mkTs n turn 0 n) (s + ((bn (takeI cs (mkTs n turn 0 n) xp).isSome : Nat) : Int)), slH encI 1 3 a9 n n lf]) (n - 0) ?_ ?_
              · refine ⟨_, 0, cs.map (·.left), upds_self ⟨rfl, rfl, rfl, rfl, rfl, rfl, rfl, rfl, rfl, trivial⟩, rfl, ⟨Nat.zero_le _, by simp; omega⟩, ⟨fun j hj => by omega, fun j _ => List.getElem?_map ..⟩, Hcutc58.pick' [0, 1, 2, 3] rfl rfl⟩
              · rintro lk2 _ wl2 ⟨gl2, k, lf, rfl, hlk2, ⟨hr3, hlf3⟩, ⟨hr4, hr5⟩, HL2⟩
                refine seq_ ?_
                refine seq_ ?_
                refine region_ ?_
                refine wl_valE (v := .int .i64 ((k : Nat) : Int)) rfl (rf_move rfl) rfl ?_
                refine wl_valE (v := .slice al1 n cl1) rfl (rf_move rfl) rfl ?_
                refine wl_valE (v := .int .i64 ((n : Nat) : Int)) rfl (rf_len_slice Try.underlying26 rfl rfl) rfl ?_
                refine wl_valE (v := .bool (decide (((k : Nat) : Int) < ((n : Nat) : Int)))) rfl (rf_lss rfl rfl rfl rfl) rfl ?_
                refine wl_nil ?_
                refine thn ?_
                refine cond_ (t := decide (((k : Nat) : Int) < ((n : Nat) : Int))) rfl rfl (fun c71 => ?_) (fun c71 => ?_)
                · have c71p := of_decide_eq_true c71
                  refine skip_ ?_
                  refine thn ?_
                  refine seq_ ?_
                  refine block_ ?_
                  refine seq_ ?_
                  refine region_ ?_
                  refine wl_valE (v := .slice al1 n cl1) rfl (rf_move rfl) rfl ?_
                  refine wl_valE (v := .int .i64 ((k : Nat) : Int)) rfl (rf_move rfl) rfl ?_
                  refine wl_valE (v := .pointer (some ⟨ab al1, ao al1 + k * 1, none⟩)) rfl (rf_indexAddrH Try.underlying26 ti30 rfl rfl rfl rfl (by omega) (by omega) (HL2.rdO 0 slH_rd)) rfl ?_
                  have hn17 := slH_len HL2 0 rfl
                  obtain ⟨x16, hx16⟩ : ∃ x, (ps1.map some)[k]? = some x := ⟨_, List.getElem?_eq_getElem (by omega)⟩
                  refine wl_valE (v := .pointer (x16.map fun b => ⟨b, 0, none⟩)) rfl (rf_load Try.underlying30 rfl rfl rfl (rd_el (HL2.rdO 0 slH_rd) hx16 0 _ rfl)) rfl ?_
                  obtain ⟨hpy, hip⟩ := map_some_at hx16
                  subst hpy
                  obtain ⟨d, hd⟩ : ∃ d, (takeC cs (mkTs n turn 0 n) xp)[k]? = some d := ⟨_, List.getElem?_eq_getElem (by omega)⟩
                  obtain ⟨e, he, hel, hd0, hd1, he0, he1⟩ := who_left hwho hd hj.wf.hok
                  have hlk : lf[k]? = some e.left := by rw [hr5 k (Nat.le_refl _), he]; rfl
                  refine wl_tr HL2 rfl [] (left_tr k d hd) rfl (.own 1 rfl Le.rfl .nil) (rf_call Try.call13 rfl rfl) rfl ?_
                  rintro _ w18 _ ⟨rfl, rfl⟩ H18
                  refine wl_valE (v := .int .i64 d.left) rfl (rf_assign rfl) rfl ?_
                  refine wl_nil ?_
                  refine thn ?_
                  refine seq_ ?_
                  refine seq_ ?_
                  refine region_ ?_
                  refine wl_valE (v := .int .i64 ((k : Nat) : Int)) rfl (rf_move rfl) rfl ?_
                  refine wl_valE (v := .int .i64 who) rfl (rf_move rfl) rfl ?_
                  refine wl_valE (v := .bool (decide (((k : Nat) : Int) = who))) rfl (rf_eql rfl rfl rfl rfl) rfl ?_
                  refine wl_nil ?_
                  refine thn ?_
                  refine cond_ (t := decide (((k : Nat) : Int) = who)) rfl rfl (fun c81 => ?_) (fun c81 => ?_)
                  · have c81p := of_decide_eq_true c81
                    have hzl : e.left - (1 : Int) = d.left := by rw [if_pos c81p] at hel; exact hel.symm
                    refine region_ ?_
                    refine wl_valE (v := .slice a9 n n) rfl (rf_move rfl) rfl ?_
                    refine wl_valE (v := .int .i64 ((k : Nat) : Int)) rfl (rf_move rfl) rfl ?_
                    refine wl_valE (v := .pointer (some ⟨ab a9, ao a9 + k * 1, none⟩)) rfl (rf_indexAddrH Try.underlying23 ti3 rfl rfl rfl rfl (by omega) (by omega) (H18.rdO 3 slH_rd)) rfl ?_
                    refine wl_valE (v := .int .i64 e.left) rfl (rf_load Try.underlying3 rfl rfl rfl (rd_el (H18.rdO 3 slH_rd) hlk 0 _ rfl)) rfl ?_
                    refine wl_valE (v := .int .i64 (e.left - (1 : Int))) rfl (rf_sub rfl rfl rfl rfl (IntWalk.i64_in _ (by omega))) rfl ?_
                    refine wl_valE (v := .pointer (some ⟨ab a9, ao a9 + k * 1, none⟩)) rfl (rf_indexAddrH Try.underlying23 ti3 rfl rfl rfl rfl (by omega) (by omega) (H18.rdO 3 slH_rd)) rfl ?_
                    refine wl_storeElH H18 3 (enc := encI) (i := k) (j := 0) (q := (e.left - (1 : Int))) (u := .int .i64 (e.left - (1 : Int))) (cs := [.int .i64 (e.left - (1 : Int))]) rfl rfl encI_len ti3 rfl rfl rfl rfl rfl rfl oneAll hlk (leb rfl) rfl ?_
                    intro w19 H19
                    have hx19 : (lf.set k (e.left - (1 : Int)))[k]? = some (e.left - (1 : Int)) := List.getElem?_set_self (List.getElem?_eq_some_iff.1 hlk).1
                    refine wl_nil ?_
                    refine thn ?_
                    refine seq_ ?_
                    refine region_ ?_
                    refine wl_valE (v := .int .i64 d.left) rfl (rf_move rfl) rfl ?_
                    refine wl_valE (v := .slice a9 n n) rfl (rf_move rfl) rfl ?_
                    refine wl_valE (v := .int .i64 ((k : Nat) : Int)) rfl (rf_move rfl) rfl ?_
                    refine wl_valE (v := .pointer (some ⟨ab a9, ao a9 + k * 1, none⟩)) rfl (rf_indexAddrH Try.underlying23 ti3 rfl rfl rfl rfl (by omega) (by omega) (H19.rdO 3 slH_rd)) rfl ?_
                    refine wl_valE (v := .int .i64 (e.left - (1 : Int))) rfl (rf_load Try.underlying3 rfl rfl rfl (rd_el (H19.rdO 3 slH_rd) hx19 0 _ rfl)) rfl ?_
                    refine wl_valE (v := .bool (decide (d.left ≠ (e.left - (1 : Int))))) rfl (rf_neq rfl rfl rfl rfl) rfl ?_
                    refine wl_valE (v := .bool (decide (d.left ≠ (e.left - (1 : Int))))) rfl (rf_move rfl) rfl ?_
                    refine wl_guardT rfl rfl rfl (by simp; exact hzl.symm) ?_
                    refine wl_valE (v := .int .i64 d.left) rfl (rf_move rfl) rfl ?_
                    refine wl_guardT rfl rfl rfl (by simp; exact hzl.symm) ?_
                    refine wl_valE (v := .bool (decide (d.left < (0 : Int)))) rfl (rf_lss rfl rfl rfl rfl) rfl ?_
                    refine wl_valE (v := .bool (decide (d.left < (0 : Int)))) rfl (rf_pickF rfl rfl rfl (by simp; exact hzl.symm)) rfl ?_
                    refine wl_nil ?_
                    refine thn ?_
                    refine condF' rfl rfl (t := decide (d.left < (0 : Int))) ((by simp only [decide_eq_false_iff_not]; omega)) ?_
                    refine skip_ ?_
                    refine bln ?_
                    refine thn ?_
                    refine region_ ?_
                    refine wl_valE (v := .int .i64 ((k : Nat) : Int)) rfl (rf_move rfl) rfl ?_
                    refine wl_valE (v := .int .i64 ((k + 1 : Nat) : Int)) rfl (rf_add rfl rfl rfl rfl (IntWalk.i64_in _ (by omega))) rfl ?_
                    refine wl_valE (v := .int .i64 ((k + 1 : Nat) : Int)) rfl (rf_assign rfl) rfl ?_
                    refine wl_nil ?_
                    refine thn ?_
                    refine ⟨n - (k + 1), _, rfl, (by omega), _, k + 1, (lf.set k (e.left - (1 : Int))), upds_self ⟨rfl, rfl, rfl, rfl, rfl, rfl, rfl, rfl, rfl, trivial⟩, rfl, ⟨by omega, by simp; exact hlf3⟩, ⟨by rw [hzl]; exact set_step (by omega) hd hr4, fun j hj => by rw [List.getElem?_set_ne (by omega)]; exact hr5 j (by omega)⟩, H19.pick' [0, 1, 2, 3] rfl rfl⟩
                  · have c81p := of_decide_eq_false c81
                    have hzl : e.left = d.left := by rw [if_neg c81p] at hel; omega
                    refine skip_ ?_
                    refine thn ?_
                    refine seq_ ?_
                    refine region_ ?_
                    refine wl_valE (v := .int .i64 d.left) rfl (rf_move rfl) rfl ?_
                    refine wl_valE (v := .slice a9 n n) rfl (rf_move rfl) rfl ?_
                    refine wl_valE (v := .int .i64 ((k : Nat) : Int)) rfl (rf_move rfl) rfl ?_
                    refine wl_valE (v := .pointer (some ⟨ab a9, ao a9 + k * 1, none⟩)) rfl (rf_indexAddrH Try.underlying23 ti3 rfl rfl rfl rfl (by omega) (by omega) (H18.rdO 3 slH_rd)) rfl ?_
                    refine wl_valE (v := .int .i64 e.left) rfl (rf_load Try.underlying3 rfl rfl rfl (rd_el (H18.rdO 3 slH_rd) hlk 0 _ rfl)) rfl ?_
                    refine wl_valE (v := .bool (decide (d.left ≠ e.left))) rfl (rf_neq rfl rfl rfl rfl) rfl ?_
                    refine wl_valE (v := .bool (decide (d.left ≠ e.left))) rfl (rf_move rfl) rfl ?_
                    refine wl_guardT rfl rfl rfl (by simp; exact hzl.symm) ?_
                    refine wl_valE (v := .int .i64 d.left) rfl (rf_move rfl) rfl ?_
                    refine wl_guardT rfl rfl rfl (by simp; exact hzl.symm) ?_
                    refine wl_valE (v := .bool (decide (d.left < (0 : Int)))) rfl (rf_lss rfl rfl rfl rfl) rfl ?_
                    refine wl_valE (v := .bool (decide (d.left < (0 : Int)))) rfl (rf_pickF rfl rfl rfl (by simp; exact hzl.symm)) rfl ?_
                    refine wl_nil ?_
                    refine thn ?_
                    refine condF' rfl rfl (t := decide (d.left < (0 : Int))) ((by simp only [decide_eq_false_iff_not]; omega)) ?_
                    refine skip_ ?_
                    refine bln ?_
                    refine thn ?_
                    refine region_ ?_
                    refine wl_valE (v := .int .i64 ((k : Nat) : Int)) rfl (rf_move rfl) rfl ?_
                    refine wl_valE (v := .int .i64 ((k + 1 : Nat) : Int)) rfl (rf_add rfl rfl rfl rfl (IntWalk.i64_in _ (by omega))) rfl ?_
                    refine wl_valE (v := .int .i64 ((k + 1 : Nat) : Int)) rfl (rf_assign rfl) rfl ?_
                    refine wl_nil ?_
                    refine thn ?_
                    refine ⟨n - (k + 1), _, rfl, (by omega), _, k + 1, lf, upds_self ⟨rfl, rfl, rfl, rfl, rfl, rfl, rfl, rfl, rfl, trivial⟩, rfl, ⟨by omega, hlf3⟩, ⟨lf_next hr4 hr5 he hd hzl, fun j hj => hr5 j (by omega)⟩, H18.pick' [0, 1, 2, 3] rfl rfl⟩
                · have c71p := of_decide_eq_false c71
                  refine exit_ ?_
                  refine thx (thx (blx ?_))
                  refine thn ?_
                  refine seq_ ?_
                  have hlf4 := map_of (cs := takeC cs (mkTs n turn 0 n) xp) (lf := lf) (by omega) (fun j hj => hr4 j (by omega))
                  rw [hlf4] at HL2
                  have hwn : who < ((n : Nat) : Int) := by rcases hwho with ⟨h, _⟩ | ⟨j, h, h2, _⟩ <;> omega
                  refine region_ ?_
                  refine wl_valE (v := .int .i64 (0 : Int)) rfl (rf_assign rfl) rfl ?_
                  refine wl_nil ?_
                  refine thn ?_
                  refine block_ ?_
                  refine loop_ (fun qk_ qf_ qw_ => ∃ (g : Nat → Value) (k : Nat), qf_ = upds g [(0, .slice a n c), (1, .int .i64 turn), (2, .slice a2 n2 c2), (7, .slice al1 n cl1), (8, .pointer (some ⟨pl1, 0, none⟩)), (9, .slice a9 n n), (11, .int .i64 ((i : Nat) : Int)), (13, .int .i64 who), (16, .int .i64 ((k : Nat) : Int))] ∧ qk_ = ((l[who.toNat]?).map (·.behind.n)).getD 0 - k ∧ (k ≤ 4398046511104) ∧ St w0 S0 [rdH encMake 2 a n c l, shH (l.map mkB), rdH encI 1 a2 n2 c2 pk] qw_ [slH encOP 1 30 al1 n cl1 (ps1.map some), ChH ps1 (takeC cs (mkTs n turn 0 n) xp), lineH pl1 ps1 (mkTs n turn 0 n) (s + ((bn (takeI cs (mkTs n turn 0 n) xp).isSome : Nat) : Int)), slH encI 1 3 a9 n n ((takeC cs (mkTs n turn 0 n) xp).map (·.left))]) (((l[who.toNat]?).map (·.behind.n)).getD 0 - 0) ?_ ?_
                  · refine ⟨_, 0, upds_self ⟨rfl, rfl, rfl, rfl, rfl, rfl, rfl, rfl, rfl, trivial⟩, rfl, Nat.zero_le _, HL2.pick' [0, 1, 2, 3] rfl rfl⟩
                  · rintro lk3 _ wl3 ⟨gl3, k, rfl, hlk3, hk16, HL3⟩
                    refine seq_ ?_
                    refine seq_ ?_
                    refine region_ ?_
                    refine wl_valE (v := .int .i64 who) rfl (rf_move rfl) rfl ?_
                    refine wl_valE (v := .bool (decide ((0 : Int) < who))) rfl (rf_gtr rfl rfl rfl rfl) rfl ?_
                    refine wl_valE (v := .bool (decide ((0 : Int) < who))) rfl (rf_move rfl) rfl ?_
                    refine wl_split (decide ((0 : Int) < who)) (fun u27_2 => ?_) (fun u27_2 => ?_)
                    · have u27_2p := of_decide_eq_true u27_2
                      have hn20 := rd_len (HL3.rdR 0 Le.rfl)
                      obtain ⟨xw, hxw⟩ : ∃ x, l[who.toNat]? = some x := ⟨_, List.getElem?_eq_getElem (by omega)⟩
                      have hxe : ((l[who.toNat]?).map (·.behind.n)).getD 0 = xw.behind.n := by rw [hxw]; rfl
                      have hxwb := hb xw (List.mem_of_getElem? hxw)
                      refine wl_guardT rfl rfl rfl u27_2 ?_
                      refine wl_valE (v := .int .i64 ((k : Nat) : Int)) rfl (rf_move rfl) rfl ?_
                      refine wl_guardT rfl rfl rfl u27_2 ?_
                      refine wl_valE (v := .slice a n c) rfl (rf_move rfl) rfl ?_
                      refine wl_guardT rfl rfl rfl u27_2 ?_
                      refine wl_valE (v := .int .i64 who) rfl (rf_move rfl) rfl ?_
                      refine wl_guardT rfl rfl rfl u27_2 ?_
                      refine wl_valE (v := .pointer (some ⟨ab a, ao a + who.toNat * 2, none⟩)) rfl (rf_indexAddrH Try.underlying22 ti35 rfl rfl rfl rfl (by omega) (by omega) (HL3.rdR 0 Le.rfl)) rfl ?_
                      refine wl_guardT rfl rfl rfl u27_2 ?_
                      refine wl_valE (v := .pointer (some ⟨ab a, ao a + who.toNat * 2 + 1, none⟩)) rfl (rf_fieldAddr Try.underlying35 rfl ti23 rfl rfl) rfl ?_
                      refine wl_guardT rfl rfl rfl u27_2 ?_
                      refine wl_valE (v := .slice xw.behind.a xw.behind.n xw.behind.c) rfl (rf_load Try.underlying23 rfl rfl rfl (rd_el (HL3.rdR 0 Le.rfl) hxw 1 _ rfl)) rfl ?_
                      refine wl_guardT rfl rfl rfl u27_2 ?_
                      refine wl_valE (v := .int .i64 ((xw.behind.n : Nat) : Int)) rfl (rf_len_slice Try.underlying23 rfl rfl) rfl ?_
                      refine wl_guardT rfl rfl rfl u27_2 ?_
                      refine wl_valE (v := .bool (decide (((k : Nat) : Int) < ((xw.behind.n : Nat) : Int)))) rfl (rf_lss rfl rfl rfl rfl) rfl ?_
                      refine wl_valE (v := .bool (decide (((k : Nat) : Int) < ((xw.behind.n : Nat) : Int)))) rfl (rf_pickT rfl rfl rfl u27_2) rfl ?_
                      refine wl_nil ?_
                      refine thn ?_
                      refine cond_ (t := decide (((k : Nat) : Int) < ((xw.behind.n : Nat) : Int))) rfl rfl (fun c109 => ?_) (fun c109 => ?_)
                      · have c109p := of_decide_eq_true c109
                        refine skip_ ?_
                        refine thn ?_
                        refine seq_ ?_
                        refine block_ ?_
                        refine seq_ ?_
                        refine region_ ?_
                        refine wl_valE (v := .slice a9 n n) rfl (rf_move rfl) rfl ?_
                        refine wl_valE (v := .slice a n c) rfl (rf_move rfl) rfl ?_
                        refine wl_valE (v := .int .i64 who) rfl (rf_move rfl) rfl ?_
                        refine wl_valE (v := .pointer (some ⟨ab a, ao a + who.toNat * 2, none⟩)) rfl (rf_indexAddrH Try.underlying22 ti35 rfl rfl rfl rfl (by omega) (by omega) (HL3.rdR 0 Le.rfl)) rfl ?_
                        refine wl_valE (v := .pointer (some ⟨ab a, ao a + who.toNat * 2 + 1, none⟩)) rfl (rf_fieldAddr Try.underlying35 rfl ti23 rfl rfl) rfl ?_
                        refine wl_valE (v := .slice xw.behind.a xw.behind.n xw.behind.c) rfl (rf_load Try.underlying23 rfl rfl rfl (rd_el (HL3.rdR 0 Le.rfl) hxw 1 _ rfl)) rfl ?_
                        have H21 := HL3.shR 1 who.toNat rfl (getH_map mkB hxw)
                        refine wl_valE (v := .int .i64 ((k : Nat) : Int)) rfl (rf_move rfl) rfl ?_
                        refine wl_valE (v := .pointer (some ⟨ab xw.behind.a, ao xw.behind.a + k * 1, none⟩)) rfl (rf_indexAddrH Try.underlying23 ti3 rfl rfl rfl rfl (by omega) (by omega) (H21.rdR 3 Le.rfl)) rfl ?_
                        have hn23 := rd_len (H21.rdR 3 Le.rfl)
                        obtain ⟨x22, hx22⟩ : ∃ x, xw.bl[k]? = some x := ⟨_, List.getElem?_eq_getElem (by omega)⟩
                        refine wl_valE (v := .int .i64 x22) rfl (rf_load Try.underlying3 rfl rfl rfl (rd_el (H21.rdR 3 Le.rfl) hx22 0 _ rfl)) rfl ?_
                        have hwz := who_ends hwho u27_2p hbs hj.wf.hok hxw hx22 hjl
                        have hwi := withinF_in (n := x22) (m := who) (by omega)
                        refine wl_valE (v := .int .i64 who) rfl (rf_move rfl) rfl ?_
                        refine wl_tr H21 rfl [] (within_tr x22 who (by omega)) rfl .nil (rf_call Try.call15 rfl rfl) rfl ?_
                        rintro _ w24 _ ⟨rfl, rfl⟩ H24
                        refine wl_valE (v := .pointer (some ⟨ab a9, ao a9 + ((withinF x22 who).toNat) * 1, none⟩)) rfl (rf_indexAddrH Try.underlying23 ti3 rfl rfl rfl rfl (by omega) (by omega) (H24.rdO 3 slH_rd)) rfl ?_
                        refine wl_valE (v := .int .i64 (0 : Int)) rfl (rf_load Try.underlying3 rfl rfl rfl (rd_el (H24.rdO 3 slH_rd) hwz 0 _ rfl)) rfl ?_
                        refine wl_valE (v := .bool false) rfl (rf_neq rfl rfl rfl rfl) (congrArg Value.bool (by decide)) ?_
                        refine wl_nil ?_
                        refine thn ?_
                        refine condF rfl rfl ?_
                        refine skip_ ?_
                        refine bln ?_
                        refine thn ?_
                        refine region_ ?_
                        refine wl_valE (v := .int .i64 ((k : Nat) : Int)) rfl (rf_move rfl) rfl ?_
                        refine wl_valE (v := .int .i64 ((k + 1 : Nat) : Int)) rfl (rf_add rfl rfl rfl rfl (IntWalk.i64_in _ (by omega))) rfl ?_
                        refine wl_valE (v := .int .i64 ((k + 1 : Nat) : Int)) rfl (rf_assign rfl) rfl ?_
                        refine wl_nil ?_
                        refine thn ?_
                        refine ⟨((l[who.toNat]?).map (·.behind.n)).getD 0 - (k + 1), _, rfl, (by omega), _, k + 1, upds_self ⟨rfl, rfl, rfl, rfl, rfl, rfl, rfl, rfl, rfl, trivial⟩, rfl, by omega, (H24.weakR 3 rfl).pick' [0, 1, 2, 3] rfl rfl⟩
                      · have c109p := of_decide_eq_false c109
                        refine exit_ ?_
                        refine thx (thx (blx ?_))
                        refine bln ?_
                        refine thn ?_
                        refine region_ ?_
                        refine wl_valE (v := .int .i64 ((i : Nat) : Int)) rfl (rf_move rfl) rfl ?_
                        refine wl_valE (v := .int .i64 ((i + 1 : Nat) : Int)) rfl (rf_add rfl rfl rfl rfl (IntWalk.i64_in _ (by omega))) rfl ?_
                        refine wl_valE (v := .int .i64 ((i + 1 : Nat) : Int)) rfl (rf_assign rfl) rfl ?_
                        refine wl_nil ?_
                        refine thn ?_
                        refine ⟨n2 - (i + 1), _, rfl, (by omega), _, i + 1, (s + ((bn (takeI cs (mkTs n turn 0 n) xp).isSome : Nat) : Int)), takeC cs (mkTs n turn 0 n) xp, upds_self ⟨rfl, rfl, rfl, rfl, rfl, rfl, rfl, trivial⟩, rfl, ⟨by omega, hj.take _, by rw [takeC_len]; exact hjl, hbs.take _⟩, ⟨by omega, by omega⟩, HL3.pick' [0, 1, 2, 3] rfl rfl⟩
                    · have u27_2p := of_decide_eq_false u27_2
                      refine wl_guardF rfl rfl rfl u27_2 ?_
                      refine wl_guardF rfl rfl rfl u27_2 ?_
                      refine wl_guardF rfl rfl rfl u27_2 ?_
                      refine wl_guardF rfl rfl rfl u27_2 ?_
                      refine wl_guardF rfl rfl rfl u27_2 ?_
                      refine wl_guardF rfl rfl rfl u27_2 ?_
                      refine wl_guardF rfl rfl rfl u27_2 ?_
                      refine wl_guardF rfl rfl rfl u27_2 ?_
                      refine wl_valE (v := .bool false) rfl (rf_pickF rfl rfl rfl u27_2) rfl ?_
                      refine wl_nil ?_
                      refine thn ?_
                      refine condF rfl rfl ?_
                      refine exit_ ?_
                      refine thx (thx (blx ?_))
                      refine bln ?_
                      refine thn ?_
                      refine region_ ?_
                      refine wl_valE (v := .int .i64 ((i : Nat) : Int)) rfl (rf_move rfl) rfl ?_
                      refine wl_valE (v := .int .i64 ((i + 1 : Nat) : Int)) rfl (rf_add rfl rfl rfl rfl (IntWalk.i64_in _ (by omega))) rfl ?_
                      refine wl_valE (v := .int .i64 ((i + 1 : Nat) : Int)) rfl (rf_assign rfl) rfl ?_
                      refine wl_nil ?_
                      refine thn ?_
                      refine ⟨n2 - (i + 1), _, rfl, (by omega), _, i + 1, (s + ((bn (takeI cs (mkTs n turn 0 n) xp).isSome : Nat) : Int)), takeC cs (mkTs n turn 0 n) xp, upds_self ⟨rfl, rfl, rfl, rfl, rfl, rfl, rfl, trivial⟩, rfl, ⟨by omega, hj.take _, by rw [takeC_len]; exact hjl, hbs.take _⟩, ⟨by omega, by omega⟩, HL3.pick' [0, 1, 2, 3] rfl rfl⟩
          · have c48p := of_decide_eq_false c48
            refine exit_ ?_
            refine thx (thx (blx ?_))
            refine thn ?_
            refine seq_ ?_
            refine region_ ?_
            refine wl_valE (v := .bool true) rfl (rf_assign rfl) rfl ?_
            refine wl_nil ?_
            refine thn ?_
            refine ret_ ?_
            refine fin1 (v := .bool true) Try.results3 rfl rfl ?_
            exact ⟨_, rfl, HL1.pick' [] rfl rfl⟩
end Go.Proofs.Ytiidihgimcebgaa.W
