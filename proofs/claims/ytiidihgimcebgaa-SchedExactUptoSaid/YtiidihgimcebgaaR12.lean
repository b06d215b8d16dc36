import Derived.Test.YtiidihgimcebgaaR11
import Derived.KernelRfl
namespace Go.Proofs.Ytiidihgimcebgaa.W
open Go Go.Wk
set_option linter.unusedVariables false
set_option linter.unusedSimpArgs false

theorem WfS.opL {s : PS} (h : WfS s) (o : OpR) (hb : ∀ l ∈ s.lists, l.length ≤ 4398046511104) : ∀ l ∈ (opS s o).lists, l.length ≤ 4398046511104 := by
  have h1 : (rdyL s.cs 0 s.ts).length ≤ 4398046511104 := Nat.le_trans rdyL_len h.hwf.htl
  unfold opS
  split
  · intro l hl
    rcases List.mem_append.1 hl with hl | hl
    · exact hb l hl
    · rw [List.mem_singleton.1 hl]; exact h1
  · split
    · exact hb
    · split
      · exact hb
      · split
        · exact hb
        · split
          · exact hb
          · split
            · split
              · exact hb
              · exact hb
            · exact hb
theorem schedExact_tr (a : Option Addr) (n c : Nat) (l : List MakeR) (a2 : Option Addr) (n2 c2 : Nat) (tk : List Int) (a3 : Option Addr) (n3 c3 : Nat) (sc : List OpR) (hn : n ≤ 1048576) (hn2 : n2 ≤ 1048576) (hn3 : n3 ≤ 1048576) (hb : ∀ x ∈ l, x.behind.n ≤ 4398046511104) (hbl : ∀ x ∈ l, x.bl.length ≤ 4398046511104) (hp : ∀ x ∈ sc, x.picks.n ≤ 1048576) : Tr Try.prog 8 [.slice a n c, .slice a2 n2 c2, .slice a3 n3 c3] [rdH encMake 2 a n c l, shH (l.map mkB), rdH encI 1 a2 n2 c2 tk, rdH encOp 3 a3 n3 c3 sc, shH (sc.map mkP)] [] (fun v m => v = .bool true) := by
  intro w0 S0 H0
  have hl1 := (rd_len (H0.rdR 0 Le.rfl)).1
  have hl2 := (rd_len (H0.rdR 2 Le.rfl)).1
  have hl3 := (rd_len (H0.rdR 3 Le.rfl)).1
  have hw0 : WfS ⟨mdCs 0 l, mdTs n tk, 0, []⟩ := md_wf hl1 hbl (by omega) (by omega)
  refine enterR Try.func8 rfl Try.ntmps8 rfl ?_
  intro g0
  refine seq_ ?_
  refine region_ ?_
  refine wl_valE (v := .bool false) rfl (rf_assign rfl) rfl ?_
  refine wl_nil ?_
  refine thn ?_
  refine seq_ ?_
  refine seq_ ?_
  refine region_ ?_
  refine wl_valE (v := .slice a n c) rfl (rf_move rfl) rfl ?_
  refine wl_valE (v := .slice a3 n3 c3) rfl (rf_move rfl) rfl ?_
  refine wl_tr H0 rfl [] (parts_tr a n c l a3 n3 c3 sc (fun x hx => Nat.le_trans (hb x hx) (by decide)) (fun x hx => Nat.le_trans (hp x hx) (by decide)) (by omega) (by omega)) rfl (.ro 0 Le.rfl (.ro 3 Le.rfl .nil)) (rf_call Try.call10 rfl rfl) rfl ?_
  rintro _ w1 _ ⟨rfl, rfl⟩ H1
  refine wl_valE (v := .bool (decide (pL (pL 100000 (l.map (·.behind.n))) (sc.map (·.picks.n)) < (0 : Int)))) rfl (rf_lss rfl rfl rfl rfl) rfl ?_
  refine wl_nil ?_
  refine thn ?_
  refine cond_ (t := decide (pL (pL 100000 (l.map (·.behind.n))) (sc.map (·.picks.n)) < (0 : Int))) rfl rfl (fun c13 => ?_) (fun c13 => ?_)
  · have c13p := of_decide_eq_true c13
    refine seq_ ?_
    refine region_ ?_
    refine wl_valE (v := .bool true) rfl (rf_assign rfl) rfl ?_
    refine wl_nil ?_
    refine thn ?_
    refine ret_ ?_
    refine thr ?_
    refine fin1 (v := .bool true) Try.results8 rfl rfl ?_
    exact ⟨_, rfl, H1.pick' [] rfl rfl⟩
  · have c13p := of_decide_eq_false c13
    refine skip_ ?_
    refine thn ?_
    refine seq_ ?_
    refine region_ ?_
    refine wl_valE (v := .slice a n c) rfl (rf_move rfl) rfl ?_
    refine wl_valE (v := .slice a2 n2 c2) rfl (rf_move rfl) rfl ?_
    refine wl_tr H1 rfl [] (made_tr a n c l a2 n2 c2 tk (by omega) (by omega) hb) rfl (.ro 0 Le.rfl (.ro 1 Le.rfl (.ro 2 Le.rfl .nil))) (rf_call Try.call22 rfl rfl) rfl ?_
    rintro _ w2 _ ⟨bp, rfl, rfl⟩ H2
    refine wl_valE (v := .pointer (some ⟨bp, 0, none⟩)) rfl (rf_assign rfl) rfl ?_
    refine wl_nil ?_
    refine thn ?_
    refine seq_ ?_
    refine region_ ?_
    refine wl_valE (v := .pointer (some ⟨bp, 0, none⟩)) rfl (rf_move rfl) rfl ?_
    refine wl_tr H2 rfl [] (there_tr (s := ⟨mdCs 0 l, mdTs n tk, 0, []⟩) hw0.len) rfl (.own 0 rfl Le.rfl .nil) (rf_call Try.call23 rfl rfl) rfl ?_
    rintro _ w3 _ ⟨rfl, rfl⟩ H3
    refine wl_valE (v := .bool true) rfl (rf_assign rfl) rfl ?_
    refine wl_nil ?_
    refine thn ?_
    refine seq_ ?_
    refine seq_ ?_
    refine region_ ?_
    refine wl_valE (v := .bool true) rfl (rf_move rfl) rfl ?_
    refine wl_valE (v := .bool false) rfl (rf_not rfl rfl) rfl ?_
    refine wl_nil ?_
    refine thn ?_
    refine condF rfl rfl ?_
    refine skip_ ?_
    refine thn ?_
    refine seq_ ?_
    refine seq_ ?_
    refine region_ ?_
    refine wl_valE (v := .int .i64 (0 : Int)) rfl (rf_assign rfl) rfl ?_
    refine wl_nil ?_
    refine thn ?_
    refine block_ ?_
    refine loop_ (fun qk_ qf_ qw_ => ∃ (g : Nat → Value) (i : Nat) (s : PS), qf_ = upds g [(2, .slice a3 n3 c3), (7, .pointer (some ⟨bp, 0, none⟩)), (9, .int .i64 ((i : Nat) : Int))] ∧ qk_ = n3 - i ∧ (i ≤ n3) ∧ (WfS s ∧ s.lists.length ≤ i ∧ (∀ l ∈ s.lists, l.length ≤ 4398046511104)) ∧ St w0 S0 [rdH encMake 2 a n c l, shH (l.map mkB), rdH encI 1 a2 n2 c2 tk, rdH encOp 3 a3 n3 c3 sc, shH (sc.map mkP)] qw_ [pairH bp s]) (n3 - 0) ?_ ?_
    · refine ⟨_, 0, ⟨mdCs 0 l, mdTs n tk, 0, []⟩, upds_self ⟨rfl, rfl, rfl, trivial⟩, rfl, Nat.zero_le _, ⟨hw0, Nat.le_refl _, fun l hl => by simp at hl⟩, H3.pick' [0] rfl rfl⟩
    · rintro lk0 _ wl0 ⟨gl0, i, s, rfl, hlk0, hr0, ⟨hws, hsl, hsb⟩, HL0⟩
      refine seq_ ?_
      refine seq_ ?_
      refine region_ ?_
      refine wl_valE (v := .int .i64 ((i : Nat) : Int)) rfl (rf_move rfl) rfl ?_
      refine wl_valE (v := .slice a3 n3 c3) rfl (rf_move rfl) rfl ?_
      refine wl_valE (v := .int .i64 ((n3 : Nat) : Int)) rfl (rf_len_slice Try.underlying40 rfl rfl) rfl ?_
      refine wl_valE (v := .bool (decide (((i : Nat) : Int) < ((n3 : Nat) : Int)))) rfl (rf_lss rfl rfl rfl rfl) rfl ?_
      refine wl_nil ?_
      refine thn ?_
      refine cond_ (t := decide (((i : Nat) : Int) < ((n3 : Nat) : Int))) rfl rfl (fun c24 => ?_) (fun c24 => ?_)
      · have c24p := of_decide_eq_true c24
        refine skip_ ?_
        refine thn ?_
        refine seq_ ?_
        refine block_ ?_
        refine seq_ ?_
        have hn4 := rd_len (HL0.rdR 3 Le.rfl)
        obtain ⟨xo, hxo⟩ : ∃ q_, sc[i]? = some q_ := ⟨_, List.getElem?_eq_getElem (by omega)⟩
        have H5 := HL0.shR 4 i rfl (getH_map mkP hxo)
        have hpo := hp xo (List.mem_of_getElem? hxo)
        refine region_ ?_
        refine wl_valE (v := .pointer (some ⟨bp, 0, none⟩)) rfl (rf_move rfl) rfl ?_
        refine wl_valE (v := .slice a3 n3 c3) rfl (rf_move rfl) rfl ?_
        refine wl_valE (v := .int .i64 ((i : Nat) : Int)) rfl (rf_move rfl) rfl ?_
        refine wl_valE (v := .pointer (some ⟨ab a3, ao a3 + i * 3, none⟩)) rfl (rf_indexAddrH Try.underlying40 ti47 rfl rfl rfl rfl (by omega) (by omega) (H5.rdR 3 Le.rfl)) rfl ?_
        refine wl_valE (v := .agg #[.int .i64 xo.kind, .int .i64 xo.n, .slice xo.picks.a xo.picks.n xo.picks.c]) rfl (rf_loadAgg (cs := [.int .i64 xo.kind, .int .i64 xo.n, .slice xo.picks.a xo.picks.n xo.picks.c]) Try.underlying47 rfl ti47 rfl rfl (el_sub' (rd_el (H5.rdR 3 Le.rfl) hxo) 0 3 rfl) rfl) rfl ?_
        refine wl_tr H5 rfl [0] (pstep_tr (s := s) hws xo hpo) rfl (.ro 5 Le.rfl .nil) (rf_call Try.call24 rfl rfl) rfl ?_
        rintro _ w6 _ ⟨rfl, rfl⟩ H6
        refine wl_valE (v := .bool true) rfl (rf_assign rfl) rfl ?_
        refine wl_nil ?_
        refine thn ?_
        refine seq_ ?_
        refine region_ ?_
        refine wl_valE (v := .bool true) rfl (rf_move rfl) rfl ?_
        refine wl_valE (v := .bool false) rfl (rf_not rfl rfl) rfl ?_
        refine wl_nil ?_
        refine thn ?_
        refine condF rfl rfl ?_
        refine skip_ ?_
        refine bln ?_
        refine thn ?_
        refine region_ ?_
        refine wl_valE (v := .int .i64 ((i : Nat) : Int)) rfl (rf_move rfl) rfl ?_
        refine wl_valE (v := .int .i64 ((i + 1 : Nat) : Int)) rfl (rf_add rfl rfl rfl rfl (IntWalk.i64_in _ (by omega))) rfl ?_
        refine wl_valE (v := .int .i64 ((i + 1 : Nat) : Int)) rfl (rf_assign rfl) rfl ?_
        refine wl_nil ?_
        refine thn ?_
        refine ⟨n3 - (i + 1), _, rfl, (by omega), _, i + 1, (opS s xo), upds_self ⟨rfl, rfl, rfl, trivial⟩, rfl, by omega, ⟨(hws.op xo (by omega)).1, Nat.le_trans (hws.op xo (by omega)).2 (by omega), hws.opL xo hsb⟩, (H6.weakR 5 rfl).pick' [0] rfl rfl⟩
      · have c24p := of_decide_eq_false c24
        refine exit_ ?_
        refine thx (thx (blx ?_))
        refine thn ?_
        refine seq_ ?_
        refine region_ ?_
        refine wl_valE (v := .pointer (some ⟨bp, 0, none⟩)) rfl (rf_move rfl) rfl ?_
        refine wl_tr HL0 rfl [0] (kept_tr (s := s) hws.lists_ hsb) rfl .nil (rf_call Try.call25 rfl rfl) rfl ?_
        rintro _ w7 _ ⟨rfl, rfl⟩ H7
        refine wl_valE (v := .bool true) rfl (rf_assign rfl) rfl ?_
        refine wl_nil ?_
        refine thn ?_
        refine ret_ ?_
        refine fin1 (v := .bool true) Try.results8 rfl rfl ?_
        exact ⟨_, rfl, H7.pick' [] rfl rfl⟩
end Go.Proofs.Ytiidihgimcebgaa.W
