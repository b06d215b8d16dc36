import Derived.Test.YtiidihgimcebgaaR9
import Derived.KernelRfl
namespace Go.Proofs.Ytiidihgimcebgaa.W
open Go Go.Wk
set_option linter.unusedVariables false
set_option linter.unusedSimpArgs false

theorem WfC.play {ts : List (Option Nat)} : ∀ {l : List Int} {cs : List Cho}, WfC cs ts → WfC (playC ts cs l) ts
  | [], _, h => h
  | p :: r, cs, h => WfC.play (l := r) (h.take p)
theorem stepC_le {cs : List Cho} {ts : List (Option Nat)} (h : WfC cs ts) (j : Nat) : totL (stepC cs j) ≤ totL cs := by
  cases hr : rdy cs j with
  | true => have := stepC_tot h.hok hr; omega
  | false =>
    have : stepC cs j = cs := by
      unfold stepC; unfold rdy at hr
      cases hc : cs[j]? with
      | none => rfl
      | some c => rw [hc] at hr; simp only at hr; simp only [hr]; rfl
    rw [this]; exact Nat.le_refl _
theorem WfS.op {s : PS} (h : WfS s) (o : OpR) (hl : s.lists.length < 4194304) : WfS (opS s o) ∧ (opS s o).lists.length ≤ s.lists.length + 1 := by
  have h1 := h.hst
  unfold opS
  split
  · exact ⟨⟨h.hwf, h.hst, by simp; omega, h.len⟩, by simp⟩
  · split
    · have := takeC_tot h.hwf o.n
      exact ⟨⟨h.hwf.take _, ⟨by simp only []; omega, by simp only []; omega⟩, h.lists_, by simp only [takeC_len]; exact h.len⟩, Nat.le_succ _⟩
    · split
      · have := playN_le (l := o.pl) h.hwf
        exact ⟨⟨h.hwf.play, ⟨by simp only []; omega, by simp only []; omega⟩, h.lists_, by simp only [playC_len]; exact h.len⟩, Nat.le_succ _⟩
      · split
        · have := drain_tot (f := totL s.cs + 1) (m := o.n) h.hwf
          exact ⟨⟨this.2.1, ⟨by simp only []; omega, by simp only []; omega⟩, h.lists_, by simp only [this.2.2]; exact h.len⟩, Nat.le_succ _⟩
        · split
          · exact ⟨h, Nat.le_succ _⟩
          · split
            · split
              · exact ⟨h, Nat.le_succ _⟩
              · have := stepC_le h.hwf (withinF o.n ((s.cs.length : Nat) : Int)).toNat
                exact ⟨⟨h.hwf.step _, ⟨h1.1, by simp only []; omega⟩, h.lists_, by simp only [stepC_len]; exact h.len⟩, Nat.le_succ _⟩
            · exact ⟨h, Nat.le_succ _⟩
theorem mdCs_at : ∀ {l : List MakeR} {k i : Nat} {c : Cho}, (mdCs k l)[i]? = some c → ∃ x, l[i]? = some x ∧ c = ⟨clip x.steps, x.bl.map (mdB (k + i))⟩
  | x :: r, k, 0, c, h => by cases h; exact ⟨x, rfl, rfl⟩
  | x :: r, k, i + 1, c, h => by
    obtain ⟨y, h1, h2⟩ := mdCs_at (l := r) (k := k + 1) (i := i) (by simpa [mdCs] using h)
    exact ⟨y, by simpa using h1, by rw [h2]; congr 3; omega⟩
theorem md_tot : ∀ (l : List MakeR) (k : Nat), totL (mdCs k l) ≤ 65536 * l.length
  | [], _ => Nat.zero_le _
  | x :: r, k => by
    have h1 := md_tot r (k + 1)
    have h2 := clip_in x.steps
    simp only [mdCs, totL, List.length_cons]; omega
theorem md_wf {n : Nat} {l : List MakeR} {tk : List Int} (hn : n = l.length) (hb : ∀ x ∈ l, x.bl.length ≤ 4398046511104) (hn2 : n ≤ 4194304) (ht : tk.length ≤ 4398046511104) : WfS ⟨mdCs 0 l, mdTs n tk, 0, []⟩ := by
  have h0 := md_tot l 0
  refine ⟨⟨fun i c h => ?_, fun i c h => ?_, fun j hj => ?_, by unfold mdTs; simp; exact ht⟩, ⟨Int.le_refl _, by simp only []; omega⟩, Nat.zero_le _, by simp only [mdCs_len]; omega⟩
  · obtain ⟨x, hx, rfl⟩ := mdCs_at h
    have h1 := (List.getElem?_eq_some_iff.1 hx).1
    exact ⟨(clip_in _).1, (clip_in _).2, fun j hj => by obtain ⟨b, _, hbj⟩ := List.mem_map.1 hj; have := mdB_lt hbj; simp only [mdCs_len]; omega⟩
  · obtain ⟨x, hx, rfl⟩ := mdCs_at h
    simp; exact hb x (List.mem_of_getElem? hx)
  · obtain ⟨b, _, hbj⟩ := List.mem_map.1 hj
    have := mdB_lt hbj
    simp only [mdCs_len]; omega
def mkP (x : OpR) : HP := rdH encI 1 x.picks.a x.picks.n x.picks.c x.pl
theorem play14_tr (a : Option Addr) (n c : Nat) (l : List MakeR) (a2 : Option Addr) (n2 c2 : Nat) (tk : List Int) (a3 : Option Addr) (n3 c3 : Nat) (sc : List OpR) (lo hi : Int) (hn : n ≤ 1048576) (hn2 : n2 ≤ 1048576) (hn3 : n3 ≤ 1048576) (hb : ∀ x ∈ l, x.behind.n ≤ 4398046511104) (hbl : ∀ x ∈ l, x.bl.length ≤ 4398046511104) (hp : ∀ x ∈ sc, x.picks.n ≤ 1048576) : Tr Try.prog 21 [.slice a n c, .slice a2 n2 c2, .slice a3 n3 c3, .int .i64 lo, .int .i64 hi] [rdH encMake 2 a n c l, shH (l.map mkB), rdH encI 1 a2 n2 c2 tk, rdH encOp 3 a3 n3 c3 sc, shH (sc.map mkP)] [] (fun v m => v = .bool true ∧ m = []) := by
  intro w0 S0 H0
  have hl1 := (rd_len (H0.rdR 0 Le.rfl)).1
  have hl2 := (rd_len (H0.rdR 2 Le.rfl)).1
  have hl3 := (rd_len (H0.rdR 3 Le.rfl)).1
  have hw0 : WfS ⟨mdCs 0 l, mdTs n tk, 0, []⟩ := md_wf hl1 hbl (by omega) (by omega)
  refine enterR Try.func21 rfl Try.ntmps21 rfl ?_
  intro g0
  refine seq_ ?_
  refine region_ ?_
  refine wl_valE (v := .bool false) rfl (rf_assign rfl) rfl ?_
  refine wl_nil ?_
  refine thn ?_
  refine seq_ ?_
  refine region_ ?_
  refine wl_valE (v := .slice a n c) rfl (rf_move rfl) rfl ?_
  refine wl_valE (v := .slice a2 n2 c2) rfl (rf_move rfl) rfl ?_
  refine wl_tr H0 rfl [] (made_tr a n c l a2 n2 c2 tk (by omega) (by omega) hb) rfl (.ro 0 Le.rfl (.ro 1 Le.rfl (.ro 2 Le.rfl .nil))) (rf_call Try.call22 rfl rfl) rfl ?_
  rintro _ w1 _ ⟨bp, rfl, rfl⟩ H1
  refine wl_valE (v := .pointer (some ⟨bp, 0, none⟩)) rfl (rf_assign rfl) rfl ?_
  refine wl_nil ?_
  refine thn ?_
  refine seq_ ?_
  refine region_ ?_
  refine wl_valE (v := .pointer (some ⟨bp, 0, none⟩)) rfl (rf_move rfl) rfl ?_
  refine wl_tr H1 rfl [] (there_tr (s := ⟨mdCs 0 l, mdTs n tk, 0, []⟩) hw0.len) rfl (.own 0 rfl Le.rfl .nil) (rf_call Try.call23 rfl rfl) rfl ?_
  rintro _ w2 _ ⟨rfl, rfl⟩ H2
  refine wl_valE (v := .bool true) rfl (rf_assign rfl) rfl ?_
  refine wl_nil ?_
  refine thn ?_
  refine seq_ ?_
  refine seq_ ?_
  refine region_ ?_
  refine wl_valE (v := .bool true) rfl (rf_move rfl) rfl ?_
  refine wl_valE (v := .bool false) rfl (rf_not rfl rfl) rfl ?_
  refine wl_nil ?_
  refine thn ?_
  refine condF rfl rfl ?_
  refine skip_ ?_
  refine thn ?_
  refine seq_ ?_
  refine seq_ ?_
  refine region_ ?_
  refine wl_valE (v := .int .i64 (0 : Int)) rfl (rf_assign rfl) rfl ?_
  refine wl_nil ?_
  refine thn ?_
  refine block_ ?_
  refine loop_ (fun qk_ qf_ qw_ => ∃ (g : Nat → Value) (i : Nat) (s : PS), qf_ = upds g [(2, .slice a3 n3 c3), (3, .int .i64 lo), (4, .int .i64 hi), (11, .pointer (some ⟨bp, 0, none⟩)), (13, .int .i64 ((i : Nat) : Int))] ∧ qk_ = n3 - i ∧ (i ≤ n3) ∧ (WfS s ∧ s.lists.length ≤ i) ∧ St w0 S0 [rdH encMake 2 a n c l, shH (l.map mkB), rdH encI 1 a2 n2 c2 tk, rdH encOp 3 a3 n3 c3 sc, shH (sc.map mkP)] qw_ [pairH bp s]) (n3 - 0) ?_ ?_
  · refine ⟨_, 0, ⟨mdCs 0 l, mdTs n tk, 0, []⟩, upds_self ⟨rfl, rfl, rfl, rfl, rfl, trivial⟩, rfl, Nat.zero_le _, ⟨hw0, Nat.le_refl _⟩, H2.pick' [0] rfl rfl⟩
  · rintro lk0 _ wl0 ⟨gl0, i, s, rfl, hlk0, hr0, ⟨hws, hsl⟩, HL0⟩
    refine seq_ ?_
    refine seq_ ?_
    refine region_ ?_
    refine wl_valE (v := .int .i64 ((i : Nat) : Int)) rfl (rf_move rfl) rfl ?_
    refine wl_valE (v := .slice a3 n3 c3) rfl (rf_move rfl) rfl ?_
    refine wl_valE (v := .int .i64 ((n3 : Nat) : Int)) rfl (rf_len_slice Try.underlying40 rfl rfl) rfl ?_
    refine wl_valE (v := .bool (decide (((i : Nat) : Int) < ((n3 : Nat) : Int)))) rfl (rf_lss rfl rfl rfl rfl) rfl ?_
    refine wl_nil ?_
    refine thn ?_
    refine cond_ (t := decide (((i : Nat) : Int) < ((n3 : Nat) : Int))) rfl rfl (fun c25 => ?_) (fun c25 => ?_)
    · have c25p := of_decide_eq_true c25
      refine skip_ ?_
      refine thn ?_
      refine seq_ ?_
      refine block_ ?_
      refine seq_ ?_
      have hn3 := rd_len (HL0.rdR 3 Le.rfl)
      obtain ⟨xo, hxo⟩ : ∃ q_, sc[i]? = some q_ := ⟨_, List.getElem?_eq_getElem (by omega)⟩
      have H4 := HL0.shR 4 i rfl (getH_map mkP hxo)
      have hpo := hp xo (List.mem_of_getElem? hxo)
      refine region_ ?_
      refine wl_valE (v := .pointer (some ⟨bp, 0, none⟩)) rfl (rf_move rfl) rfl ?_
      refine wl_valE (v := .slice a3 n3 c3) rfl (rf_move rfl) rfl ?_
      refine wl_valE (v := .int .i64 ((i : Nat) : Int)) rfl (rf_move rfl) rfl ?_
      refine wl_valE (v := .pointer (some ⟨ab a3, ao a3 + i * 3, none⟩)) rfl (rf_indexAddrH Try.underlying40 ti47 rfl rfl rfl rfl (by omega) (by omega) (H4.rdR 3 Le.rfl)) rfl ?_
      refine wl_valE (v := .agg #[.int .i64 xo.kind, .int .i64 xo.n, .slice xo.picks.a xo.picks.n xo.picks.c]) rfl (rf_loadAgg (cs := [.int .i64 xo.kind, .int .i64 xo.n, .slice xo.picks.a xo.picks.n xo.picks.c]) Try.underlying47 rfl ti47 rfl rfl (el_sub' (rd_el (H4.rdR 3 Le.rfl) hxo) 0 3 rfl) rfl) rfl ?_
      refine wl_tr H4 rfl [0] (pstep_tr (s := s) hws xo hpo) rfl (.ro 5 Le.rfl .nil) (rf_call Try.call24 rfl rfl) rfl ?_
      rintro _ w5 _ ⟨rfl, rfl⟩ H5
      refine wl_valE (v := .bool true) rfl (rf_assign rfl) rfl ?_
      refine wl_nil ?_
      refine thn ?_
      refine seq_ ?_
      refine region_ ?_
      refine wl_valE (v := .bool true) rfl (rf_move rfl) rfl ?_
      refine wl_valE (v := .bool false) rfl (rf_not rfl rfl) rfl ?_
      refine wl_valE (v := .bool false) rfl (rf_move rfl) rfl ?_
      refine wl_guardF rfl rfl rfl rfl ?_
      refine wl_guardF rfl rfl rfl rfl ?_
      refine wl_guardF rfl rfl rfl rfl ?_
      refine wl_guardF rfl rfl rfl rfl ?_
      refine wl_guardF rfl rfl rfl rfl ?_
      refine wl_guardF rfl rfl rfl rfl ?_
      refine wl_guardF rfl rfl rfl rfl ?_
      refine wl_valE (v := .bool false) rfl (rf_pickF rfl rfl rfl rfl) rfl ?_
      refine wl_valE (v := .bool false) rfl (rf_move rfl) rfl ?_
      refine wl_guardF rfl rfl rfl rfl ?_
      refine wl_guardF rfl rfl rfl rfl ?_
      refine wl_guardF rfl rfl rfl rfl ?_
      refine wl_guardF rfl rfl rfl rfl ?_
      refine wl_guardF rfl rfl rfl rfl ?_
      refine wl_guardF rfl rfl rfl rfl ?_
      refine wl_guardF rfl rfl rfl rfl ?_
      refine wl_valE (v := .bool false) rfl (rf_pickF rfl rfl rfl rfl) rfl ?_
      refine wl_nil ?_
      refine thn ?_
      refine condF rfl rfl ?_
      refine skip_ ?_
      refine bln ?_
      refine thn ?_
      refine region_ ?_
      refine wl_valE (v := .int .i64 ((i : Nat) : Int)) rfl (rf_move rfl) rfl ?_
      refine wl_valE (v := .int .i64 ((i + 1 : Nat) : Int)) rfl (rf_add rfl rfl rfl rfl (IntWalk.i64_in _ (by omega))) rfl ?_
      refine wl_valE (v := .int .i64 ((i + 1 : Nat) : Int)) rfl (rf_assign rfl) rfl ?_
      refine wl_nil ?_
      refine thn ?_
      refine ⟨n3 - (i + 1), _, rfl, (by omega), _, i + 1, (opS s xo), upds_self ⟨rfl, rfl, rfl, rfl, rfl, trivial⟩, rfl, by omega, ⟨(hws.op xo (by omega)).1, Nat.le_trans (hws.op xo (by omega)).2 (by omega)⟩, (H5.weakR 5 rfl).pick' [0] rfl rfl⟩
    · have c25p := of_decide_eq_false c25
      refine exit_ ?_
      refine thx (thx (blx ?_))
      refine thn ?_
      refine seq_ ?_
      refine region_ ?_
      refine wl_valE (v := .bool true) rfl (rf_assign rfl) rfl ?_
      refine wl_nil ?_
      refine thn ?_
      refine ret_ ?_
      refine fin1 (v := .bool true) Try.results21 rfl rfl ?_
      exact ⟨_, ⟨rfl, rfl⟩, HL0.pick' [] rfl rfl⟩
theorem schedChores_tr (a : Option Addr) (n c : Nat) (l : List MakeR) (a2 : Option Addr) (n2 c2 : Nat) (tk : List Int) (a3 : Option Addr) (n3 c3 : Nat) (sc : List OpR) (hn : n ≤ 1048576) (hn2 : n2 ≤ 1048576) (hn3 : n3 ≤ 1048576) (hb : ∀ x ∈ l, x.behind.n ≤ 4398046511104) (hbl : ∀ x ∈ l, x.bl.length ≤ 4398046511104) (hp : ∀ x ∈ sc, x.picks.n ≤ 1048576) : Tr Try.prog 5 [.slice a n c, .slice a2 n2 c2, .slice a3 n3 c3] [rdH encMake 2 a n c l, shH (l.map mkB), rdH encI 1 a2 n2 c2 tk, rdH encOp 3 a3 n3 c3 sc, shH (sc.map mkP)] [] (fun v m => v = .bool true) := by
  intro w0 S0 H0
  refine enterR Try.func5 rfl Try.ntmps5 rfl ?_
  intro g0
  refine seq_ ?_
  refine region_ ?_
  refine wl_valE (v := .bool false) rfl (rf_assign rfl) rfl ?_
  refine wl_nil ?_
  refine thn ?_
  refine seq_ ?_
  refine seq_ ?_
  refine region_ ?_
  refine wl_valE (v := .slice a n c) rfl (rf_move rfl) rfl ?_
  refine wl_valE (v := .slice a3 n3 c3) rfl (rf_move rfl) rfl ?_
  refine wl_tr H0 rfl [] (parts_tr a n c l a3 n3 c3 sc (fun x hx => Nat.le_trans (hb x hx) (by decide)) (fun x hx => Nat.le_trans (hp x hx) (by decide)) (by omega) (by omega)) rfl (.ro 0 Le.rfl (.ro 3 Le.rfl .nil)) (rf_call Try.call10 rfl rfl) rfl ?_
  rintro _ w1 _ ⟨rfl, rfl⟩ H1
  refine wl_valE (v := .bool (decide (pL (pL 100000 (l.map (·.behind.n))) (sc.map (·.picks.n)) < (0 : Int)))) rfl (rf_lss rfl rfl rfl rfl) rfl ?_
  refine wl_nil ?_
  refine thn ?_
  refine cond_ (t := decide (pL (pL 100000 (l.map (·.behind.n))) (sc.map (·.picks.n)) < (0 : Int))) rfl rfl (fun c10 => ?_) (fun c10 => ?_)
  · have c10p := of_decide_eq_true c10
    refine seq_ ?_
    refine region_ ?_
    refine wl_valE (v := .bool true) rfl (rf_assign rfl) rfl ?_
    refine wl_nil ?_
    refine thn ?_
    refine ret_ ?_
    refine thr ?_
    refine fin1 (v := .bool true) Try.results5 rfl rfl ?_
    exact ⟨_, rfl, H1.pick' [] rfl rfl⟩
  · have c10p := of_decide_eq_false c10
    refine skip_ ?_
    refine thn ?_
    refine seq_ ?_
    refine region_ ?_
    refine wl_valE (v := .slice a n c) rfl (rf_move rfl) rfl ?_
    refine wl_valE (v := .slice a2 n2 c2) rfl (rf_move rfl) rfl ?_
    refine wl_valE (v := .slice a3 n3 c3) rfl (rf_move rfl) rfl ?_
    refine wl_tr H1 rfl [] (play14_tr a n c l a2 n2 c2 tk a3 n3 c3 sc (5 : Int) (6 : Int) hn hn2 hn3 hb hbl hp) rfl (.ro 0 Le.rfl (.ro 1 Le.rfl (.ro 2 Le.rfl (.ro 3 Le.rfl (.ro 4 Le.rfl .nil))))) (rf_call Try.call21 rfl rfl) rfl ?_
    rintro _ w2 _ ⟨rfl, rfl⟩ H2
    refine wl_valE (v := .bool true) rfl (rf_assign rfl) rfl ?_
    refine wl_nil ?_
    refine thn ?_
    refine ret_ ?_
    refine fin1 (v := .bool true) Try.results5 rfl rfl ?_
    exact ⟨_, rfl, H2.pick' [] rfl rfl⟩
theorem schedTakes_tr (a : Option Addr) (n c : Nat) (l : List MakeR) (a2 : Option Addr) (n2 c2 : Nat) (tk : List Int) (a3 : Option Addr) (n3 c3 : Nat) (sc : List OpR) (hn : n ≤ 1048576) (hn2 : n2 ≤ 1048576) (hn3 : n3 ≤ 1048576) (hb : ∀ x ∈ l, x.behind.n ≤ 4398046511104) (hbl : ∀ x ∈ l, x.bl.length ≤ 4398046511104) (hp : ∀ x ∈ sc, x.picks.n ≤ 1048576) : Tr Try.prog 6 [.slice a n c, .slice a2 n2 c2, .slice a3 n3 c3] [rdH encMake 2 a n c l, shH (l.map mkB), rdH encI 1 a2 n2 c2 tk, rdH encOp 3 a3 n3 c3 sc, shH (sc.map mkP)] [] (fun v m => v = .bool true) := by
  intro w0 S0 H0
  refine enterR Try.func6 rfl Try.ntmps6 rfl ?_
  intro g0
  refine seq_ ?_
  refine region_ ?_
  refine wl_valE (v := .bool false) rfl (rf_assign rfl) rfl ?_
  refine wl_nil ?_
  refine thn ?_
  refine seq_ ?_
  refine seq_ ?_
  refine region_ ?_
  refine wl_valE (v := .slice a n c) rfl (rf_move rfl) rfl ?_
  refine wl_valE (v := .slice a3 n3 c3) rfl (rf_move rfl) rfl ?_
  refine wl_tr H0 rfl [] (parts_tr a n c l a3 n3 c3 sc (fun x hx => Nat.le_trans (hb x hx) (by decide)) (fun x hx => Nat.le_trans (hp x hx) (by decide)) (by omega) (by omega)) rfl (.ro 0 Le.rfl (.ro 3 Le.rfl .nil)) (rf_call Try.call10 rfl rfl) rfl ?_
  rintro _ w1 _ ⟨rfl, rfl⟩ H1
  refine wl_valE (v := .bool (decide (pL (pL 100000 (l.map (·.behind.n))) (sc.map (·.picks.n)) < (0 : Int)))) rfl (rf_lss rfl rfl rfl rfl) rfl ?_
  refine wl_nil ?_
  refine thn ?_
  refine cond_ (t := decide (pL (pL 100000 (l.map (·.behind.n))) (sc.map (·.picks.n)) < (0 : Int))) rfl rfl (fun c10 => ?_) (fun c10 => ?_)
  · have c10p := of_decide_eq_true c10
    refine seq_ ?_
    refine region_ ?_
    refine wl_valE (v := .bool true) rfl (rf_assign rfl) rfl ?_
    refine wl_nil ?_
    refine thn ?_
    refine ret_ ?_
    refine thr ?_
    refine fin1 (v := .bool true) Try.results6 rfl rfl ?_
    exact ⟨_, rfl, H1.pick' [] rfl rfl⟩
  · have c10p := of_decide_eq_false c10
    refine skip_ ?_
    refine thn ?_
    refine seq_ ?_
    refine region_ ?_
    refine wl_valE (v := .slice a n c) rfl (rf_move rfl) rfl ?_
    refine wl_valE (v := .slice a2 n2 c2) rfl (rf_move rfl) rfl ?_
    refine wl_valE (v := .slice a3 n3 c3) rfl (rf_move rfl) rfl ?_
    refine wl_tr H1 rfl [] (play14_tr a n c l a2 n2 c2 tk a3 n3 c3 sc (0 : Int) (1 : Int) hn hn2 hn3 hb hbl hp) rfl (.ro 0 Le.rfl (.ro 1 Le.rfl (.ro 2 Le.rfl (.ro 3 Le.rfl (.ro 4 Le.rfl .nil))))) (rf_call Try.call21 rfl rfl) rfl ?_
    rintro _ w2 _ ⟨rfl, rfl⟩ H2
    refine wl_valE (v := .bool true) rfl (rf_move rfl) rfl ?_
    refine wl_guardT rfl rfl rfl rfl ?_
    refine wl_valE (v := .slice a n c) rfl (rf_move rfl) rfl ?_
    refine wl_guardT rfl rfl rfl rfl ?_
    refine wl_valE (v := .slice a2 n2 c2) rfl (rf_move rfl) rfl ?_
    refine wl_guardT rfl rfl rfl rfl ?_
    refine wl_valE (v := .slice a3 n3 c3) rfl (rf_move rfl) rfl ?_
    refine wl_guardT rfl rfl rfl rfl ?_
    refine wl_tr H2 rfl [] (play14_tr a n c l a2 n2 c2 tk a3 n3 c3 sc (4 : Int) (4 : Int) hn hn2 hn3 hb hbl hp) rfl (.ro 0 Le.rfl (.ro 1 Le.rfl (.ro 2 Le.rfl (.ro 3 Le.rfl (.ro 4 Le.rfl .nil))))) (rf_call Try.call21 rfl rfl) rfl ?_
    rintro _ w3 _ ⟨rfl, rfl⟩ H3
    refine wl_valE (v := .bool true) rfl (rf_pickT rfl rfl rfl rfl) rfl ?_
    refine wl_valE (v := .bool true) rfl (rf_assign rfl) rfl ?_
    refine wl_nil ?_
    refine thn ?_
    refine ret_ ?_
    refine fin1 (v := .bool true) Try.results6 rfl rfl ?_
    exact ⟨_, rfl, H3.pick' [] rfl rfl⟩
theorem schedDrains_tr (a : Option Addr) (n c : Nat) (l : List MakeR) (a2 : Option Addr) (n2 c2 : Nat) (tk : List Int) (a3 : Option Addr) (n3 c3 : Nat) (sc : List OpR) (hn : n ≤ 1048576) (hn2 : n2 ≤ 1048576) (hn3 : n3 ≤ 1048576) (hb : ∀ x ∈ l, x.behind.n ≤ 4398046511104) (hbl : ∀ x ∈ l, x.bl.length ≤ 4398046511104) (hp : ∀ x ∈ sc, x.picks.n ≤ 1048576) : Tr Try.prog 7 [.slice a n c, .slice a2 n2 c2, .slice a3 n3 c3] [rdH encMake 2 a n c l, shH (l.map mkB), rdH encI 1 a2 n2 c2 tk, rdH encOp 3 a3 n3 c3 sc, shH (sc.map mkP)] [] (fun v m => v = .bool true) := by
  intro w0 S0 H0
  refine enterR Try.func7 rfl Try.ntmps7 rfl ?_
  intro g0
  refine seq_ ?_
  refine region_ ?_
  refine wl_valE (v := .bool false) rfl (rf_assign rfl) rfl ?_
  refine wl_nil ?_
  refine thn ?_
  refine seq_ ?_
  refine seq_ ?_
  refine region_ ?_
  refine wl_valE (v := .slice a n c) rfl (rf_move rfl) rfl ?_
  refine wl_valE (v := .slice a3 n3 c3) rfl (rf_move rfl) rfl ?_
  refine wl_tr H0 rfl [] (parts_tr a n c l a3 n3 c3 sc (fun x hx => Nat.le_trans (hb x hx) (by decide)) (fun x hx => Nat.le_trans (hp x hx) (by decide)) (by omega) (by omega)) rfl (.ro 0 Le.rfl (.ro 3 Le.rfl .nil)) (rf_call Try.call10 rfl rfl) rfl ?_
  rintro _ w1 _ ⟨rfl, rfl⟩ H1
  refine wl_valE (v := .bool (decide (pL (pL 100000 (l.map (·.behind.n))) (sc.map (·.picks.n)) < (0 : Int)))) rfl (rf_lss rfl rfl rfl rfl) rfl ?_
  refine wl_nil ?_
  refine thn ?_
  refine cond_ (t := decide (pL (pL 100000 (l.map (·.behind.n))) (sc.map (·.picks.n)) < (0 : Int))) rfl rfl (fun c10 => ?_) (fun c10 => ?_)
  · have c10p := of_decide_eq_true c10
    refine seq_ ?_
    refine region_ ?_
    refine wl_valE (v := .bool true) rfl (rf_assign rfl) rfl ?_
    refine wl_nil ?_
    refine thn ?_
    refine ret_ ?_
    refine thr ?_
    refine fin1 (v := .bool true) Try.results7 rfl rfl ?_
    exact ⟨_, rfl, H1.pick' [] rfl rfl⟩
  · have c10p := of_decide_eq_false c10
    refine skip_ ?_
    refine thn ?_
    refine seq_ ?_
    refine region_ ?_
    refine wl_valE (v := .slice a n c) rfl (rf_move rfl) rfl ?_
    refine wl_valE (v := .slice a2 n2 c2) rfl (rf_move rfl) rfl ?_
    refine wl_valE (v := .slice a3 n3 c3) rfl (rf_move rfl) rfl ?_
    refine wl_tr H1 rfl [] (play14_tr a n c l a2 n2 c2 tk a3 n3 c3 sc (2 : Int) (3 : Int) hn hn2 hn3 hb hbl hp) rfl (.ro 0 Le.rfl (.ro 1 Le.rfl (.ro 2 Le.rfl (.ro 3 Le.rfl (.ro 4 Le.rfl .nil))))) (rf_call Try.call21 rfl rfl) rfl ?_
    rintro _ w2 _ ⟨rfl, rfl⟩ H2
    refine wl_valE (v := .bool true) rfl (rf_assign rfl) rfl ?_
    refine wl_nil ?_
    refine thn ?_
    refine ret_ ?_
    refine fin1 (v := .bool true) Try.results7 rfl rfl ?_
    exact ⟨_, rfl, H2.pick' [] rfl rfl⟩
end Go.Proofs.Ytiidihgimcebgaa.W
