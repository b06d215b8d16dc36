import Derived.Test.YtiidihgimcebgaaC3
import Derived.KernelRfl
namespace Go.Proofs.Ytiidihgimcebgaa.W
open Go Go.Wk
set_option linter.unusedVariables false
set_option linter.unusedSimpArgs false

theorem rdyL_mem {cs : List Cho} : ∀ {ts : List (Option Nat)} {k : Nat} {x : Int}, x ∈ rdyL cs k ts → ∃ i j : Nat, x = ((k + i : Nat) : Int) ∧ ts[i]? = some (some j) ∧ rdy cs j = true
  | t :: r, k, x, h => by
    simp only [rdyL, List.mem_append] at h
    rcases h with h | h
    · cases t with
      | none => simp at h
      | some j =>
        simp only at h
        cases hr : rdy cs j with
        | false => rw [hr] at h; simp at h
        | true => rw [hr] at h; simp at h; exact ⟨0, j, by simpa using h, rfl, hr⟩
    · obtain ⟨i, j, h1, h2, h3⟩ := rdyL_mem h
      exact ⟨i + 1, j, by rw [h1]; congr 1; omega, by simpa using h2, h3⟩
theorem rdyL_len {cs : List Cho} : ∀ {ts : List (Option Nat)} {k : Nat}, (rdyL cs k ts).length ≤ ts.length
  | [], _ => Nat.le_refl _
  | t :: r, k => by
    have := rdyL_len (cs := cs) (ts := r) (k := k + 1)
    simp only [rdyL, List.length_append, List.length_cons]
    cases t with
    | none => simp; omega
    | some j => cases hq : rdy cs j <;> simp [hq] <;> omega
theorem tmod2 {x n : Int} (h : 1 ≤ n) : (x.tmod n + n).tmod n = withinF x n := by
  have h1 := tmod_in (n := x) (m := n) (by omega)
  have h2 := within_eq (n := x) (m := n) (by omega)
  rw [Int.tmod_eq_emod_of_nonneg (by omega), Int.add_emod_right, ← h2]
  split
  · rw [← Int.add_emod_right, Int.emod_eq_of_lt (by omega) (by omega)]
  · rw [Int.emod_eq_of_lt (by omega) (by omega)]
/-- the place that a pick takes -/
def takeI (cs : List Cho) (ts : List (Option Nat)) (pick : Int) : Option Int := match rdyL cs 0 ts with | [] => none | x :: r => (x :: r)[(withinF pick ((x :: r).length : Nat)).toNat]?
def takeV (cs : List Cho) (ts : List (Option Nat)) (pick : Int) : Int := (takeI cs ts pick).getD (-1)
def takeC (cs : List Cho) (ts : List (Option Nat)) (pick : Int) : List Cho := match takeI cs ts pick with | none => cs | some i => match ts[i.toNat]? with | some (some j) => stepC cs j | _ => cs
theorem takeI_none {cs : List Cho} {ts : List (Option Nat)} {pick : Int} (h : rdyL cs 0 ts = []) : takeI cs ts pick = none := by unfold takeI; rw [h]
theorem takeI_some {cs : List Cho} {ts : List (Option Nat)} {pick : Int} (h : 0 < (rdyL cs 0 ts).length) : takeI cs ts pick = (rdyL cs 0 ts)[(withinF pick ((rdyL cs 0 ts).length : Nat)).toNat]? := by
  unfold takeI
  cases hr : rdyL cs 0 ts with
  | nil => rw [hr] at h; simp at h
  | cons x r => rfl
theorem takeI_spec (cs : List Cho) (ts : List (Option Nat)) (pick : Int) : (rdyL cs 0 ts = [] ∧ takeI cs ts pick = none) ∨ ∃ i j : Nat, takeI cs ts pick = some ((i : Nat) : Int) ∧ ts[i]? = some (some j) ∧ rdy cs j = true ∧ takeC cs ts pick = stepC cs j ∧ 0 < (rdyL cs 0 ts).length := by
  rcases Nat.eq_zero_or_pos (rdyL cs 0 ts).length with h0 | h0
  · exact .inl ⟨List.eq_nil_of_length_eq_zero h0, takeI_none (List.eq_nil_of_length_eq_zero h0)⟩
  · right
    have h1 := withinF_in (n := pick) (m := ((rdyL cs 0 ts).length : Nat)) (by omega)
    obtain ⟨x, hx⟩ : ∃ x, (rdyL cs 0 ts)[(withinF pick ((rdyL cs 0 ts).length : Nat)).toNat]? = some x := ⟨_, List.getElem?_eq_getElem (by omega)⟩
    obtain ⟨i, j, h2, h3, h4⟩ := rdyL_mem (List.mem_of_getElem? hx)
    have h5 := takeI_some (pick := pick) h0
    rw [hx, h2, Nat.zero_add] at h5
    exact ⟨i, j, h5, h3, h4, by unfold takeC; rw [h5]; simp [h3], h0⟩
theorem WfC.take {cs : List Cho} {ts : List (Option Nat)} (h : WfC cs ts) (pick : Int) : WfC (takeC cs ts pick) ts := by
  rcases takeI_spec cs ts pick with ⟨_, h1⟩ | ⟨i, j, _, _, _, h1, _⟩
  · unfold takeC; rw [h1]; exact h
  · rw [h1]; exact h.step j
theorem takeC_len (cs : List Cho) (ts : List (Option Nat)) (pick : Int) : (takeC cs ts pick).length = cs.length := by
  rcases takeI_spec cs ts pick with ⟨_, h1⟩ | ⟨i, j, _, _, _, h1, _⟩
  · unfold takeC; rw [h1]
  · rw [h1]; exact stepC_len cs j
def bn (b : Bool) : Nat := bif b then 1 else 0
theorem stepC_tot {cs : List Cho} {j : Nat} (hok : OkB cs) (h : rdy cs j = true) : totL (stepC cs j) + 1 = totL cs := by
  unfold rdy at h
  unfold stepC
  split at h
  · rename_i c hc
    simp only [h, if_true]
    have h1 := totL_set (d := { c with left := c.left - 1 }) hc
    have h2 := hok j c hc
    have hl : c.left ≠ 0 := by intro e; unfold rdyC at h; rw [e] at h; simp at h
    simp only [] at h1
    omega
  · cases h
theorem takeC_tot {cs : List Cho} {ts : List (Option Nat)} (h : WfC cs ts) (pick : Int) : totL (takeC cs ts pick) + bn (takeI cs ts pick).isSome = totL cs := by
  rcases takeI_spec cs ts pick with ⟨_, h1⟩ | ⟨i, j, h0, _, hr, h1, _⟩
  · unfold takeC; rw [h1]; rfl
  · rw [h1, h0]; exact stepC_tot h.hok hr
def playC (ts : List (Option Nat)) : List Cho → List Int → List Cho
  | cs, [] => cs
  | cs, p :: r => playC ts (takeC cs ts p) r
def playN (ts : List (Option Nat)) : List Cho → List Int → Nat
  | _, [] => 0
  | cs, p :: r => bn (takeI cs ts p).isSome + playN ts (takeC cs ts p) r
theorem playN_le {ts : List (Option Nat)} : ∀ {l : List Int} {cs : List Cho}, WfC cs ts → playN ts cs l + totL (playC ts cs l) = totL cs
  | [], _, _ => by simp [playN, playC]
  | p :: r, cs, h => by
    have h1 := takeC_tot h p
    have h2 := playN_le (l := r) (h.take p)
    simp only [playN, playC]; omega
def drainS (ts : List (Option Nat)) : Nat → List Cho → Int → List Cho × Nat
  | 0, cs, _ => (cs, 0)
  | f + 1, cs, m => if 0 < m then (match takeI cs ts 0 with | some _ => ((drainS ts f (takeC cs ts 0) (m - 1)).1, (drainS ts f (takeC cs ts 0) (m - 1)).2 + 1) | none => (cs, 0)) else (cs, 0)
theorem drain_some {ts : List (Option Nat)} {cs : List Cho} {m x : Int} (hwf : WfC cs ts) (h0 : 0 < m) (ht : takeI cs ts 0 = some x) : drainS ts (totL cs + 1) cs m = ((drainS ts (totL (takeC cs ts 0) + 1) (takeC cs ts 0) (m - 1)).1, (drainS ts (totL (takeC cs ts 0) + 1) (takeC cs ts 0) (m - 1)).2 + 1) := by
  have h1 := takeC_tot hwf 0
  rw [ht] at h1
  have h2 : totL (takeC cs ts 0) + 1 = totL cs := h1
  rw [h2]
  conv => lhs; unfold drainS
  rw [if_pos h0, ht]
theorem drain_none {ts : List (Option Nat)} {cs : List Cho} {m : Int} {f : Nat} (h : m ≤ 0 ∨ takeI cs ts 0 = none) : drainS ts (f + 1) cs m = (cs, 0) := by
  simp only [drainS]
  rcases h with h | h
  · rw [if_neg (by omega)]
  · rw [h]; split <;> rfl
theorem takeV_pos {cs : List Cho} {ts : List (Option Nat)} {p : Int} (h : 0 ≤ takeV cs ts p) : ∃ i : Nat, takeI cs ts p = some ((i : Nat) : Int) := by
  rcases takeI_spec cs ts p with ⟨_, h1⟩ | ⟨i, j, h1, _⟩
  · unfold takeV at h; rw [h1] at h; exact absurd h (by decide)
  · exact ⟨i, h1⟩
theorem takeV_neg {cs : List Cho} {ts : List (Option Nat)} {p : Int} (h : ¬ 0 ≤ takeV cs ts p) : takeI cs ts p = none := by
  rcases takeI_spec cs ts p with ⟨_, h1⟩ | ⟨i, j, h1, _⟩
  · exact h1
  · unfold takeV at h; rw [h1] at h; exact absurd (show (0 : Int) ≤ ((i : Nat) : Int) by omega) h
theorem drain_tot {ts : List (Option Nat)} : ∀ {f : Nat} {cs : List Cho} {m : Int}, WfC cs ts → (drainS ts f cs m).2 + totL (drainS ts f cs m).1 = totL cs ∧ WfC (drainS ts f cs m).1 ts ∧ (drainS ts f cs m).1.length = cs.length
  | 0, cs, m, h => ⟨by simp [drainS], h, rfl⟩
  | f + 1, cs, m, h => by
    simp only [drainS]
    split
    · have h1 := takeC_tot h 0
      cases ht : takeI cs ts 0 with
      | none => exact ⟨by simp, h, rfl⟩
      | some x =>
        rw [ht] at h1
        have h2 := drain_tot (f := f) (m := m - 1) (h.take 0)
        have h3 : totL (takeC cs ts 0) + 1 = totL cs := h1
        refine ⟨?_, h2.2.1, by rw [← takeC_len cs ts 0]; exact h2.2.2⟩
        have := h2.1
        simp only []; omega
    · exact ⟨by simp, h, rfl⟩
theorem take_tr {p : Nat} {ps : List Nat} {ts : List (Option Nat)} {steps : Int} {cs : List Cho} (hwf : WfC cs ts) (hst : 0 ≤ steps ∧ steps + ((totL cs : Nat) : Int) ≤ 1152921504606846976) (pick : Int) : Tr Try.prog 14 [.pointer (some ⟨p, 0, none⟩), .int .i64 pick] [] [lineH p ps ts steps, ChH ps cs] (fun v m => v = .int .i64 (takeV cs ts pick) ∧ m = [lineH p ps ts (steps + ((bn (takeI cs ts pick).isSome : Nat) : Int)), ChH ps (takeC cs ts pick)]) := by
  intro w0 S0 H0
  refine enterR Try.func14 rfl Try.ntmps14 rfl ?_
  intro g0
  refine seq_ ?_
  refine region_ ?_
  refine wl_valE (v := .int .i64 (0 : Int)) rfl (rf_assign rfl) rfl ?_
  refine wl_nil ?_
  refine thn ?_
  refine seq_ ?_
  refine region_ ?_
  refine wl_valE (v := .pointer (some ⟨p, 0, none⟩)) rfl (rf_move rfl) rfl ?_
  refine wl_tr H0 rfl [] (lready_tr hwf.hok hwf.hbl hwf.hts hwf.htl) rfl (.own 0 rfl Le.rfl (.own 1 rfl Le.rfl .nil)) (rf_call Try.call17 rfl rfl) rfl ?_
  rintro _ w1 _ ⟨ar1, nr1, cr1, rfl, rfl⟩ H1
  refine wl_valE (v := .slice ar1 nr1 cr1) rfl (rf_assign rfl) rfl ?_
  refine wl_nil ?_
  refine thn ?_
  refine seq_ ?_
  refine region_ ?_
  refine wl_valE (v := .slice ar1 nr1 cr1) rfl (rf_move rfl) rfl ?_
  refine wl_valE (v := .int .i64 ((nr1 : Nat) : Int)) rfl (rf_len_slice Try.underlying23 rfl rfl) rfl ?_
  have hrl := slH_len H1 2 rfl
  have hrn := rdyL_len (cs := cs) (ts := ts) (k := 0)
  have htl := hwf.htl
  have htot := takeC_tot hwf pick
  refine wl_valE (v := .int .i64 ((nr1 : Nat) : Int)) rfl (rf_assign rfl) rfl ?_
  refine wl_nil ?_
  refine thn ?_
  refine seq_ ?_
  refine seq_ ?_
  refine region_ ?_
  refine wl_valE (v := .int .i64 ((nr1 : Nat) : Int)) rfl (rf_move rfl) rfl ?_
  refine wl_valE (v := .bool (decide (((nr1 : Nat) : Int) = (0 : Int)))) rfl (rf_eql rfl rfl rfl rfl) rfl ?_
  refine wl_nil ?_
  refine thn ?_
  refine cond_ (t := decide (((nr1 : Nat) : Int) = (0 : Int))) rfl rfl (fun c13 => ?_) (fun c13 => ?_)
  · have c13p := of_decide_eq_true c13
    have hr0 : rdyL cs 0 ts = [] := List.eq_nil_of_length_eq_zero (by omega)
    refine seq_ ?_
    refine region_ ?_
    refine wl_valE (v := .int .i64 (-1 : Int)) rfl (rf_assign rfl) rfl ?_
    refine wl_nil ?_
    refine thn ?_
    refine ret_ ?_
    refine thr ?_
    refine fin1 (v := .int .i64 (-1 : Int)) Try.results14 rfl rfl ?_
    have e1 := takeI_none (pick := pick) hr0
    have e2 : takeC cs ts pick = cs := by unfold takeC; rw [e1]
    have e3 : takeV cs ts pick = -1 := by unfold takeV; rw [e1]; rfl
    have e4 : steps + ((bn (none : Option Int).isSome : Nat) : Int) = steps := Int.add_zero _
    rw [e1, e2, e3, e4]
    exact ⟨_, ⟨rfl, rfl⟩, H1.pick' [0, 1] rfl rfl⟩
  · have c13p := of_decide_eq_false c13
    have hpi := withinF_in (n := pick) (m := ((nr1 : Nat) : Int)) (by omega)
    have htm := tmod_in (n := pick) (m := ((nr1 : Nat) : Int)) (by omega)
    refine skip_ ?_
    refine thn ?_
    refine seq_ ?_
    refine region_ ?_
    refine wl_valE (v := .slice ar1 nr1 cr1) rfl (rf_move rfl) rfl ?_
    refine wl_valE (v := .int .i64 pick) rfl (rf_move rfl) rfl ?_
    refine wl_valE (v := .int .i64 ((nr1 : Nat) : Int)) rfl (rf_move rfl) rfl ?_
    refine wl_valE (v := .int .i64 (pick.tmod ((nr1 : Nat) : Int))) rfl (rf_rem rfl rfl rfl rfl (by omega) rfl) rfl ?_
    refine wl_valE (v := .int .i64 ((nr1 : Nat) : Int)) rfl (rf_move rfl) rfl ?_
    refine wl_valE (v := .int .i64 ((pick.tmod ((nr1 : Nat) : Int)) + ((nr1 : Nat) : Int))) rfl (rf_add rfl rfl rfl rfl (IntWalk.i64_in _ (by omega))) rfl ?_
    refine wl_valE (v := .int .i64 ((nr1 : Nat) : Int)) rfl (rf_move rfl) rfl ?_
    refine wl_valE (v := .int .i64 (withinF pick ((nr1 : Nat) : Int))) rfl (rf_rem rfl rfl rfl rfl (by omega) (tmod2 (by omega))) rfl ?_
    refine wl_valE (v := .pointer (some ⟨ab ar1, ao ar1 + ((withinF pick ((nr1 : Nat) : Int)).toNat) * 1, none⟩)) rfl (rf_indexAddrH Try.underlying23 ti3 rfl rfl rfl rfl (by omega) (by omega) (H1.rdO 2 slH_rd)) rfl ?_
    have hn3 := slH_len H1 2 rfl
    obtain ⟨x2, hx2⟩ : ∃ q_, (rdyL cs 0 ts)[(withinF pick ((nr1 : Nat) : Int)).toNat]? = some q_ := ⟨_, List.getElem?_eq_getElem (by omega)⟩
    refine wl_valE (v := .int .i64 x2) rfl (rf_load Try.underlying3 rfl rfl rfl (rd_el (H1.rdO 2 slH_rd) hx2 0 _ rfl)) rfl ?_
    obtain ⟨i, j, hij, hti, hrj⟩ := rdyL_mem (List.mem_of_getElem? hx2)
    rw [Nat.zero_add] at hij
    have hxi : takeI cs ts pick = some ((i : Nat) : Int) := by rw [takeI_some (by omega), ← hrl.1, hx2, hij]
    subst hij
    have htC : takeC cs ts pick = stepC cs j := by unfold takeC; rw [hxi]; simp [hti]
    obtain ⟨d, hd⟩ : ∃ d, cs[j]? = some d := ⟨_, List.getElem?_eq_getElem (hwf.hts j (List.mem_of_getElem? hti))⟩
    have hil := (List.getElem?_eq_some_iff.1 hti).1
    refine wl_valE (v := .int .i64 ((i : Nat) : Int)) rfl (rf_assign rfl) rfl ?_
    refine wl_nil ?_
    refine thn ?_
    refine seq_ ?_
    obtain ⟨y, _, H4⟩ := lineH.open_ H1 0 rfl rfl
    have hyl := slH_len H4 3 rfl
    rw [List.length_map] at hyl
    refine region_ ?_
    refine wl_valE (v := .pointer (some ⟨p, 0, none⟩)) rfl (rf_move rfl) rfl ?_
    refine wl_valE (v := .pointer (some ⟨p, 0, none⟩)) rfl (rf_nilCheckP rfl rfl) rfl ?_
    refine wl_valE (v := .pointer (some ⟨p, 0, none⟩)) rfl (rf_fieldAddr Try.underlying59 rfl ti53 rfl rfl) rfl ?_
    refine wl_valE (v := .slice y.a y.n y.c) rfl (rf_load Try.underlying53 rfl rfl rfl ((H4.blk 0 rfl).cell rfl)) rfl ?_
    refine wl_valE (v := .int .i64 ((i : Nat) : Int)) rfl (rf_move rfl) rfl ?_
    refine wl_valE (v := .pointer (some ⟨ab y.a, ao y.a + i * 1, none⟩)) rfl (rf_indexAddrH Try.underlying53 ti57 rfl rfl rfl rfl (by omega) (by omega) (H4.rdO 3 slH_rd)) rfl ?_
    have hn6 := slH_len H4 3 rfl
    obtain ⟨x5, hx5⟩ : ∃ q_, (ts.map (ppf ps))[i]? = some q_ := ⟨_, List.getElem?_eq_getElem (by omega)⟩
    refine wl_valE (v := ifv x5) rfl (rf_load Try.underlying57 rfl rfl rfl (rd_el (H4.rdO 3 slH_rd) hx5 0 _ rfl)) rfl ?_
    have hyj : (ts.map (ppf ps))[i]? = some (ppf ps (some j)) := by rw [List.getElem?_map, hti]; rfl
    obtain rfl := Option.some.inj (hx5.symm.trans hyj)
    refine wl_tr H4 rfl [1] (step_tr hwf.hok hwf.hbl j d hd) rfl .nil (rf_invoke Try.call37 meth30_Step rfl rfl rfl rfl) rfl ?_
    rintro _ w7 _ ⟨rfl, rfl⟩ H7
    dsimp only [putsH, setH, List.cons_append, List.nil_append] at H7
    refine wl_nil ?_
    refine thn ?_
    refine seq_ ?_
    refine region_ ?_
    refine wl_valE (v := .pointer (some ⟨p, 0, none⟩)) rfl (rf_move rfl) rfl ?_
    refine wl_valE (v := .pointer (some ⟨p, 0, none⟩)) rfl (rf_nilCheckP rfl rfl) rfl ?_
    refine wl_valE (v := .pointer (some ⟨p, 1, none⟩)) rfl (rf_fieldAddr Try.underlying59 rfl ti3 rfl rfl) rfl ?_
    refine wl_valE (v := .int .i64 steps) rfl (rf_load Try.underlying3 rfl rfl rfl ((H7.blk 0 rfl).cell rfl)) rfl ?_
    refine wl_valE (v := .int .i64 (steps + (1 : Int))) rfl (rf_add rfl rfl rfl rfl (IntWalk.i64_in _ (by omega))) rfl ?_
    refine wl_valE (v := .pointer (some ⟨p, 0, none⟩)) rfl (rf_nilCheckP rfl rfl) rfl ?_
    refine wl_valE (v := .pointer (some ⟨p, 1, none⟩)) rfl (rf_fieldAddr Try.underlying59 rfl ti3 rfl rfl) rfl ?_
    refine wl_storeH H7 0 (v := .int .i64 (steps + (1 : Int))) (A' := #[.slice y.a y.n y.c, .int .i64 (steps + (1 : Int))]) rfl rfl ti3 rfl rfl rfl rfl rfl (ltb rfl) rfl ?_
    intro w8 H8
    refine wl_nil ?_
    refine thn ?_
    refine seq_ ?_
    refine region_ ?_
    refine wl_valE (v := .int .i64 ((i : Nat) : Int)) rfl (rf_move rfl) rfl ?_
    refine wl_valE (v := .int .i64 ((i : Nat) : Int)) rfl (rf_assign rfl) rfl ?_
    refine wl_nil ?_
    refine thn ?_
    refine ret_ ?_
    refine fin1 (v := .int .i64 ((i : Nat) : Int)) Try.results14 rfl rfl ?_
    have H9 := lineH.close_ (p := p) (ps := ps) (ts := ts) (steps := (steps + (1 : Int))) H8 [0, 3] y trivial rfl rfl
    have e3 : takeV cs ts pick = ((i : Nat) : Int) := by unfold takeV; rw [hxi]; rfl
    rw [e3, htC, hxi]
    exact ⟨_, ⟨rfl, rfl⟩, H9.pick' [0, 1] rfl rfl⟩
theorem play_tr {p : Nat} {ps : List Nat} {ts : List (Option Nat)} {steps : Int} {cs : List Cho} (hwf : WfC cs ts) (hst : 0 ≤ steps ∧ steps + ((totL cs : Nat) : Int) ≤ 1152921504606846976) (a : Option Addr) (n c : Nat) (l : List Int) (hn : n ≤ 9223372036854775806) : Tr Try.prog 26 [.pointer (some ⟨p, 0, none⟩), .slice a n c] [rdH encI 1 a n c l] [lineH p ps ts steps, ChH ps cs] (fun v m => v = .int .i64 ((playN ts cs l : Nat) : Int) ∧ m = [lineH p ps ts (steps + ((playN ts cs l : Nat) : Int)), ChH ps (playC ts cs l)]) := by
  intro w0 S0 H0
  have hl1 := (rd_len (H0.rdR 0 Le.rfl)).1
  have hp0 := playN_le (l := l) hwf
  refine enterR Try.func26 rfl Try.ntmps26 rfl ?_
  intro g0
  refine seq_ ?_
  refine region_ ?_
  refine wl_valE (v := .int .i64 (0 : Int)) rfl (rf_assign rfl) rfl ?_
  refine wl_nil ?_
  refine thn ?_
  refine seq_ ?_
  obtain ⟨y, _, H1⟩ := lineH.open_ H0 0 rfl rfl
  refine region_ ?_
  refine wl_valE (v := .pointer (some ⟨p, 0, none⟩)) rfl (rf_move rfl) rfl ?_
  refine wl_valE (v := .pointer (some ⟨p, 0, none⟩)) rfl (rf_nilCheckP rfl rfl) rfl ?_
  refine wl_valE (v := .pointer (some ⟨p, 1, none⟩)) rfl (rf_fieldAddr Try.underlying59 rfl ti3 rfl rfl) rfl ?_
  refine wl_valE (v := .int .i64 steps) rfl (rf_load Try.underlying3 rfl rfl rfl ((H1.blk 0 rfl).cell rfl)) rfl ?_
  refine wl_valE (v := .int .i64 steps) rfl (rf_assign rfl) rfl ?_
  refine wl_nil ?_
  refine thn ?_
  refine seq_ ?_
  refine seq_ ?_
  have H2 := lineH.close_ (p := p) (ps := ps) (ts := ts) (steps := steps) H1 [0, 2] y trivial rfl rfl
  dsimp only [putsH, setH, List.cons_append, List.nil_append] at H2
  refine region_ ?_
  refine wl_valE (v := .slice a n c) rfl (rf_move rfl) rfl ?_
  refine wl_valE (v := .int .i64 ((n : Nat) : Int)) rfl (rf_len_slice Try.underlying23 rfl rfl) rfl ?_
  refine wl_valE (v := .int .i64 (0 : Int)) rfl (rf_move rfl) rfl ?_
  refine wl_nil ?_
  refine thn ?_
  refine block_ ?_
  refine loop_ (fun qk_ qf_ qw_ => ∃ (g : Nat → Value) (k : Nat) (s : Int) (ds : List Cho), qf_ = upds g [(0, .pointer (some ⟨p, 0, none⟩)), (5, .int .i64 steps), (12, .slice a n c), (13, .int .i64 ((n : Nat) : Int)), (14, .int .i64 ((k : Nat) : Int))] ∧ qk_ = n - k ∧ (k ≤ n ∧ WfC ds ts ∧ 0 ≤ s ∧ s + ((totL ds : Nat) : Int) = steps + ((totL cs : Nat) : Int)) ∧ (playC ts ds (l.drop k) = playC ts cs l ∧ s + ((playN ts ds (l.drop k) : Nat) : Int) = steps + ((playN ts cs l : Nat) : Int)) ∧ St w0 S0 [rdH encI 1 a n c l] qw_ [lineH p ps ts s, ChH ps ds]) (n - 0) ?_ ?_
  · refine ⟨_, 0, steps, cs, upds_self ⟨rfl, rfl, rfl, rfl, rfl, trivial⟩, rfl, ⟨Nat.zero_le _, hwf, hst.1, rfl⟩, ⟨rfl, rfl⟩, H2.pick' [0, 1] rfl rfl⟩
  · rintro lk0 _ wl0 ⟨gl0, k, s, ds, rfl, hlk0, ⟨hk, hwf2, hs0, hs1⟩, ⟨hp1, hp2⟩, HL0⟩
    refine seq_ ?_
    refine region_ ?_
    refine wl_valE (v := .bool (decide (((k : Nat) : Int) < ((n : Nat) : Int)))) rfl (rf_lss rfl rfl rfl rfl) rfl ?_
    refine wl_nil ?_
    refine thn ?_
    refine seq_ ?_
    refine cond_ (t := decide (((k : Nat) : Int) < ((n : Nat) : Int))) rfl rfl (fun c15 => ?_) (fun c15 => ?_)
    · have c15p := of_decide_eq_true c15
      refine skip_ ?_
      refine thn ?_
      refine seq_ ?_
      refine block_ ?_
      refine seq_ ?_
      refine region_ ?_
      refine wl_valE (v := .pointer (some ⟨ab a, ao a + k * 1, none⟩)) rfl (rf_indexAddrH Try.underlying23 ti3 rfl rfl rfl rfl (by omega) (by omega) (HL0.rdR 0 Le.rfl)) rfl ?_
      have hn4 := rd_len (HL0.rdR 0 Le.rfl)
      obtain ⟨x3, hx3⟩ : ∃ q_, l[k]? = some q_ := ⟨_, List.getElem?_eq_getElem (by omega)⟩
      refine wl_valE (v := .int .i64 x3) rfl (rf_load Try.underlying3 rfl rfl rfl (rd_el (HL0.rdR 0 Le.rfl) hx3 0 _ rfl)) rfl ?_
      refine wl_valE (v := .int .i64 x3) rfl (rf_assign rfl) rfl ?_
      refine wl_nil ?_
      refine thn ?_
      refine region_ ?_
      refine wl_valE (v := .pointer (some ⟨p, 0, none⟩)) rfl (rf_move rfl) rfl ?_
      refine wl_valE (v := .int .i64 x3) rfl (rf_move rfl) rfl ?_
      refine wl_tr HL0 rfl [0, 1] (take_tr hwf2 ⟨hs0, by omega⟩ x3) rfl .nil (rf_call Try.call14 rfl rfl) rfl ?_
      rintro _ w5 _ ⟨rfl, rfl⟩ H5
      refine wl_nil ?_
      refine bln ?_
      refine thn ?_
      refine region_ ?_
      refine wl_valE (v := .int .i64 ((k + 1 : Nat) : Int)) rfl (rf_add rfl rfl rfl rfl (IntWalk.i64_in _ (by omega))) rfl ?_
      refine wl_valE (v := .int .i64 ((k + 1 : Nat) : Int)) rfl (rf_move rfl) rfl ?_
      refine wl_nil ?_
      refine thn ?_
      have htt := takeC_tot hwf2 x3
      refine ⟨n - (k + 1), _, rfl, (by omega), _, k + 1, s + ((bn (takeI ds ts x3).isSome : Nat) : Int), takeC ds ts x3, upds_self ⟨rfl, rfl, rfl, rfl, rfl, trivial⟩, rfl, ⟨by omega, hwf2.take _, by omega, by omega⟩, by rw [drop_at hx3] at hp1 hp2; simp only [playC, playN] at hp1 hp2; exact ⟨hp1, by omega⟩, H5.pick' [0, 1] rfl rfl⟩
    · have c15p := of_decide_eq_false c15
      refine exit_ ?_
      refine thx (thx (blx ?_))
      refine thn ?_
      refine seq_ ?_
      obtain ⟨y, _, H6⟩ := lineH.open_ HL0 0 rfl rfl
      rw [drop_all (by omega)] at hp1 hp2
      simp only [playC, playN] at hp1 hp2
      subst hp1
      have hp3 := playN_le (l := l) hwf
      have hs3 : s = steps + ((playN ts cs l : Nat) : Int) := by omega
      refine region_ ?_
      refine wl_valE (v := .pointer (some ⟨p, 0, none⟩)) rfl (rf_move rfl) rfl ?_
      refine wl_valE (v := .pointer (some ⟨p, 0, none⟩)) rfl (rf_nilCheckP rfl rfl) rfl ?_
      refine wl_valE (v := .pointer (some ⟨p, 1, none⟩)) rfl (rf_fieldAddr Try.underlying59 rfl ti3 rfl rfl) rfl ?_
      refine wl_valE (v := .int .i64 s) rfl (rf_load Try.underlying3 rfl rfl rfl ((H6.blk 0 rfl).cell rfl)) rfl ?_
      refine wl_valE (v := .int .i64 steps) rfl (rf_move rfl) rfl ?_
      refine wl_valE (v := .int .i64 ((playN ts cs l : Nat) : Int)) rfl (rf_sub rfl rfl rfl rfl (by rw [IntWalk.i64_in _ (by omega)]; omega)) rfl ?_
      refine wl_valE (v := .int .i64 ((playN ts cs l : Nat) : Int)) rfl (rf_assign rfl) rfl ?_
      refine wl_nil ?_
      refine thn ?_
      refine ret_ ?_
      refine fin1 (v := .int .i64 ((playN ts cs l : Nat) : Int)) Try.results26 rfl rfl ?_
      have H7 := lineH.close_ (p := p) (ps := ps) (ts := ts) (steps := s) H6 [0, 2] y trivial rfl rfl
      dsimp only [putsH, setH, List.cons_append, List.nil_append] at H7
      subst hs3
      exact ⟨_, ⟨rfl, rfl⟩, H7.pick' [0, 1] rfl rfl⟩
theorem drain_tr {p : Nat} {ps : List Nat} {ts : List (Option Nat)} {steps : Int} {cs : List Cho} (hwf : WfC cs ts) (hst : 0 ≤ steps ∧ steps + ((totL cs : Nat) : Int) ≤ 1152921504606846976) (most : Int) : Tr Try.prog 18 [.pointer (some ⟨p, 0, none⟩), .int .i64 most] [] [lineH p ps ts steps, ChH ps cs] (fun v m => v = .int .i64 (((drainS ts (totL cs + 1) cs most).2 : Nat) : Int) ∧ m = [lineH p ps ts (steps + (((drainS ts (totL cs + 1) cs most).2 : Nat) : Int)), ChH ps (drainS ts (totL cs + 1) cs most).1]) := by
  intro w0 S0 H0
  refine enterR Try.func18 rfl Try.ntmps18 rfl ?_
  intro g0
  refine seq_ ?_
  refine region_ ?_
  refine wl_valE (v := .int .i64 (0 : Int)) rfl (rf_assign rfl) rfl ?_
  refine wl_nil ?_
  refine thn ?_
  refine seq_ ?_
  refine region_ ?_
  refine wl_valE (v := .int .i64 (0 : Int)) rfl (rf_assign rfl) rfl ?_
  refine wl_nil ?_
  refine thn ?_
  refine seq_ ?_
  refine block_ ?_
  refine loop_ (fun qk_ qf_ qw_ => ∃ (g : Nat → Value) (k : Nat) (s : Int) (ds : List Cho), qf_ = upds g [(0, .pointer (some ⟨p, 0, none⟩)), (1, .int .i64 most), (5, .int .i64 ((k : Nat) : Int))] ∧ qk_ = totL ds ∧ (WfC ds ts ∧ 0 ≤ s ∧ s + ((totL ds : Nat) : Int) = steps + ((totL cs : Nat) : Int) ∧ s = steps + ((k : Nat) : Int)) ∧ ((drainS ts (totL ds + 1) ds (most - ((k : Nat) : Int))).1 = (drainS ts (totL cs + 1) cs most).1 ∧ k + (drainS ts (totL ds + 1) ds (most - ((k : Nat) : Int))).2 = (drainS ts (totL cs + 1) cs most).2) ∧ St w0 S0 [] qw_ [lineH p ps ts s, ChH ps ds]) (totL cs) ?_ ?_
  · refine ⟨_, 0, steps, cs, upds_self ⟨rfl, rfl, rfl, trivial⟩, rfl, ⟨hwf, hst.1, rfl, by omega⟩, (by simp), H0.pick' [0, 1] rfl rfl⟩
  · rintro lk0 _ wl0 ⟨gl0, k, s, ds, rfl, hlk0, ⟨hwf2, hs0, hs1, hsk⟩, ⟨hp1, hp2⟩, HL0⟩
    refine seq_ ?_
    refine seq_ ?_
    refine region_ ?_
    refine wl_valE (v := .int .i64 ((k : Nat) : Int)) rfl (rf_move rfl) rfl ?_
    refine wl_valE (v := .int .i64 most) rfl (rf_move rfl) rfl ?_
    refine wl_valE (v := .bool (decide (((k : Nat) : Int) < most))) rfl (rf_lss rfl rfl rfl rfl) rfl ?_
    refine wl_valE (v := .bool (decide (((k : Nat) : Int) < most))) rfl (rf_move rfl) rfl ?_
    refine wl_split (decide (((k : Nat) : Int) < most)) (fun u2_3 => ?_) (fun u2_3 => ?_)
    · have u2_3p := of_decide_eq_true u2_3
      refine wl_guardT rfl rfl rfl u2_3 ?_
      refine wl_valE (v := .pointer (some ⟨p, 0, none⟩)) rfl (rf_move rfl) rfl ?_
      refine wl_guardT rfl rfl rfl u2_3 ?_
      refine wl_tr HL0 rfl [0, 1] (take_tr hwf2 ⟨hs0, by omega⟩ (0 : Int)) rfl .nil (rf_call Try.call14 rfl rfl) rfl ?_
      rintro _ w1 _ ⟨rfl, rfl⟩ H1
      refine wl_guardT rfl rfl rfl u2_3 ?_
      refine wl_valE (v := .bool (decide ((0 : Int) ≤ takeV ds ts (0 : Int)))) rfl (rf_geq rfl rfl rfl rfl) rfl ?_
      refine wl_valE (v := .bool (decide ((0 : Int) ≤ takeV ds ts (0 : Int)))) rfl (rf_pickT rfl rfl rfl u2_3) rfl ?_
      refine wl_nil ?_
      refine thn ?_
      refine cond_ (t := decide ((0 : Int) ≤ takeV ds ts (0 : Int))) rfl rfl (fun c13 => ?_) (fun c13 => ?_)
      · have c13p := of_decide_eq_true c13
        obtain ⟨i, hti⟩ := takeV_pos c13p
        refine skip_ ?_
        refine thn ?_
        refine block_ ?_
        refine region_ ?_
        refine wl_valE (v := .int .i64 ((k : Nat) : Int)) rfl (rf_move rfl) rfl ?_
        refine wl_valE (v := .int .i64 ((k + 1 : Nat) : Int)) rfl (rf_add rfl rfl rfl rfl (IntWalk.i64_in _ (by omega))) rfl ?_
        refine wl_valE (v := .int .i64 ((k + 1 : Nat) : Int)) rfl (rf_assign rfl) rfl ?_
        refine wl_nil ?_
        refine bln ?_
        refine thn ?_
        have e9 : most - ((k + 1 : Nat) : Int) = most - ((k : Nat) : Int) - 1 := by omega
        have htt := takeC_tot hwf2 (0 : Int)
        have hb1 : bn (takeI ds ts (0 : Int)).isSome = 1 := by rw [hti]; rfl
        rw [drain_some hwf2 (by omega) hti] at hp1 hp2
        refine ⟨totL (takeC ds ts (0 : Int)), _, rfl, (by omega), _, k + 1, (s + ((bn (takeI ds ts (0 : Int)).isSome : Nat) : Int)), takeC ds ts (0 : Int), upds_self ⟨rfl, rfl, rfl, trivial⟩, rfl, ⟨hwf2.take _, by omega, by omega, by omega⟩, ⟨by rw [e9]; exact hp1, by rw [e9, ← hp2]; simp only []; omega⟩, H1.pick' [0, 1] rfl rfl⟩
      · have c13p := of_decide_eq_false c13
        have hti := takeV_neg c13p
        have hb1 : bn (takeI ds ts (0 : Int)).isSome = 0 := by rw [hti]; rfl
        have hb2 : takeC ds ts (0 : Int) = ds := by unfold takeC; rw [hti]
        rw [hb1, hb2, show s + ((0 : Nat) : Int) = s from Int.add_zero _] at H1
        rw [drain_none (.inr hti)] at hp1 hp2
        rw [Nat.add_zero] at hp2
        refine exit_ ?_
        refine thx (thx (blx ?_))
        refine thn ?_
        refine seq_ ?_
        refine region_ ?_
        refine wl_valE (v := .int .i64 ((k : Nat) : Int)) rfl (rf_move rfl) rfl ?_
        refine wl_valE (v := .int .i64 ((k : Nat) : Int)) rfl (rf_assign rfl) rfl ?_
        refine wl_nil ?_
        refine thn ?_
        refine ret_ ?_
        refine fin1 (v := .int .i64 ((k : Nat) : Int)) Try.results18 rfl rfl ?_
        subst hsk
        rw [← hp1, ← hp2]
        exact ⟨_, ⟨rfl, rfl⟩, H1.pick' [0, 1] rfl rfl⟩
    · have u2_3p := of_decide_eq_false u2_3
      refine wl_guardF rfl rfl rfl u2_3 ?_
      refine wl_guardF rfl rfl rfl u2_3 ?_
      refine wl_guardF rfl rfl rfl u2_3 ?_
      refine wl_valE (v := .bool false) rfl (rf_pickF rfl rfl rfl u2_3) rfl ?_
      refine wl_nil ?_
      refine thn ?_
      refine condF rfl rfl ?_
      refine exit_ ?_
      refine thx (thx (blx ?_))
      refine thn ?_
      refine seq_ ?_
      refine region_ ?_
      refine wl_valE (v := .int .i64 ((k : Nat) : Int)) rfl (rf_move rfl) rfl ?_
      refine wl_valE (v := .int .i64 ((k : Nat) : Int)) rfl (rf_assign rfl) rfl ?_
      refine wl_nil ?_
      refine thn ?_
      refine ret_ ?_
      refine fin1 (v := .int .i64 ((k : Nat) : Int)) Try.results18 rfl rfl ?_
      rw [drain_none (.inl (by omega))] at hp1 hp2
      rw [Nat.add_zero] at hp2
      subst hsk
      rw [← hp1, ← hp2]
      exact ⟨_, ⟨rfl, rfl⟩, HL0.pick' [0, 1] rfl rfl⟩
end Go.Proofs.Ytiidihgimcebgaa.W
