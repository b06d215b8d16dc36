import Derived.Test.YtbmhoopgdhajeaaB
import Derived.KernelRfl
namespace Go.Proofs.Ytbmhoopgdhajeaa.W
open Go Go.Wk
set_option linter.unusedVariables false

theorem same_el {α : Type} {la lb : List α} {i : Nat} {x y : α} (e : la = lb) (hx : la[i]? = some x) (hy : lb[i]? = some y) : x = y := by
  subst e; rw [hx] at hy; exact Option.some.inj hy
theorem same_all {α : Type} {la lb : List α} {i : Nat} (hl : la.length = lb.length) (hi : la.length ≤ i) (h : ∀ j x y, j < i → la[j]? = some x → lb[j]? = some y → x = y) : la = lb := by
  apply List.ext_getElem hl
  intro j h1 h2
  exact h j _ _ (by omega) (List.getElem?_eq_getElem h1) (List.getElem?_eq_getElem h2)
theorem sameBools_ret (va vb : Value) (b : Bool) (F G : Nat → Prop) (la lb : List Bool) (w : World) (ha : Rd encB 1 w F va la) (hb : Rd encB 1 w G vb lb) (h63 : la.length ≤ 9223372036854775807) (hbb : b = decide (la = lb)) :
    Ret Try.prog 6 [va, vb] w fun v w' => v = .bool b ∧ Kp none_ w w' := by
  obtain ⟨aa, acap, rfl, hacap⟩ := ha.form
  obtain ⟨ab, bcap, rfl, hbcap⟩ := hb.form
  subst hbb
  refine enterR Try.func6 rfl Try.ntmps6 rfl ?_
  intro g0
  refine seq_ ?_
  refine region_ ?_
  refine wl_valE (v := .bool false) rfl (rf_assign rfl) rfl ?_
  refine wl_nil ?_
  refine thn ?_
  refine seq_ ?_
  refine seq_ ?_
  refine region_ ?_
  refine wl_valE (v := .slice aa la.length acap) rfl (rf_move rfl) rfl ?_
  refine wl_valE (v := .int .i64 ((la.length : Nat) : Int)) rfl (rf_len_slice Try.underlying28 rfl rfl) rfl ?_
  refine wl_valE (v := .slice ab lb.length bcap) rfl (rf_move rfl) rfl ?_
  refine wl_valE (v := .int .i64 ((lb.length : Nat) : Int)) rfl (rf_len_slice Try.underlying28 rfl rfl) rfl ?_
  refine wl_valE (v := .bool (decide (((la.length : Nat) : Int) ≠ ((lb.length : Nat) : Int)))) rfl (rf_neq rfl rfl rfl rfl) rfl ?_
  refine wl_nil ?_
  refine thn ?_
  refine cond_ (t := decide (((la.length : Nat) : Int) ≠ ((lb.length : Nat) : Int))) rfl rfl (fun c10 => ?_) (fun c10 => ?_)
  · have c10p := of_decide_eq_true c10
    refine seq_ ?_
    refine region_ ?_
    refine wl_valE (v := .bool false) rfl (rf_assign rfl) rfl ?_
    refine wl_nil ?_
    refine thn ?_
    refine ret_ ?_
    refine thr ?_
    refine fin1 (v := .bool false) Try.results6 rfl rfl ?_
    exact ⟨congrArg Value.bool (decide_eq_false (fun e => by rw [e] at c10p; exact c10p rfl)).symm, Kp.refl _⟩
  · have c10p := of_decide_eq_false c10
    have hlen : la.length = lb.length := by omega
    refine skip_ ?_
    refine thn ?_
    refine seq_ ?_
    refine seq_ ?_
    refine region_ ?_
    refine wl_valE (v := .int .i64 ((0 : Nat) : Int)) rfl (rf_assign rfl) rfl ?_
    refine wl_nil ?_
    refine thn ?_
    refine block_ ?_
    refine loop_ (fun lk lf lw => ∃ (g : Nat → Value) (i : Nat), lf = upds g [(0, .slice aa la.length acap), (1, .slice ab lb.length bcap), (5, .int .i64 ((i : Nat) : Int))] ∧ i + lk = la.length ∧ (∀ j x y, j < i → la[j]? = some x → lb[j]? = some y → x = y) ∧ Kp (none_) w lw) (la.length) ?_ ?_
    · refine ⟨_, 0, upds_self ⟨rfl, rfl, rfl, trivial⟩, ?_⟩
      exact ⟨by omega, fun j x y h => by omega, Kp.refl _⟩
    · intro lk0 lf0 wl hI0
      obtain ⟨gl0, i, rfl, hik, hall, hkl0⟩ := hI0
      have ha_wl := ha.keep hkl0
      have hb_wl := hb.keep hkl0
      have hsl := hkl0.size
      refine seq_ ?_
      refine seq_ ?_
      refine region_ ?_
      refine wl_valE (v := .int .i64 ((i : Nat) : Int)) rfl (rf_move rfl) rfl ?_
      refine wl_valE (v := .slice aa la.length acap) rfl (rf_move rfl) rfl ?_
      refine wl_valE (v := .int .i64 ((la.length : Nat) : Int)) rfl (rf_len_slice Try.underlying28 rfl rfl) rfl ?_
      refine wl_valE (v := .bool (decide (((i : Nat) : Int) < ((la.length : Nat) : Int)))) rfl (rf_lss rfl rfl rfl rfl) rfl ?_
      refine wl_nil ?_
      refine thn ?_
      refine cond_ (t := decide (((i : Nat) : Int) < ((la.length : Nat) : Int))) rfl rfl (fun c14 => ?_) (fun c14 => ?_)
      · have c14p := of_decide_eq_true c14
        obtain ⟨x, hx⟩ : ∃ x, la[i]? = some x := ⟨_, List.getElem?_eq_getElem (by omega)⟩
        obtain ⟨y, hy⟩ : ∃ y, lb[i]? = some y := ⟨_, List.getElem?_eq_getElem (by omega)⟩
        obtain ⟨ba, oa, capa, ea, hcapa, hFa, hlta, hca⟩ := ha_wl.get (by omega)
        obtain ⟨bb, ob, capb, eb, hcapb, hFb, hltb, hcb⟩ := hb_wl.get (by omega)
        cases ea; cases eb
        refine skip_ ?_
        refine thn ?_
        refine seq_ ?_
        refine block_ ?_
        refine seq_ ?_
        refine region_q mixedP (by kernel_rfl) ?_
        refine qt_valE (v := .slice (some ⟨ba, oa, none⟩) la.length acap) rfl (fun wq hq => rf_move rfl) rfl ?_
        refine qt_valE (v := .int .i64 ((i : Nat) : Int)) rfl (fun wq hq => rf_move rfl) rfl ?_
        refine qt_valE (v := .pointer (some ⟨ba, oa + i, none⟩)) rfl (fun wq hq => rf_indexAddr Try.underlying28 ti4 rfl rfl rfl rfl (by omega) (by omega)) (by simp) ?_
        refine qt_valE (v := .bool x) rfl (fun wq hq => rf_load Try.underlying4 rfl rfl rfl (hq.cell (el1 (hca i x hx 0 _ rfl)) (fun h => h))) rfl ?_
        refine qt_valE (v := .slice (some ⟨bb, ob, none⟩) lb.length bcap) rfl (fun wq hq => rf_move rfl) rfl ?_
        refine qt_valE (v := .int .i64 ((i : Nat) : Int)) rfl (fun wq hq => rf_move rfl) rfl ?_
        refine qt_valE (v := .pointer (some ⟨bb, ob + i, none⟩)) rfl (fun wq hq => rf_indexAddr Try.underlying28 ti4 rfl rfl rfl rfl (by omega) (by omega)) (by simp) ?_
        refine qt_valE (v := .bool y) rfl (fun wq hq => rf_load Try.underlying4 rfl rfl rfl (hq.cell (el1 (hcb i y hy 0 _ rfl)) (fun h => h))) rfl ?_
        refine qt_valE (v := .bool (decide (x ≠ y))) rfl (fun wq hq => rf_neqB Try.underlying4 rfl rfl rfl rfl) rfl ?_
        refine qt_nil ?_
        intro w1 hk1
        have ha_w1 := ha_wl.keep hk1
        have hb_w1 := hb_wl.keep hk1
        have hkl0_w1 := hkl0.comp hk1 (fun _ _ e => e.elim)
        have hs1 := hk1.size
        refine thn ?_
        refine cond_ (t := decide (x ≠ y)) rfl rfl (fun c25 => ?_) (fun c25 => ?_)
        · have c25p := of_decide_eq_true c25
          have c25e : x ≠ y := c25p
          refine seq_ ?_
          refine region_ ?_
          refine wl_valE (v := .bool false) rfl (rf_assign rfl) rfl ?_
          refine wl_nil ?_
          refine thn ?_
          refine ret_ ?_
          refine blr (thr (thr (blr (thr ?_))))
          refine fin1 (v := .bool false) Try.results6 rfl rfl ?_
          exact ⟨congrArg Value.bool (decide_eq_false (fun e => c25e (same_el e hx hy))).symm, hkl0.trans hk1⟩
        · have c25p := of_decide_eq_false c25
          have c25e : x = y := Decidable.byContradiction c25p
          refine skip_ ?_
          refine bln ?_
          refine thn ?_
          refine region_ ?_
          refine wl_valE (v := .int .i64 ((i : Nat) : Int)) rfl (rf_move rfl) rfl ?_
          refine wl_valE (v := .int .i64 ((i + 1 : Nat) : Int)) rfl (rf_add rfl rfl rfl rfl (IntWalk.i64_in _ (by omega))) rfl ?_
          refine wl_valE (v := .int .i64 ((i + 1 : Nat) : Int)) rfl (rf_assign rfl) rfl ?_
          refine wl_nil ?_
          refine thn ?_
          refine ⟨lk0 - 1, _, rfl, (by omega), _, i + 1, upds_self ⟨rfl, rfl, rfl, trivial⟩, ?_⟩
          refine ⟨by omega, ?_, hkl0.trans hk1⟩
          intro j x' y' hj hx' hy'
          rcases Nat.lt_or_ge j i with h | h
          · exact hall j x' y' h hx' hy'
          · obtain rfl : j = i := by omega
            rw [hx] at hx'; rw [hy] at hy'; cases hx'; cases hy'; exact c25e
      · have c14p := of_decide_eq_false c14
        refine exit_ ?_
        refine thx (thx (blx ?_))
        refine thn ?_
        refine seq_ ?_
        refine region_ ?_
        refine wl_valE (v := .bool true) rfl (rf_assign rfl) rfl ?_
        refine wl_nil ?_
        refine thn ?_
        refine ret_ ?_
        refine fin1 (v := .bool true) Try.results6 rfl rfl ?_
        exact ⟨congrArg Value.bool (decide_eq_true (same_all hlen (by omega) hall)).symm, hkl0⟩
theorem sameChain_ret (va vb : Value) (b : Bool) (F G : Nat → Prop) (la lb : List Ver) (w : World) (ha : Rd encVer 5 w F va la) (hb : Rd encVer 5 w G vb lb) (h63 : la.length ≤ 9223372036854775807) (hbb : b = decide (la = lb)) :
    Ret Try.prog 7 [va, vb] w fun v w' => v = .bool b ∧ Kp none_ w w' := by
  obtain ⟨aa, acap, rfl, hacap⟩ := ha.form
  obtain ⟨ab, bcap, rfl, hbcap⟩ := hb.form
  subst hbb
  refine enterR Try.func7 rfl Try.ntmps7 rfl ?_
  intro g0
  refine seq_ ?_
  refine region_ ?_
  refine wl_valE (v := .bool false) rfl (rf_assign rfl) rfl ?_
  refine wl_nil ?_
  refine thn ?_
  refine seq_ ?_
  refine seq_ ?_
  refine region_ ?_
  refine wl_valE (v := .slice aa la.length acap) rfl (rf_move rfl) rfl ?_
  refine wl_valE (v := .int .i64 ((la.length : Nat) : Int)) rfl (rf_len_slice Try.underlying22 rfl rfl) rfl ?_
  refine wl_valE (v := .slice ab lb.length bcap) rfl (rf_move rfl) rfl ?_
  refine wl_valE (v := .int .i64 ((lb.length : Nat) : Int)) rfl (rf_len_slice Try.underlying22 rfl rfl) rfl ?_
  refine wl_valE (v := .bool (decide (((la.length : Nat) : Int) ≠ ((lb.length : Nat) : Int)))) rfl (rf_neq rfl rfl rfl rfl) rfl ?_
  refine wl_nil ?_
  refine thn ?_
  refine cond_ (t := decide (((la.length : Nat) : Int) ≠ ((lb.length : Nat) : Int))) rfl rfl (fun c10 => ?_) (fun c10 => ?_)
  · have c10p := of_decide_eq_true c10
    refine seq_ ?_
    refine region_ ?_
    refine wl_valE (v := .bool false) rfl (rf_assign rfl) rfl ?_
    refine wl_nil ?_
    refine thn ?_
    refine ret_ ?_
    refine thr ?_
    refine fin1 (v := .bool false) Try.results7 rfl rfl ?_
    exact ⟨congrArg Value.bool (decide_eq_false (fun e => by rw [e] at c10p; exact c10p rfl)).symm, Kp.refl _⟩
  · have c10p := of_decide_eq_false c10
    have hlen : la.length = lb.length := by omega
    refine skip_ ?_
    refine thn ?_
    refine seq_ ?_
    refine seq_ ?_
    refine region_ ?_
    refine wl_valE (v := .int .i64 ((0 : Nat) : Int)) rfl (rf_assign rfl) rfl ?_
    refine wl_nil ?_
    refine thn ?_
    refine block_ ?_
    refine loop_ (fun lk lf lw => ∃ (g : Nat → Value) (i : Nat), lf = upds g [(0, .slice aa la.length acap), (1, .slice ab lb.length bcap), (5, .int .i64 ((i : Nat) : Int))] ∧ i + lk = la.length ∧ (∀ j x y, j < i → la[j]? = some x → lb[j]? = some y → x = y) ∧ Kp (none_) w lw) (la.length) ?_ ?_
    · refine ⟨_, 0, upds_self ⟨rfl, rfl, rfl, trivial⟩, ?_⟩
      exact ⟨by omega, fun j x y h => by omega, Kp.refl _⟩
    · intro lk0 lf0 wl hI0
      obtain ⟨gl0, i, rfl, hik, hall, hkl0⟩ := hI0
      have ha_wl := ha.keep hkl0
      have hb_wl := hb.keep hkl0
      have hsl := hkl0.size
      refine seq_ ?_
      refine seq_ ?_
      refine region_ ?_
      refine wl_valE (v := .int .i64 ((i : Nat) : Int)) rfl (rf_move rfl) rfl ?_
      refine wl_valE (v := .slice aa la.length acap) rfl (rf_move rfl) rfl ?_
      refine wl_valE (v := .int .i64 ((la.length : Nat) : Int)) rfl (rf_len_slice Try.underlying22 rfl rfl) rfl ?_
      refine wl_valE (v := .bool (decide (((i : Nat) : Int) < ((la.length : Nat) : Int)))) rfl (rf_lss rfl rfl rfl rfl) rfl ?_
      refine wl_nil ?_
      refine thn ?_
      refine cond_ (t := decide (((i : Nat) : Int) < ((la.length : Nat) : Int))) rfl rfl (fun c14 => ?_) (fun c14 => ?_)
      · have c14p := of_decide_eq_true c14
        obtain ⟨x, hx⟩ : ∃ x, la[i]? = some x := ⟨_, List.getElem?_eq_getElem (by omega)⟩
        obtain ⟨y, hy⟩ : ∃ y, lb[i]? = some y := ⟨_, List.getElem?_eq_getElem (by omega)⟩
        obtain ⟨ba, oa, capa, ea, hcapa, hFa, hlta, hca⟩ := ha_wl.get (by omega)
        obtain ⟨bb, ob, capb, eb, hcapb, hFb, hltb, hcb⟩ := hb_wl.get (by omega)
        cases ea; cases eb
        refine skip_ ?_
        refine thn ?_
        refine seq_ ?_
        refine block_ ?_
        refine seq_ ?_
        refine region_q mixedP (by kernel_rfl) ?_
        refine qt_valE (v := .slice (some ⟨ba, oa, none⟩) la.length acap) rfl (fun wq hq => rf_move rfl) rfl ?_
        refine qt_valE (v := .int .i64 ((i : Nat) : Int)) rfl (fun wq hq => rf_move rfl) rfl ?_
        refine qt_valE (v := .pointer (some ⟨ba, oa + i * 5, none⟩)) rfl (fun wq hq => rf_indexAddr Try.underlying22 ti27 rfl rfl rfl rfl (by omega) (by omega)) rfl ?_
        refine qt_valE (v := .agg #[.int .i64 x.batch, .int .i64 x.index, .bool x.filled, .bool x.cell.is_, .int .i64 x.cell.value]) rfl (fun wq hq => rf_loadAgg Try.underlying27 rfl ti27 rfl rfl (fun j u hj => hq.cell ((el_cells (hca i x hx)) j u hj) (fun h => h)) rfl) rfl ?_
        refine qt_valE (v := .slice (some ⟨bb, ob, none⟩) lb.length bcap) rfl (fun wq hq => rf_move rfl) rfl ?_
        refine qt_valE (v := .int .i64 ((i : Nat) : Int)) rfl (fun wq hq => rf_move rfl) rfl ?_
        refine qt_valE (v := .pointer (some ⟨bb, ob + i * 5, none⟩)) rfl (fun wq hq => rf_indexAddr Try.underlying22 ti27 rfl rfl rfl rfl (by omega) (by omega)) rfl ?_
        refine qt_valE (v := .agg #[.int .i64 y.batch, .int .i64 y.index, .bool y.filled, .bool y.cell.is_, .int .i64 y.cell.value]) rfl (fun wq hq => rf_loadAgg Try.underlying27 rfl ti27 rfl rfl (fun j u hj => hq.cell ((el_cells (hcb i y hy)) j u hj) (fun h => h)) rfl) rfl ?_
        refine qt_valE (v := .bool (!decide (x = y))) rfl (fun wq hq => rf_neqS (by kernel_rfl) (eqVer x y _) rfl rfl rfl rfl) rfl ?_
        refine qt_nil ?_
        intro w1 hk1
        have ha_w1 := ha_wl.keep hk1
        have hb_w1 := hb_wl.keep hk1
        have hkl0_w1 := hkl0.comp hk1 (fun _ _ e => e.elim)
        have hs1 := hk1.size
        refine thn ?_
        refine cond_ (t := !decide (x = y)) rfl rfl (fun c25 => ?_) (fun c25 => ?_)
        · have c25p := of_decide_eq_false (bnotT c25)
          have c25e : x ≠ y := c25p
          refine seq_ ?_
          refine region_ ?_
          refine wl_valE (v := .bool false) rfl (rf_assign rfl) rfl ?_
          refine wl_nil ?_
          refine thn ?_
          refine ret_ ?_
          refine blr (thr (thr (blr (thr ?_))))
          refine fin1 (v := .bool false) Try.results7 rfl rfl ?_
          exact ⟨congrArg Value.bool (decide_eq_false (fun e => c25e (same_el e hx hy))).symm, hkl0.trans hk1⟩
        · have c25p := of_decide_eq_true (bnotF c25)
          have c25e : x = y := c25p
          refine skip_ ?_
          refine bln ?_
          refine thn ?_
          refine region_ ?_
          refine wl_valE (v := .int .i64 ((i : Nat) : Int)) rfl (rf_move rfl) rfl ?_
          refine wl_valE (v := .int .i64 ((i + 1 : Nat) : Int)) rfl (rf_add rfl rfl rfl rfl (IntWalk.i64_in _ (by omega))) rfl ?_
          refine wl_valE (v := .int .i64 ((i + 1 : Nat) : Int)) rfl (rf_assign rfl) rfl ?_
          refine wl_nil ?_
          refine thn ?_
          refine ⟨lk0 - 1, _, rfl, (by omega), _, i + 1, upds_self ⟨rfl, rfl, rfl, trivial⟩, ?_⟩
          refine ⟨by omega, ?_, hkl0.trans hk1⟩
          intro j x' y' hj hx' hy'
          rcases Nat.lt_or_ge j i with h | h
          · exact hall j x' y' h hx' hy'
          · obtain rfl : j = i := by omega
            rw [hx] at hx'; rw [hy] at hy'; cases hx'; cases hy'; exact c25e
      · have c14p := of_decide_eq_false c14
        refine exit_ ?_
        refine thx (thx (blx ?_))
        refine thn ?_
        refine seq_ ?_
        refine region_ ?_
        refine wl_valE (v := .bool true) rfl (rf_assign rfl) rfl ?_
        refine wl_nil ?_
        refine thn ?_
        refine ret_ ?_
        refine fin1 (v := .bool true) Try.results7 rfl rfl ?_
        exact ⟨congrArg Value.bool (decide_eq_true (same_all hlen (by omega) hall)).symm, hkl0⟩
theorem sameInts_ret (va vb : Value) (b : Bool) (F G : Nat → Prop) (la lb : List Int) (w : World) (ha : Rd encI 1 w F va la) (hb : Rd encI 1 w G vb lb) (h63 : la.length ≤ 9223372036854775807) (hbb : b = decide (la = lb)) :
    Ret Try.prog 8 [va, vb] w fun v w' => v = .bool b ∧ Kp none_ w w' := by
  obtain ⟨aa, acap, rfl, hacap⟩ := ha.form
  obtain ⟨ab, bcap, rfl, hbcap⟩ := hb.form
  subst hbb
  refine enterR Try.func8 rfl Try.ntmps8 rfl ?_
  intro g0
  refine seq_ ?_
  refine region_ ?_
  refine wl_valE (v := .bool false) rfl (rf_assign rfl) rfl ?_
  refine wl_nil ?_
  refine thn ?_
  refine seq_ ?_
  refine seq_ ?_
  refine region_ ?_
  refine wl_valE (v := .slice aa la.length acap) rfl (rf_move rfl) rfl ?_
  refine wl_valE (v := .int .i64 ((la.length : Nat) : Int)) rfl (rf_len_slice Try.underlying23 rfl rfl) rfl ?_
  refine wl_valE (v := .slice ab lb.length bcap) rfl (rf_move rfl) rfl ?_
  refine wl_valE (v := .int .i64 ((lb.length : Nat) : Int)) rfl (rf_len_slice Try.underlying23 rfl rfl) rfl ?_
  refine wl_valE (v := .bool (decide (((la.length : Nat) : Int) ≠ ((lb.length : Nat) : Int)))) rfl (rf_neq rfl rfl rfl rfl) rfl ?_
  refine wl_nil ?_
  refine thn ?_
  refine cond_ (t := decide (((la.length : Nat) : Int) ≠ ((lb.length : Nat) : Int))) rfl rfl (fun c10 => ?_) (fun c10 => ?_)
  · have c10p := of_decide_eq_true c10
    refine seq_ ?_
    refine region_ ?_
    refine wl_valE (v := .bool false) rfl (rf_assign rfl) rfl ?_
    refine wl_nil ?_
    refine thn ?_
    refine ret_ ?_
    refine thr ?_
    refine fin1 (v := .bool false) Try.results8 rfl rfl ?_
    exact ⟨congrArg Value.bool (decide_eq_false (fun e => by rw [e] at c10p; exact c10p rfl)).symm, Kp.refl _⟩
  · have c10p := of_decide_eq_false c10
    have hlen : la.length = lb.length := by omega
    refine skip_ ?_
    refine thn ?_
    refine seq_ ?_
    refine seq_ ?_
    refine region_ ?_
    refine wl_valE (v := .int .i64 ((0 : Nat) : Int)) rfl (rf_assign rfl) rfl ?_
    refine wl_nil ?_
    refine thn ?_
    refine block_ ?_
    refine loop_ (fun lk lf lw => ∃ (g : Nat → Value) (i : Nat), lf = upds g [(0, .slice aa la.length acap), (1, .slice ab lb.length bcap), (5, .int .i64 ((i : Nat) : Int))] ∧ i + lk = la.length ∧ (∀ j x y, j < i → la[j]? = some x → lb[j]? = some y → x = y) ∧ Kp (none_) w lw) (la.length) ?_ ?_
    · refine ⟨_, 0, upds_self ⟨rfl, rfl, rfl, trivial⟩, ?_⟩
      exact ⟨by omega, fun j x y h => by omega, Kp.refl _⟩
    · intro lk0 lf0 wl hI0
      obtain ⟨gl0, i, rfl, hik, hall, hkl0⟩ := hI0
      have ha_wl := ha.keep hkl0
      have hb_wl := hb.keep hkl0
      have hsl := hkl0.size
      refine seq_ ?_
      refine seq_ ?_
      refine region_ ?_
      refine wl_valE (v := .int .i64 ((i : Nat) : Int)) rfl (rf_move rfl) rfl ?_
      refine wl_valE (v := .slice aa la.length acap) rfl (rf_move rfl) rfl ?_
      refine wl_valE (v := .int .i64 ((la.length : Nat) : Int)) rfl (rf_len_slice Try.underlying23 rfl rfl) rfl ?_
      refine wl_valE (v := .bool (decide (((i : Nat) : Int) < ((la.length : Nat) : Int)))) rfl (rf_lss rfl rfl rfl rfl) rfl ?_
      refine wl_nil ?_
      refine thn ?_
      refine cond_ (t := decide (((i : Nat) : Int) < ((la.length : Nat) : Int))) rfl rfl (fun c14 => ?_) (fun c14 => ?_)
      · have c14p := of_decide_eq_true c14
        obtain ⟨x, hx⟩ : ∃ x, la[i]? = some x := ⟨_, List.getElem?_eq_getElem (by omega)⟩
        obtain ⟨y, hy⟩ : ∃ y, lb[i]? = some y := ⟨_, List.getElem?_eq_getElem (by omega)⟩
        obtain ⟨ba, oa, capa, ea, hcapa, hFa, hlta, hca⟩ := ha_wl.get (by omega)
        obtain ⟨bb, ob, capb, eb, hcapb, hFb, hltb, hcb⟩ := hb_wl.get (by omega)
        cases ea; cases eb
        refine skip_ ?_
        refine thn ?_
        refine seq_ ?_
        refine block_ ?_
        refine seq_ ?_
        refine region_q mixedP (by kernel_rfl) ?_
        refine qt_valE (v := .slice (some ⟨ba, oa, none⟩) la.length acap) rfl (fun wq hq => rf_move rfl) rfl ?_
        refine qt_valE (v := .int .i64 ((i : Nat) : Int)) rfl (fun wq hq => rf_move rfl) rfl ?_
        refine qt_valE (v := .pointer (some ⟨ba, oa + i, none⟩)) rfl (fun wq hq => rf_indexAddr Try.underlying23 ti3 rfl rfl rfl rfl (by omega) (by omega)) (by simp) ?_
        refine qt_valE (v := .int .i64 x) rfl (fun wq hq => rf_load Try.underlying3 rfl rfl rfl (hq.cell (el1 (hca i x hx 0 _ rfl)) (fun h => h))) rfl ?_
        refine qt_valE (v := .slice (some ⟨bb, ob, none⟩) lb.length bcap) rfl (fun wq hq => rf_move rfl) rfl ?_
        refine qt_valE (v := .int .i64 ((i : Nat) : Int)) rfl (fun wq hq => rf_move rfl) rfl ?_
        refine qt_valE (v := .pointer (some ⟨bb, ob + i, none⟩)) rfl (fun wq hq => rf_indexAddr Try.underlying23 ti3 rfl rfl rfl rfl (by omega) (by omega)) (by simp) ?_
        refine qt_valE (v := .int .i64 y) rfl (fun wq hq => rf_load Try.underlying3 rfl rfl rfl (hq.cell (el1 (hcb i y hy 0 _ rfl)) (fun h => h))) rfl ?_
        refine qt_valE (v := .bool (decide (x ≠ y))) rfl (fun wq hq => rf_neq rfl rfl rfl rfl) rfl ?_
        refine qt_nil ?_
        intro w1 hk1
        have ha_w1 := ha_wl.keep hk1
        have hb_w1 := hb_wl.keep hk1
        have hkl0_w1 := hkl0.comp hk1 (fun _ _ e => e.elim)
        have hs1 := hk1.size
        refine thn ?_
        refine cond_ (t := decide (x ≠ y)) rfl rfl (fun c25 => ?_) (fun c25 => ?_)
        · have c25p := of_decide_eq_true c25
          have c25e : x ≠ y := c25p
          refine seq_ ?_
          refine region_ ?_
          refine wl_valE (v := .bool false) rfl (rf_assign rfl) rfl ?_
          refine wl_nil ?_
          refine thn ?_
          refine ret_ ?_
          refine blr (thr (thr (blr (thr ?_))))
          refine fin1 (v := .bool false) Try.results8 rfl rfl ?_
          exact ⟨congrArg Value.bool (decide_eq_false (fun e => c25e (same_el e hx hy))).symm, hkl0.trans hk1⟩
        · have c25p := of_decide_eq_false c25
          have c25e : x = y := Decidable.byContradiction c25p
          refine skip_ ?_
          refine bln ?_
          refine thn ?_
          refine region_ ?_
          refine wl_valE (v := .int .i64 ((i : Nat) : Int)) rfl (rf_move rfl) rfl ?_
          refine wl_valE (v := .int .i64 ((i + 1 : Nat) : Int)) rfl (rf_add rfl rfl rfl rfl (IntWalk.i64_in _ (by omega))) rfl ?_
          refine wl_valE (v := .int .i64 ((i + 1 : Nat) : Int)) rfl (rf_assign rfl) rfl ?_
          refine wl_nil ?_
          refine thn ?_
          refine ⟨lk0 - 1, _, rfl, (by omega), _, i + 1, upds_self ⟨rfl, rfl, rfl, trivial⟩, ?_⟩
          refine ⟨by omega, ?_, hkl0.trans hk1⟩
          intro j x' y' hj hx' hy'
          rcases Nat.lt_or_ge j i with h | h
          · exact hall j x' y' h hx' hy'
          · obtain rfl : j = i := by omega
            rw [hx] at hx'; rw [hy] at hy'; cases hx'; cases hy'; exact c25e
      · have c14p := of_decide_eq_false c14
        refine exit_ ?_
        refine thx (thx (blx ?_))
        refine thn ?_
        refine seq_ ?_
        refine region_ ?_
        refine wl_valE (v := .bool true) rfl (rf_assign rfl) rfl ?_
        refine wl_nil ?_
        refine thn ?_
        refine ret_ ?_
        refine fin1 (v := .bool true) Try.results8 rfl rfl ?_
        exact ⟨congrArg Value.bool (decide_eq_true (same_all hlen (by omega) hall)).symm, hkl0⟩
end Go.Proofs.Ytbmhoopgdhajeaa.W
