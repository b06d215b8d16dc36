import Derived.Test.YtbmhoopgdhajeaaB
import Derived.KernelRfl
namespace Go.Proofs.Ytbmhoopgdhajeaa.W
open Go Go.Wk
set_option linter.unusedVariables false

def keepF : List Ver → Int → List Bool → List Bool
  | v :: r, n, d :: ds => if v.batch ≤ n then false :: ds else d :: keepF r n ds
  | _, _, ds => ds
theorem keepF_hit : ∀ {chain : List Ver} {ds : List Bool} {n : Int} {i : Nat} {x : Ver}, ds.length = chain.length → (∀ j y, j < i → chain[j]? = some y → n < y.batch) → chain[i]? = some x → x.batch ≤ n → keepF chain n ds = ds.set i false
  | [], _, _, _, _, _, _, h, _ => by simp at h
  | v :: r, [], _, _, _, h, _, _, _ => by simp at h
  | v :: r, d :: ds, n, 0, x, _, _, h, hx => by
    have : v = x := by simpa using h
    subst this
    simp [keepF, hx]
  | v :: r, d :: ds, n, i + 1, x, hl, hno, h, hx => by
    have h0 : n < v.batch := hno 0 v (by omega) rfl
    simp only [keepF, if_neg (show ¬ v.batch ≤ n by omega), List.set_cons_succ]
    rw [keepF_hit (i := i) (x := x) (by simpa using hl) (fun j y hj hy => hno (j + 1) y (by omega) (by simpa using hy)) (by simpa using h) hx]
theorem keepF_miss : ∀ {chain : List Ver} {ds : List Bool} {n : Int}, ds.length = chain.length → (∀ (j : Nat) (x : Ver), chain[j]? = some x → n < x.batch) → keepF chain n ds = ds
  | [], _, _, _, _ => by simp [keepF]
  | v :: r, [], _, h, _ => by simp at h
  | v :: r, d :: ds, n, hl, hno => by
    have h0 := hno 0 v rfl
    simp only [keepF, if_neg (show ¬ v.batch ≤ n by omega)]
    rw [keepF_miss (by simpa using hl) (fun j y hy => hno (j + 1) y (by simpa using hy))]
theorem keepF_length : ∀ (chain : List Ver) (n : Int) (ds : List Bool), (keepF chain n ds).length = ds.length
  | [], _, _ => by simp [keepF]
  | v :: r, _, [] => by simp [keepF]
  | v :: r, n, d :: ds => by
    simp only [keepF]
    split
    · simp
    · simp [keepF_length r n ds]
def fillF (chain : List Ver) (floor : Int) (i : Nat) : List Bool := (chain.take i).map (fun v => decide (v.batch ≤ floor)) ++ List.replicate (chain.length - i) false
theorem fillF_zero (chain : List Ver) (floor : Int) : fillF chain floor 0 = List.replicate chain.length false := by simp [fillF]
theorem fillF_length (chain : List Ver) (floor : Int) (i : Nat) (h : i ≤ chain.length) : (fillF chain floor i).length = chain.length := by simp [fillF]; omega
theorem fillF_all (chain : List Ver) (floor : Int) : fillF chain floor chain.length = chain.map (fun v => decide (v.batch ≤ floor)) := by simp [fillF]
theorem fillF_succ {chain : List Ver} {floor : Int} {i : Nat} {x : Ver} (h : chain[i]? = some x) : (fillF chain floor i).set i (decide (x.batch ≤ floor)) = fillF chain floor (i + 1) := by
  have hi : i < chain.length := (List.getElem?_eq_some_iff.1 h).1
  unfold fillF
  rw [List.set_append_right _ _ (by simp; omega)]
  have e : i - (List.map (fun v => decide (v.batch ≤ floor)) (List.take i chain)).length = 0 := by simp; omega
  rw [e, show chain.length - i = (chain.length - (i + 1)) + 1 from by omega, List.replicate_succ, List.set_cons_zero]
  rw [List.take_add_one, h]
  simp
def dropsF (chain : List Ver) (floor : Int) (pins : List Int) : List Bool := pins.foldl (fun ds n => keepF chain n ds) (keepF chain floor (chain.map (fun v => decide (v.batch ≤ floor))))
def dropsTo (chain : List Ver) (floor : Int) (pins : List Int) (i : Nat) : List Bool := dropsF chain floor (pins.take i)
theorem dropsTo_length (chain : List Ver) (floor : Int) (pins : List Int) : (dropsF chain floor pins).length = chain.length := by
  unfold dropsF
  have : ∀ (pins : List Int) (ds : List Bool), (pins.foldl (fun ds n => keepF chain n ds) ds).length = ds.length := by
    intro pins
    induction pins with
    | nil => intro ds; rfl
    | cons n r ih => intro ds; rw [List.foldl_cons, ih, keepF_length]
  rw [this, keepF_length, List.length_map]
theorem dropsTo_succ {chain : List Ver} {floor : Int} {pins : List Int} {i : Nat} {n : Int} (h : pins[i]? = some n) : keepF chain n (dropsTo chain floor pins i) = dropsTo chain floor pins (i + 1) := by
  unfold dropsTo dropsF
  rw [List.take_add_one, h]
  simp
theorem keep_ret (n : Int) (bc bd bb : Nat) (vc : Value) (F : Nat → Prop) (chain : List Ver) (ds : List Bool) (cap : Nat) (w : World)
    (hl : ds.length = chain.length) (h63 : chain.length ≤ 9223372036854775807) (hc : Blk w bc (.cells #[vc] 22 (0, 0))) (hv : Rd encVer 5 w F vc chain) (hF : ∀ b, F b → b < w.heap.size ∧ b ≠ bb)
    (hd : Blk w bd (.cells #[.slice (some ⟨bb, 0, none⟩) ds.length cap] 28 (0, 0))) (hb : Blk w bb (.cells (ds.map Value.bool).toArray 4 (0, 0))) (hcb : bc ≠ bb) (hdb : bd ≠ bb) :
    Ret Try.prog 10 [.int .i64 n, .pointer (some ⟨bc, 0, none⟩), .pointer (some ⟨bd, 0, none⟩)] w fun v w' => v = .tuple #[] ∧ Kp (fun b => b = bb) w w' ∧ Blk w' bb (.cells ((keepF chain n ds).map Value.bool).toArray 4 (0, 0)) := by
  obtain ⟨va, vcap, rfl, hvcap⟩ := hv.form
  refine enterR Try.func10 rfl Try.ntmps10 rfl ?_
  intro g0
  refine seq_ ?_
  refine region_ ?_
  refine wl_valE (v := .slice va chain.length vcap) rfl (rf_load Try.underlying22 rfl rfl rfl (hc.cell rfl)) rfl ?_
  refine wl_valE (v := .int .i64 ((chain.length : Nat) : Int)) rfl (rf_len_slice Try.underlying22 rfl rfl) rfl ?_
  refine wl_valE (v := .int .i64 ((0 : Nat) : Int)) rfl (rf_move rfl) rfl ?_
  refine wl_nil ?_
  refine thn ?_
  refine block_ ?_
  refine loop_ (fun lk lf lw => ∃ (g : Nat → Value) (i : Nat), lf = upds g [(0, .int .i64 n), (2, .pointer (some ⟨bd, 0, none⟩)), (6, .slice va chain.length vcap), (7, .int .i64 ((chain.length : Nat) : Int)), (8, .int .i64 ((i : Nat) : Int))] ∧ i + lk = chain.length ∧ (∀ j x, j < i → chain[j]? = some x → n < x.batch) ∧ Kp (none_) w lw) (chain.length) ?_ ?_
  · refine ⟨_, 0, upds_self ⟨rfl, rfl, rfl, rfl, rfl, trivial⟩, ?_⟩
    exact ⟨by omega, fun j x h => by omega, Kp.refl _⟩
  · intro lk0 lf0 wl hI0
    obtain ⟨gl0, i, rfl, hik, hno, hkl0⟩ := hI0
    have hc_wl := hc.keep hkl0
    have hd_wl := hd.keep hkl0
    have hb_wl := hb.keep hkl0
    have hv_wl := hv.keep hkl0
    have hsl := hkl0.size
    refine seq_ ?_
    refine region_ ?_
    refine wl_valE (v := .bool (decide (((i : Nat) : Int) < ((chain.length : Nat) : Int)))) rfl (rf_lss rfl rfl rfl rfl) rfl ?_
    refine wl_nil ?_
    refine thn ?_
    refine seq_ ?_
    refine cond_ (t := decide (((i : Nat) : Int) < ((chain.length : Nat) : Int))) rfl rfl (fun c9 => ?_) (fun c9 => ?_)
    · have c9p := of_decide_eq_true c9
      obtain ⟨x, hx⟩ : ∃ x, chain[i]? = some x := ⟨_, List.getElem?_eq_getElem (by omega)⟩
      obtain ⟨b5, o5, cap5, e5, hcap5, hF5, hlt5, hcell5⟩ := hv_wl.get (by omega)
      cases e5
      refine skip_ ?_
      refine thn ?_
      refine seq_ ?_
      refine block_ ?_
      refine seq_ ?_
      refine region_ ?_
      refine wl_valE (v := .int .i64 ((i : Nat) : Int)) rfl (rf_move rfl) rfl ?_
      refine wl_valE (v := .pointer (some ⟨b5, o5 + i * 5, none⟩)) rfl (rf_indexAddr Try.underlying22 ti27 rfl rfl rfl rfl (by omega) (by omega)) rfl ?_
      refine wl_valE (v := .agg #[.int .i64 x.batch, .int .i64 x.index, .bool x.filled, .bool x.cell.is_, .int .i64 x.cell.value]) rfl (rf_loadAgg Try.underlying27 rfl ti27 rfl rfl (el_cells (hcell5 i x hx)) rfl) rfl ?_
      refine wl_alloc ti27 ?_
      intro b1 w1 hg1 hk1 hb1
      have ne1_bc : bc ≠ b1 := Nat.ne_of_lt (Nat.lt_of_lt_of_le hc_wl.lt hg1)
      have ne1_bd : bd ≠ b1 := Nat.ne_of_lt (Nat.lt_of_lt_of_le hd_wl.lt hg1)
      have ne1_bb : bb ≠ b1 := Nat.ne_of_lt (Nat.lt_of_lt_of_le hb_wl.lt hg1)
      have hc_w1 := hc_wl.keep hk1
      have hd_w1 := hd_wl.keep hk1
      have hb_w1 := hb_wl.keep hk1
      have hv_w1 := hv_wl.keep hk1
      have hs1 := hk1.size
      refine wl_valE (v := .int .i64 ((i : Nat) : Int)) rfl (rf_assign rfl) rfl ?_
      refine wl_storeAgg (b := b1) (o := 0) (cs := [.int .i64 x.batch, .int .i64 x.index, .bool x.filled, .bool x.cell.is_, .int .i64 x.cell.value]) ti27 rfl rfl rfl rfl rfl (by simp [Value.oneCell']) hb1 (by decide) ?_
      intro w2 hk2 hb2
      have hc_w2 := hc_w1.kp hk2 ne1_bc
      have hd_w2 := hd_w1.kp hk2 ne1_bd
      have hb_w2 := hb_w1.kp hk2 ne1_bb
      have hv_w2 := hv_w1.kp hk2 (fun b h e => by have := (hF b h).1; omega)
      have hs2 := hk2.size
      replace hb2 : Blk w2 b1 (.cells #[.int .i64 x.batch, .int .i64 x.index, .bool x.filled, .bool x.cell.is_, .int .i64 x.cell.value] _ (0, 0)) := hb2
      refine wl_nil ?_
      refine thn ?_
      refine seq_ ?_
      refine region_ ?_
      refine wl_valE (v := .pointer (some ⟨b1, 0, none⟩)) rfl (rf_fieldAddr Try.underlying27 rfl ti3 rfl rfl) rfl ?_
      refine wl_valE (v := .int .i64 x.batch) rfl (rf_load Try.underlying3 rfl rfl rfl (hb2.cell rfl)) rfl ?_
      refine wl_valE (v := .int .i64 n) rfl (rf_move rfl) rfl ?_
      refine wl_valE (v := .bool (decide (x.batch ≤ n))) rfl (rf_leq rfl rfl rfl rfl) rfl ?_
      refine wl_nil ?_
      refine thn ?_
      refine cond_ (t := decide (x.batch ≤ n)) rfl rfl (fun c16 => ?_) (fun c16 => ?_)
      · have c16p := of_decide_eq_true c16
        refine seq_ ?_
        refine region_ ?_
        refine wl_valE (v := .slice (some ⟨bb, 0, none⟩) ds.length cap) rfl (rf_load Try.underlying28 rfl rfl rfl (hd_w2.cell rfl)) rfl ?_
        refine wl_valE (v := .int .i64 ((i : Nat) : Int)) rfl (rf_move rfl) rfl ?_
        refine wl_valE (v := .pointer (some ⟨bb, i, none⟩)) rfl (rf_indexAddr Try.underlying28 ti4 rfl rfl rfl rfl (by omega) (by omega)) (by simp) ?_
        refine wl_store (b := bb) (o := i) (v := .bool false) ti4 rfl rfl rfl rfl rfl hb_w2 (by simp; omega) ?_
        intro w3 hk3 hb3
        have hc_w3 := hc_w2.kp hk3 hcb
        have hd_w3 := hd_w2.kp hk3 hdb
        have hv_w3 := hv_w2.kp hk3 (fun b h => (hF b h).2)
        have hb1_w3 := hb2.kp hk3 (Ne.symm ne1_bb)
        have hs3 := hk3.size
        refine wl_nil ?_
        refine thn ?_
        refine ret_ ?_
        refine blr (thr (thr (blr ?_)))
        refine fin0 Try.results10 ?_
        refine ⟨rfl, (hkl0.trans (hk1.comp hk2 (fun b h e => by omega))).of_none.comp hk3 (fun b h e => e), ?_⟩
        rw [keepF_hit hl hno hx c16p]
        simpa using hb3
      · have c16p := of_decide_eq_false c16
        refine skip_ ?_
        refine bln ?_
        refine thn ?_
        refine region_ ?_
        refine wl_valE (v := .int .i64 ((i + 1 : Nat) : Int)) rfl (rf_add rfl rfl rfl rfl (IntWalk.i64_in _ (by omega))) rfl ?_
        refine wl_valE (v := .int .i64 ((i + 1 : Nat) : Int)) rfl (rf_move rfl) rfl ?_
        refine wl_nil ?_
        refine thn ?_
        refine ⟨lk0 - 1, _, rfl, (by omega), _, i + 1, upds_self ⟨rfl, rfl, rfl, rfl, rfl, trivial⟩, ?_⟩
        refine ⟨by omega, ?_, hkl0.trans (hk1.comp hk2 (fun b h e => by omega))⟩
        intro j y hj hy
        rcases Nat.lt_or_ge j i with h | h
        · exact hno j y h hy
        · obtain rfl : j = i := by omega
          rw [hx] at hy; cases hy; omega
    · have c9p := of_decide_eq_false c9
      refine exit_ ?_
      refine thx (thx (blx ?_))
      refine fin_ ?_
      refine fin0 Try.results10 ?_
      refine ⟨rfl, hkl0.of_none, ?_⟩
      rw [keepF_miss hl (fun j x h => hno j x (by have := (List.getElem?_eq_some_iff.1 h).1; omega) h)]
      exact hb_wl
theorem drops_ret (vc vp : Value) (floor : Int) (F : Nat → Prop) (chain : List Ver) (pins : List Int) (w : World)
    (h63 : chain.length ≤ 281474976710656) (p63 : pins.length ≤ 281474976710656) (hv : Rd encVer 5 w F vc chain) (hp : Rd encI 1 w F vp pins) (hF : ∀ b, F b → b < w.heap.size) :
    Ret Try.prog 5 [vc, .int .i64 floor, vp] w fun v w' => ∃ bb, v = .slice (some ⟨bb, 0, none⟩) (dropsF chain floor pins).length (dropsF chain floor pins).length ∧ w.heap.size ≤ bb ∧ Kp none_ w w' ∧ Blk w' bb (.cells ((dropsF chain floor pins).map Value.bool).toArray 4 (0, 0)) := by
  obtain ⟨va, vcap, rfl, hvcap⟩ := hv.form
  obtain ⟨pa, pcap, rfl, hpcap⟩ := hp.form
  refine enterR Try.func5 rfl Try.ntmps5 rfl ?_
  intro g0
  refine seq_ ?_
  refine region_ ?_
  refine wl_box (v := .slice va chain.length vcap) rfl rfl ?_
  intro b1 w1 hg1 hk1 hb1
  have hv_w1 := hv.keep hk1
  have hp_w1 := hp.keep hk1
  have hs1 := hk1.size
  refine wl_valE (v := .slice none 0 0) rfl (rf_assign rfl) rfl ?_
  refine wl_nil ?_
  refine thn ?_
  refine seq_ ?_
  refine region_ ?_
  refine wl_valE (v := .slice va chain.length vcap) rfl (rf_load Try.underlying22 rfl rfl rfl (hb1.cell rfl)) rfl ?_
  refine wl_valE (v := .int .i64 ((chain.length : Nat) : Int)) rfl (rf_len_slice Try.underlying22 rfl rfl) rfl ?_
  refine wl_makeSlice (l := chain.length) (c := chain.length) Try.underlying28 ti4 rfl rfl rfl rfl rfl (by omega) (by omega) (by omega) ?_
  intro b2 w2 hg2 hk2 hb2
  have ne2_b1 : b1 ≠ b2 := Nat.ne_of_lt (Nat.lt_of_lt_of_le hb1.lt hg2)
  have hv_w2 := hv_w1.keep hk2
  have hp_w2 := hp_w1.keep hk2
  have hb1_w2 := hb1.keep hk2
  have hs2 := hk2.size
  replace hb2 : Blk w2 b2 (.cells ((fillF chain floor 0).map Value.bool).toArray 4 (0, 0)) := by
    rw [fillF_zero, List.map_replicate]; simpa [Value.cells] using hb2
  refine wl_alloc ti28 ?_
  intro b3 w3 hg3 hk3 hb3
  have ne3_b1 : b1 ≠ b3 := Nat.ne_of_lt (Nat.lt_of_lt_of_le hb1_w2.lt hg3)
  have ne3_b2 : b2 ≠ b3 := Nat.ne_of_lt (Nat.lt_of_lt_of_le hb2.lt hg3)
  have hv_w3 := hv_w2.keep hk3
  have hp_w3 := hp_w2.keep hk3
  have hb1_w3 := hb1_w2.keep hk3
  have hb2_w3 := hb2.keep hk3
  have hs3 := hk3.size
  refine wl_store (b := b3) (o := 0) (v := .slice (some ⟨b2, 0, none⟩) chain.length chain.length) ti28 rfl rfl rfl rfl rfl hb3 (by first | decide | simp) ?_
  intro w4 hk4 hb4
  have hv_w4 := hv_w3.kp hk4 (fun b h e => by have := hF b h; omega)
  have hp_w4 := hp_w3.kp hk4 (fun b h e => by have := hF b h; omega)
  have hb1_w4 := hb1_w3.kp hk4 ne3_b1
  have hb2_w4 := hb2_w3.kp hk4 ne3_b2
  have hs4 := hk4.size
  replace hb4 : Blk w4 b3 (.cells #[.slice (some ⟨b2, 0, none⟩) chain.length chain.length] _ (0, 0)) := hb4
  refine wl_nil ?_
  refine thn ?_
  refine seq_ ?_
  refine seq_ ?_
  refine region_ ?_
  refine wl_valE (v := .slice va chain.length vcap) rfl (rf_load Try.underlying22 rfl rfl rfl (hb1_w4.cell rfl)) rfl ?_
  refine wl_valE (v := .int .i64 ((chain.length : Nat) : Int)) rfl (rf_len_slice Try.underlying22 rfl rfl) rfl ?_
  refine wl_valE (v := .int .i64 ((0 : Nat) : Int)) rfl (rf_move rfl) rfl ?_
  refine wl_nil ?_
  refine thn ?_
  refine block_ ?_
  refine loop_ (fun lk lf lw => ∃ (g : Nat → Value) (i : Nat), lf = upds g [(1, .int .i64 floor), (2, .slice pa pins.length pcap), (3, .pointer (some ⟨b1, 0, none⟩)), (6, .slice none 0 0), (7, .pointer (some ⟨b3, 0, none⟩)), (16, .slice va chain.length vcap), (17, .int .i64 ((chain.length : Nat) : Int)), (18, .int .i64 ((i : Nat) : Int))] ∧ i + lk = chain.length ∧ Blk lw b2 (.cells ((fillF chain floor i).map Value.bool).toArray 4 (0, 0)) ∧ Kp (fun b => b = b2) w4 lw) (chain.length) ?_ ?_
  · refine ⟨_, 0, upds_self ⟨rfl, rfl, rfl, rfl, rfl, rfl, rfl, rfl, trivial⟩, ?_⟩
    exact ⟨by omega, hb2_w4, Kp.refl _⟩
  · intro lk0 lf0 wl hI0
    obtain ⟨gl0, i, rfl, hik, hbb, hkl0⟩ := hI0
    have hv_wl := hv_w4.kp hkl0 (fun b h e => by have := hF b h; omega)
    have hp_wl := hp_w4.kp hkl0 (fun b h e => by have := hF b h; omega)
    have hb1_wl := hb1_w4.kp hkl0 ne2_b1
    have hb3_wl := hb4.kp hkl0 (fun e => ne3_b2 e.symm)
    have hsl := hkl0.size
    refine seq_ ?_
    refine region_ ?_
    refine wl_valE (v := .bool (decide (((i : Nat) : Int) < ((chain.length : Nat) : Int)))) rfl (rf_lss rfl rfl rfl rfl) rfl ?_
    refine wl_nil ?_
    refine thn ?_
    refine seq_ ?_
    refine cond_ (t := decide (((i : Nat) : Int) < ((chain.length : Nat) : Int))) rfl rfl (fun c19 => ?_) (fun c19 => ?_)
    · have c19p := of_decide_eq_true c19
      obtain ⟨x, hx⟩ : ∃ x, chain[i]? = some x := ⟨_, List.getElem?_eq_getElem (by omega)⟩
      obtain ⟨b9, o9, cap9, e9, hcap9, hF9, hlt9, hcell9⟩ := hv_wl.get (by omega)
      cases e9
      have hlf := fillF_length chain floor i (by omega)
      refine skip_ ?_
      refine thn ?_
      refine seq_ ?_
      refine block_ ?_
      refine seq_ ?_
      refine region_ ?_
      refine wl_valE (v := .int .i64 ((i : Nat) : Int)) rfl (rf_move rfl) rfl ?_
      refine wl_valE (v := .pointer (some ⟨b9, o9 + i * 5, none⟩)) rfl (rf_indexAddr Try.underlying22 ti27 rfl rfl rfl rfl (by omega) (by omega)) rfl ?_
      refine wl_valE (v := .agg #[.int .i64 x.batch, .int .i64 x.index, .bool x.filled, .bool x.cell.is_, .int .i64 x.cell.value]) rfl (rf_loadAgg Try.underlying27 rfl ti27 rfl rfl (el_cells (hcell9 i x hx)) rfl) rfl ?_
      refine wl_alloc ti27 ?_
      intro b5 w5 hg5 hk5 hb5
      have ne5_b1 : b1 ≠ b5 := Nat.ne_of_lt (Nat.lt_of_lt_of_le hb1_wl.lt hg5)
      have ne5_b3 : b3 ≠ b5 := Nat.ne_of_lt (Nat.lt_of_lt_of_le hb3_wl.lt hg5)
      have ne5_b2 : b2 ≠ b5 := Nat.ne_of_lt (Nat.lt_of_lt_of_le hbb.lt hg5)
      have hv_w5 := hv_wl.keep hk5
      have hp_w5 := hp_wl.keep hk5
      have hb1_w5 := hb1_wl.keep hk5
      have hb3_w5 := hb3_wl.keep hk5
      have hkl0_w5 := hkl0.comp hk5 (fun _ _ e => e.elim)
      have hbb_w5 := hbb.keep hk5
      have hs5 := hk5.size
      refine wl_valE (v := .int .i64 ((i : Nat) : Int)) rfl (rf_assign rfl) rfl ?_
      refine wl_storeAgg (b := b5) (o := 0) (cs := [.int .i64 x.batch, .int .i64 x.index, .bool x.filled, .bool x.cell.is_, .int .i64 x.cell.value]) ti27 rfl rfl rfl rfl rfl (by simp [Value.oneCell']) hb5 (by decide) ?_
      intro w6 hk6 hb6
      have hv_w6 := hv_w5.kp hk6 (fun b h e => by have := hF b h; omega)
      have hp_w6 := hp_w5.kp hk6 (fun b h e => by have := hF b h; omega)
      have hb1_w6 := hb1_w5.kp hk6 ne5_b1
      have hb3_w6 := hb3_w5.kp hk6 ne5_b3
      have hkl0_w6 := hkl0_w5.comp hk6 (fun b h e => by first | exact e | omega)
      have hbb_w6 := hbb_w5.kp hk6 ne5_b2
      have hs6 := hk6.size
      replace hb6 : Blk w6 b5 (.cells #[.int .i64 x.batch, .int .i64 x.index, .bool x.filled, .bool x.cell.is_, .int .i64 x.cell.value] _ (0, 0)) := hb6
      refine wl_nil ?_
      refine thn ?_
      refine region_ ?_
      refine wl_valE (v := .slice (some ⟨b2, 0, none⟩) chain.length chain.length) rfl (rf_load Try.underlying28 rfl rfl rfl (hb3_w6.cell rfl)) rfl ?_
      refine wl_valE (v := .int .i64 ((i : Nat) : Int)) rfl (rf_move rfl) rfl ?_
      refine wl_valE (v := .pointer (some ⟨b5, 0, none⟩)) rfl (rf_fieldAddr Try.underlying27 rfl ti3 rfl rfl) rfl ?_
      refine wl_valE (v := .int .i64 x.batch) rfl (rf_load Try.underlying3 rfl rfl rfl (hb6.cell rfl)) rfl ?_
      refine wl_valE (v := .int .i64 floor) rfl (rf_move rfl) rfl ?_
      refine wl_valE (v := .bool (decide (x.batch ≤ floor))) rfl (rf_leq rfl rfl rfl rfl) rfl ?_
      refine wl_valE (v := .pointer (some ⟨b2, i, none⟩)) rfl (rf_indexAddr Try.underlying28 ti4 rfl rfl rfl rfl (by omega) (by omega)) (by simp) ?_
      refine wl_store (b := b2) (o := i) (v := .bool (decide (x.batch ≤ floor))) ti4 rfl rfl rfl rfl rfl hbb_w6 (by simp; omega) ?_
      intro w7 hk7 hb7
      have hv_w7 := hv_w6.kp hk7 (fun b h e => by have := hF b h; omega)
      have hp_w7 := hp_w6.kp hk7 (fun b h e => by have := hF b h; omega)
      have hb1_w7 := hb1_w6.kp hk7 ne2_b1
      have hb3_w7 := hb3_w6.kp hk7 (Ne.symm ne3_b2)
      have hkl0_w7 := hkl0_w6.comp hk7 (fun b h e => by first | exact e | omega)
      have hb5_w7 := hb6.kp hk7 (Ne.symm ne5_b2)
      have hs7 := hk7.size
      refine wl_nil ?_
      refine bln ?_
      refine thn ?_
      refine region_ ?_
      refine wl_valE (v := .int .i64 ((i + 1 : Nat) : Int)) rfl (rf_add rfl rfl rfl rfl (IntWalk.i64_in _ (by omega))) rfl ?_
      refine wl_valE (v := .int .i64 ((i + 1 : Nat) : Int)) rfl (rf_move rfl) rfl ?_
      refine wl_nil ?_
      refine thn ?_
      refine ⟨lk0 - 1, _, rfl, (by omega), _, i + 1, upds_self ⟨rfl, rfl, rfl, rfl, rfl, rfl, rfl, rfl, trivial⟩, ?_⟩
      refine ⟨by omega, ?_, hkl0.comp ((hk5.comp hk6 (fun b h e => by omega)).of_none.comp hk7 (fun b h e => e)) (fun b h e => e)⟩
      rw [← fillF_succ hx]
      simpa using hb7
    · have c19p := of_decide_eq_false c19
      obtain rfl : i = chain.length := by omega
      have hkA : Kp none_ w wl := ((hk1.comp hk2 (fun b h e => e)).comp (hk3.comp hk4 (fun b h e => by omega)) (fun b h e => e)).comp hkl0 (fun b h e => by omega)
      rw [fillF_all] at hbb
      refine exit_ ?_
      refine thx (thx (blx ?_))
      refine thn ?_
      refine seq_ ?_
      refine region_ ?_
      refine wl_valE (v := .func (.func 10) #[] #[.pointer (some ⟨b1, 0, none⟩), .pointer (some ⟨b3, 0, none⟩)]) rfl (rf_makeFunc (vfs := []) (vcs := [.pointer (some ⟨b1, 0, none⟩), .pointer (some ⟨b3, 0, none⟩)]) rfl rfl rfl rfl) rfl ?_
      refine wl_valE (v := .func (.func 10) #[] #[.pointer (some ⟨b1, 0, none⟩), .pointer (some ⟨b3, 0, none⟩)]) rfl (rf_assign rfl) rfl ?_
      refine wl_nil ?_
      refine thn ?_
      refine seq_ ?_
      refine region_ ?_
      refine wl_valE (v := .func (.func 10) #[] #[.pointer (some ⟨b1, 0, none⟩), .pointer (some ⟨b3, 0, none⟩)]) rfl (rf_move rfl) rfl ?_
      refine wl_valE (v := .int .i64 floor) rfl (rf_move rfl) rfl ?_
      refine wl_ret rfl (keep_ret floor b1 b3 b2 _ F chain (chain.map (fun v => decide (v.batch ≤ floor))) chain.length wl (by simp) (by omega) hb1_wl hv_wl (fun b h => ⟨by have := hF b h; omega, fun e => by have := hF b h; omega⟩) (by rw [List.length_map]; exact hb3_wl) hbb ne2_b1 (fun e => ne3_b2 e.symm)) (rf_callv (fs := []) (cs := [.pointer (some ⟨b1, 0, none⟩), .pointer (some ⟨b3, 0, none⟩)]) Try.call10 rfl rfl rfl rfl) ?_
      rintro _ w8 ⟨rfl, hk8, hbk8⟩
      have hv_w8 := hv_wl.kp hk8 (fun b h e => by have := hF b h; omega)
      have hp_w8 := hp_wl.kp hk8 (fun b h e => by have := hF b h; omega)
      have hb1_w8 := hb1_wl.kp hk8 ne2_b1
      have hb3_w8 := hb3_wl.kp hk8 (fun e => ne3_b2 e.symm)
      have hkl0_w8 := hkl0.comp hk8 (fun b h e => by first | exact e | omega)
      have hs8 := hk8.size
      refine wl_nil ?_
      refine thn ?_
      refine seq_ ?_
      refine seq_ ?_
      refine region_ ?_
      refine wl_valE (v := .slice pa pins.length pcap) rfl (rf_move rfl) rfl ?_
      refine wl_valE (v := .int .i64 ((pins.length : Nat) : Int)) rfl (rf_len_slice Try.underlying23 rfl rfl) rfl ?_
      refine wl_valE (v := .int .i64 ((0 : Nat) : Int)) rfl (rf_move rfl) rfl ?_
      refine wl_nil ?_
      refine thn ?_
      refine block_ ?_
      refine loop_ (fun lk lf lw => ∃ (g : Nat → Value) (i : Nat), lf = upds g [(6, .slice none 0 0), (7, .pointer (some ⟨b3, 0, none⟩)), (10, .func (.func 10) #[] #[.pointer (some ⟨b1, 0, none⟩), .pointer (some ⟨b3, 0, none⟩)]), (35, .slice pa pins.length pcap), (36, .int .i64 ((pins.length : Nat) : Int)), (37, .int .i64 ((i : Nat) : Int))] ∧ i + lk = pins.length ∧ Blk lw b2 (.cells ((dropsTo chain floor pins i).map Value.bool).toArray 4 (0, 0)) ∧ Kp (fun b => b = b2) w8 lw) (pins.length) ?_ ?_
      · refine ⟨_, 0, upds_self ⟨rfl, rfl, rfl, rfl, rfl, rfl, trivial⟩, ?_⟩
        exact ⟨by omega, hbk8, Kp.refl _⟩
      · intro lk1 lf1 wm hI1
        obtain ⟨gl1, i, rfl, hiq, hbq, hkl1⟩ := hI1
        have hv_wm := hv_w8.kp hkl1 (fun b h e => by have := hF b h; omega)
        have hp_wm := hp_w8.kp hkl1 (fun b h e => by have := hF b h; omega)
        have hb1_wm := hb1_w8.kp hkl1 ne2_b1
        have hb3_wm := hb3_w8.kp hkl1 (fun e => ne3_b2 e.symm)
        have hkl0_wm := hkl0_w8.comp hkl1 (fun b h e => by first | exact e | omega)
        have hsm := hkl1.size
        refine seq_ ?_
        refine region_ ?_
        refine wl_valE (v := .bool (decide (((i : Nat) : Int) < ((pins.length : Nat) : Int)))) rfl (rf_lss rfl rfl rfl rfl) rfl ?_
        refine wl_nil ?_
        refine thn ?_
        refine seq_ ?_
        refine cond_ (t := decide (((i : Nat) : Int) < ((pins.length : Nat) : Int))) rfl rfl (fun c38 => ?_) (fun c38 => ?_)
        · have c38p := of_decide_eq_true c38
          obtain ⟨x, hx⟩ : ∃ x, pins[i]? = some x := ⟨_, List.getElem?_eq_getElem (by omega)⟩
          obtain ⟨b9, o9, cap9, e9, hcap9, hF9, hlt9, hcell9⟩ := hp_wm.get (by omega)
          cases e9
          refine skip_ ?_
          refine thn ?_
          refine seq_ ?_
          refine block_ ?_
          refine seq_ ?_
          refine region_ ?_
          refine wl_valE (v := .pointer (some ⟨b9, o9 + i, none⟩)) rfl (rf_indexAddr Try.underlying23 ti3 rfl rfl rfl rfl (by omega) (by omega)) (by simp) ?_
          refine wl_valE (v := .int .i64 x) rfl (rf_load Try.underlying3 rfl rfl rfl (el1 (hcell9 i x hx 0 _ rfl))) rfl ?_
          refine wl_valE (v := .int .i64 x) rfl (rf_assign rfl) rfl ?_
          refine wl_nil ?_
          refine thn ?_
          refine region_ ?_
          refine wl_valE (v := .func (.func 10) #[] #[.pointer (some ⟨b1, 0, none⟩), .pointer (some ⟨b3, 0, none⟩)]) rfl (rf_move rfl) rfl ?_
          refine wl_valE (v := .int .i64 x) rfl (rf_move rfl) rfl ?_
          refine wl_ret rfl (keep_ret x b1 b3 b2 _ F chain (dropsTo chain floor pins i) chain.length wm (dropsTo_length _ _ _) (by omega) hb1_wm hv_wm (fun b h => ⟨by have := hF b h; omega, fun e => by have := hF b h; omega⟩) (by rw [show (dropsTo chain floor pins i).length = chain.length from dropsTo_length _ _ _]; exact hb3_wm) hbq ne2_b1 (fun e => ne3_b2 e.symm)) (rf_callv (fs := []) (cs := [.pointer (some ⟨b1, 0, none⟩), .pointer (some ⟨b3, 0, none⟩)]) Try.call10 rfl rfl rfl rfl) ?_
          rintro _ w9 ⟨rfl, hk9, hbk9⟩
          have hv_w9 := hv_wm.kp hk9 (fun b h e => by have := hF b h; omega)
          have hp_w9 := hp_wm.kp hk9 (fun b h e => by have := hF b h; omega)
          have hb1_w9 := hb1_wm.kp hk9 ne2_b1
          have hb3_w9 := hb3_wm.kp hk9 (fun e => ne3_b2 e.symm)
          have hkl0_w9 := hkl0_wm.comp hk9 (fun b h e => by first | exact e | omega)
          have hkl1_w9 := hkl1.comp hk9 (fun b h e => by first | exact e | omega)
          have hs9 := hk9.size
          refine wl_nil ?_
          refine bln ?_
          refine thn ?_
          refine region_ ?_
          refine wl_valE (v := .int .i64 ((i + 1 : Nat) : Int)) rfl (rf_add rfl rfl rfl rfl (IntWalk.i64_in _ (by omega))) rfl ?_
          refine wl_valE (v := .int .i64 ((i + 1 : Nat) : Int)) rfl (rf_move rfl) rfl ?_
          refine wl_nil ?_
          refine thn ?_
          refine ⟨lk1 - 1, _, rfl, (by omega), _, i + 1, upds_self ⟨rfl, rfl, rfl, rfl, rfl, rfl, trivial⟩, ?_⟩
          refine ⟨by omega, ?_, hkl1.comp hk9 (fun b h e => e)⟩
          rw [← dropsTo_succ hx]; exact hbk9
        · have c38p := of_decide_eq_false c38
          obtain rfl : i = pins.length := by omega
          refine exit_ ?_
          refine thx (thx (blx ?_))
          refine thn ?_
          refine seq_ ?_
          refine region_ ?_
          refine wl_valE (v := .slice (some ⟨b2, 0, none⟩) chain.length chain.length) rfl (rf_load Try.underlying28 rfl rfl rfl (hb3_wm.cell rfl)) rfl ?_
          refine wl_valE (v := .slice (some ⟨b2, 0, none⟩) chain.length chain.length) rfl (rf_assign rfl) rfl ?_
          refine wl_nil ?_
          refine thn ?_
          refine ret_ ?_
          refine fin1 (v := .slice (some ⟨b2, 0, none⟩) chain.length chain.length) Try.results5 rfl rfl ?_
          exact ⟨b2, by rw [dropsTo_length], by omega, (hkA.comp hk8 (fun b h e => by omega)).comp hkl1 (fun b h e => by omega), by simpa [dropsTo] using hbq⟩
end Go.Proofs.Ytbmhoopgdhajeaa.W
