import Derived.Test.YtbmhoopgdhajeaaD1
import Derived.KernelRfl
namespace Go.Proofs.Ytbmhoopgdhajeaa.W
open Go Go.Wk
set_option linter.unusedVariables false

def firstF (chain : List Ver) (n : Int) : Int := if chain.findIdx (fun v => decide (v.batch ≤ n)) < chain.length then (chain.findIdx (fun v => decide (v.batch ≤ n)) : Int) else -1
theorem firstF_hit {chain : List Ver} {n : Int} {i : Nat} {x : Ver} (hno : ∀ j y, j < i → chain[j]? = some y → n < y.batch) (hx : chain[i]? = some x) (h : x.batch ≤ n) : firstF chain n = i := by
  have hi : i < chain.length := (List.getElem?_eq_some_iff.1 hx).1
  have he : chain[i] = x := (List.getElem?_eq_some_iff.1 hx).2
  have : chain.findIdx (fun v => decide (v.batch ≤ n)) = i := by
    rw [List.findIdx_eq hi]
    refine ⟨by simpa [he] using h, fun j hj => ?_⟩
    have := hno j chain[j] hj (List.getElem?_eq_getElem _)
    simpa using this
  unfold firstF
  rw [this, if_pos hi]
theorem firstF_miss {chain : List Ver} {n : Int} (hno : ∀ (j : Nat) (y : Ver), chain[j]? = some y → n < y.batch) : firstF chain n = -1 := by
  unfold firstF
  rw [if_neg]
  intro h
  have h2 := List.findIdx_getElem (w := h)
  have := hno _ _ (List.getElem?_eq_getElem h)
  simp at h2
  omega
def refKeep (chain : List Ver) (floor : Int) (pins : List Int) (i : Nat) (x : Ver) : Bool := (decide (floor < x.batch) || decide (firstF chain floor = (i : Int))) || pins.any (fun p => decide (firstF chain p = (i : Int)))
def refTo (chain : List Ver) (floor : Int) (pins : List Int) (i : Nat) : List Bool := ((chain.take i).zipIdx.map fun p => !refKeep chain floor pins p.2 p.1) ++ List.replicate (chain.length - i) false
theorem refTo_zero (chain : List Ver) (floor : Int) (pins : List Int) : refTo chain floor pins 0 = List.replicate chain.length false := by simp [refTo]
theorem refTo_length (chain : List Ver) (floor : Int) (pins : List Int) (i : Nat) (h : i ≤ chain.length) : (refTo chain floor pins i).length = chain.length := by simp [refTo]; omega
theorem refTo_succ {chain : List Ver} {floor : Int} {pins : List Int} {i : Nat} {x : Ver} (h : chain[i]? = some x) : (refTo chain floor pins i).set i (!refKeep chain floor pins i x) = refTo chain floor pins (i + 1) := by
  have hi : i < chain.length := (List.getElem?_eq_some_iff.1 h).1
  unfold refTo
  rw [List.set_append_right _ _ (by simp; omega)]
  have e : i - (((chain.take i).zipIdx.map fun p => !refKeep chain floor pins p.2 p.1)).length = 0 := by simp; omega
  rw [e, show chain.length - i = (chain.length - (i + 1)) + 1 from by omega, List.replicate_succ, List.set_cons_zero]
  rw [List.take_add_one, h]
  simp [List.zipIdx_append]
  have : min i chain.length = i := by omega
  rw [this]
theorem any_take_succ {pins : List Int} {j : Nat} {p : Int} {f : Int → Bool} (h : pins[j]? = some p) : (pins.take (j + 1)).any f = ((pins.take j).any f || f p) := by
  rw [List.take_add_one, h]; simp

theorem keepF_get (chain : List Ver) (n : Int) (ds : List Bool) (hl : ds.length = chain.length) (i : Nat) : (keepF chain n ds)[i]? = (ds[i]?).map (fun d => d && !decide (firstF chain n = (i : Int))) := by
  by_cases h : chain.findIdx (fun v => decide (v.batch ≤ n)) < chain.length
  · have hx := List.getElem?_eq_getElem h
    have hb : (chain[chain.findIdx (fun v => decide (v.batch ≤ n))]).batch ≤ n := by
      have := List.findIdx_getElem (w := h)
      simpa using this
    have hno : ∀ j y, j < chain.findIdx (fun v => decide (v.batch ≤ n)) → chain[j]? = some y → n < y.batch := by
      intro j y hj hy
      have h2 := List.not_of_lt_findIdx hj
      have h3 : chain[j]'(by omega) = y := (List.getElem?_eq_some_iff.1 hy).2
      rw [h3] at h2
      simp at h2
      omega
    rw [keepF_hit hl hno hx hb, firstF_hit hno hx hb, List.getElem?_set]
    by_cases e : chain.findIdx (fun v => decide (v.batch ≤ n)) = i
    · rw [if_pos e, if_pos (by omega)]
      rw [← e, List.getElem?_eq_getElem (by omega : chain.findIdx (fun v => decide (v.batch ≤ n)) < ds.length)]
      simp
    · rw [if_neg e]
      have e2 : decide ((chain.findIdx (fun v => decide (v.batch ≤ n)) : Int) = (i : Int)) = false := decide_eq_false (by omega)
      rw [e2]
      cases ds[i]? <;> simp
  · have hno : ∀ (j : Nat) (y : Ver), chain[j]? = some y → n < y.batch := by
      intro j y hy
      have hj : j < chain.length := (List.getElem?_eq_some_iff.1 hy).1
      have h2 := List.not_of_lt_findIdx (i := j) (p := fun v : Ver => decide (v.batch ≤ n)) (xs := chain) (by omega)
      have h3 : chain[j] = y := (List.getElem?_eq_some_iff.1 hy).2
      rw [h3] at h2
      simp at h2
      omega
    rw [keepF_miss hl hno, firstF_miss hno]
    have : decide ((-1 : Int) = (i : Int)) = false := decide_eq_false (by omega)
    simp [this]
theorem fold_get (chain : List Ver) (i : Nat) : ∀ (pins : List Int) (ds : List Bool), ds.length = chain.length → (pins.foldl (fun ds n => keepF chain n ds) ds)[i]? = (ds[i]?).map (fun d => d && !pins.any (fun p => decide (firstF chain p = (i : Int))))
  | [], ds, _ => by simp
  | p :: r, ds, hl => by
    rw [List.foldl_cons, fold_get chain i r _ (by rw [keepF_length, hl]), keepF_get chain p ds hl, Option.map_map]
    congr 1
    funext d
    simp [List.any_cons, Bool.and_assoc]
theorem drops_eq (chain : List Ver) (floor : Int) (pins : List Int) : refTo chain floor pins chain.length = dropsF chain floor pins := by
  apply List.ext_getElem?
  intro i
  unfold dropsF
  rw [fold_get chain i pins _ (by rw [keepF_length, List.length_map]), keepF_get chain floor _ (by rw [List.length_map]), List.getElem?_map]
  unfold refTo
  rw [Nat.sub_self, List.replicate_zero, List.append_nil, List.take_length, List.getElem?_map, List.getElem?_zipIdx]
  cases h : chain[i]? with
  | none => simp
  | some x =>
    simp only [Option.map_some, refKeep, Nat.zero_add]
    by_cases h1 : x.batch ≤ floor
    · have h2 : ¬ floor < x.batch := by omega
      simp [h1, h2]
    · have h2 : floor < x.batch := by omega
      simp [h1, h2]
theorem first_ret (vc : Value) (n : Int) (F : Nat → Prop) (chain : List Ver) (w : World) (h63 : chain.length ≤ 281474976710656) (hv : Rd encVer 5 w F vc chain) :
    Ret Try.prog 9 [vc, .int .i64 n] w fun v w' => v = .int .i64 (firstF chain n) ∧ Kp none_ w w' := by
  obtain ⟨va, vcap, rfl, hvcap⟩ := hv.form
  refine enterR Try.func9 rfl Try.ntmps9 rfl ?_
  intro g0
  refine seq_ ?_
  refine region_ ?_
  refine wl_valE (v := .int .i64 ((0 : Nat) : Int)) rfl (rf_assign rfl) rfl ?_
  refine wl_nil ?_
  refine thn ?_
  refine seq_ ?_
  refine seq_ ?_
  refine region_ ?_
  refine wl_valE (v := .int .i64 ((0 : Nat) : Int)) rfl (rf_assign rfl) rfl ?_
  refine wl_nil ?_
  refine thn ?_
  refine block_ ?_
  refine loop_ (fun lk lf lw => ∃ (g : Nat → Value) (i : Nat), lf = upds g [(0, .slice va chain.length vcap), (1, .int .i64 n), (5, .int .i64 ((i : Nat) : Int))] ∧ i + lk = chain.length ∧ (∀ j x, j < i → chain[j]? = some x → n < x.batch) ∧ Kp (none_) w lw) (chain.length) ?_ ?_
  · refine ⟨_, 0, upds_self ⟨rfl, rfl, rfl, trivial⟩, ?_⟩
    exact ⟨by omega, fun j x h => by omega, Kp.refl _⟩
  · intro lk0 lf0 wl hI0
    obtain ⟨gl0, i, rfl, hik, hno, hkl0⟩ := hI0
    have hv_wl := hv.keep hkl0
    have hsl := hkl0.size
    refine seq_ ?_
    refine seq_ ?_
    refine region_ ?_
    refine wl_valE (v := .int .i64 ((i : Nat) : Int)) rfl (rf_move rfl) rfl ?_
    refine wl_valE (v := .slice va chain.length vcap) rfl (rf_move rfl) rfl ?_
    refine wl_valE (v := .int .i64 ((chain.length : Nat) : Int)) rfl (rf_len_slice Try.underlying22 rfl rfl) rfl ?_
    refine wl_valE (v := .bool (decide (((i : Nat) : Int) < ((chain.length : Nat) : Int)))) rfl (rf_lss rfl rfl rfl rfl) rfl ?_
    refine wl_nil ?_
    refine thn ?_
    refine cond_ (t := decide (((i : Nat) : Int) < ((chain.length : Nat) : Int))) rfl rfl (fun c9 => ?_) (fun c9 => ?_)
    · have c9p := of_decide_eq_true c9
      obtain ⟨x, hx⟩ : ∃ x, chain[i]? = some x := ⟨_, List.getElem?_eq_getElem (by omega)⟩
      obtain ⟨b5, o5, cap5, e5, hcap5, hF5, hlt5, hcell5⟩ := hv_wl.get (by omega)
      cases e5
      refine skip_ ?_
      refine thn ?_
      refine seq_ ?_
      refine block_ ?_
      refine seq_ ?_
      refine region_ ?_
      refine wl_valE (v := .slice (some ⟨b5, o5, none⟩) chain.length vcap) rfl (rf_move rfl) rfl ?_
      refine wl_valE (v := .int .i64 ((i : Nat) : Int)) rfl (rf_move rfl) rfl ?_
      refine wl_valE (v := .pointer (some ⟨b5, o5 + i * 5, none⟩)) rfl (rf_indexAddr Try.underlying22 ti27 rfl rfl rfl rfl (by omega) (by omega)) rfl ?_
      refine wl_valE (v := .pointer (some ⟨b5, o5 + i * 5, none⟩)) rfl (rf_fieldAddr Try.underlying27 rfl ti3 rfl rfl) rfl ?_
      refine wl_valE (v := .int .i64 x.batch) rfl (rf_load Try.underlying3 rfl rfl rfl (hcell5 i x hx 0 _ rfl)) rfl ?_
      refine wl_valE (v := .int .i64 n) rfl (rf_move rfl) rfl ?_
      refine wl_valE (v := .bool (decide (x.batch ≤ n))) rfl (rf_leq rfl rfl rfl rfl) rfl ?_
      refine wl_nil ?_
      refine thn ?_
      refine cond_ (t := decide (x.batch ≤ n)) rfl rfl (fun c18 => ?_) (fun c18 => ?_)
      · have c18p := of_decide_eq_true c18
        refine seq_ ?_
        refine region_ ?_
        refine wl_valE (v := .int .i64 ((i : Nat) : Int)) rfl (rf_move rfl) rfl ?_
        refine wl_valE (v := .int .i64 ((i : Nat) : Int)) rfl (rf_assign rfl) rfl ?_
        refine wl_nil ?_
        refine thn ?_
        refine ret_ ?_
        refine blr (thr (thr (blr (thr ?_))))
        refine fin1 (v := .int .i64 ((i : Nat) : Int)) Try.results9 rfl rfl ?_
        exact ⟨congrArg (Value.int .i64) (firstF_hit hno hx c18p).symm, hkl0⟩
      · have c18p := of_decide_eq_false c18
        refine skip_ ?_
        refine bln ?_
        refine thn ?_
        refine region_ ?_
        refine wl_valE (v := .int .i64 ((i : Nat) : Int)) rfl (rf_move rfl) rfl ?_
        refine wl_valE (v := .int .i64 ((i + 1 : Nat) : Int)) rfl (rf_add rfl rfl rfl rfl (IntWalk.i64_in _ (by omega))) rfl ?_
        refine wl_valE (v := .int .i64 ((i + 1 : Nat) : Int)) rfl (rf_assign rfl) rfl ?_
        refine wl_nil ?_
        refine thn ?_
        refine ⟨lk0 - 1, _, rfl, (by omega), _, i + 1, upds_self ⟨rfl, rfl, rfl, trivial⟩, ?_⟩
        refine ⟨by omega, ?_, hkl0⟩
        intro j y hj hy
        rcases Nat.lt_or_ge j i with h | h
        · exact hno j y h hy
        · obtain rfl : j = i := by omega
          rw [hx] at hy; cases hy; omega
    · have c9p := of_decide_eq_false c9
      refine exit_ ?_
      refine thx (thx (blx ?_))
      refine thn ?_
      refine seq_ ?_
      refine region_ ?_
      refine wl_valE (v := .int .i64 (-1 : Int)) rfl (rf_assign rfl) rfl ?_
      refine wl_nil ?_
      refine thn ?_
      refine ret_ ?_
      refine fin1 (v := .int .i64 (-1 : Int)) Try.results9 rfl rfl ?_
      exact ⟨congrArg (Value.int .i64) (firstF_miss (fun j x h => hno j x (by have := (List.getElem?_eq_some_iff.1 h).1; omega) h)).symm, hkl0⟩
theorem refDrops_ret (vc vp : Value) (floor : Int) (F : Nat → Prop) (chain : List Ver) (pins : List Int) (w : World)
    (h63 : chain.length ≤ 281474976710656) (p63 : pins.length ≤ 281474976710656) (hv : Rd encVer 5 w F vc chain) (hp : Rd encI 1 w F vp pins) (hF : ∀ b, F b → b < w.heap.size) :
    Ret Try.prog 4 [vc, .int .i64 floor, vp] w fun v w' => ∃ bb, v = .slice (some ⟨bb, 0, none⟩) (dropsF chain floor pins).length (dropsF chain floor pins).length ∧ w.heap.size ≤ bb ∧ Kp none_ w w' ∧ Blk w' bb (.cells ((dropsF chain floor pins).map Value.bool).toArray 4 (0, 0)) := by
  obtain ⟨va, vcap, rfl, hvcap⟩ := hv.form
  obtain ⟨pa, pcap, rfl, hpcap⟩ := hp.form
  refine enterR Try.func4 rfl Try.ntmps4 rfl ?_
  intro g0
  refine seq_ ?_
  refine region_ ?_
  refine wl_valE (v := .slice none 0 0) rfl (rf_assign rfl) rfl ?_
  refine wl_nil ?_
  refine thn ?_
  refine seq_ ?_
  refine region_ ?_
  refine wl_valE (v := .slice va chain.length vcap) rfl (rf_move rfl) rfl ?_
  refine wl_valE (v := .int .i64 ((chain.length : Nat) : Int)) rfl (rf_len_slice Try.underlying22 rfl rfl) rfl ?_
  refine wl_makeSlice (l := chain.length) (c := chain.length) Try.underlying28 ti4 rfl rfl rfl rfl rfl (by omega) (by omega) (by omega) ?_
  intro b1 w1 hg1 hk1 hb1
  have hv_w1 := hv.keep hk1
  have hp_w1 := hp.keep hk1
  have hs1 := hk1.size
  replace hb1 : Blk w1 b1 (.cells ((refTo chain floor pins 0).map Value.bool).toArray 4 (0, 0)) := by
    rw [refTo_zero, List.map_replicate]; simpa [Value.cells] using hb1
  refine wl_valE (v := .slice (some ⟨b1, 0, none⟩) chain.length chain.length) rfl (rf_assign rfl) rfl ?_
  refine wl_nil ?_
  refine thn ?_
  refine seq_ ?_
  refine seq_ ?_
  refine region_ ?_
  refine wl_valE (v := .int .i64 ((0 : Nat) : Int)) rfl (rf_assign rfl) rfl ?_
  refine wl_nil ?_
  refine thn ?_
  refine block_ ?_
  refine loop_ (fun lk lf lw => ∃ (g : Nat → Value) (i : Nat), lf = upds g [(0, .slice va chain.length vcap), (1, .int .i64 floor), (2, .slice pa pins.length pcap), (6, .slice none 0 0), (7, .slice (some ⟨b1, 0, none⟩) chain.length chain.length), (8, .int .i64 ((i : Nat) : Int))] ∧ i + lk = chain.length ∧ Blk lw b1 (.cells ((refTo chain floor pins i).map Value.bool).toArray 4 (0, 0)) ∧ Kp (fun b => b = b1) w1 lw) (chain.length) ?_ ?_
  · refine ⟨_, 0, upds_self ⟨rfl, rfl, rfl, rfl, rfl, rfl, trivial⟩, ?_⟩
    exact ⟨by omega, hb1, Kp.refl _⟩
  · intro lk0 lf0 wl hI0
    obtain ⟨gl0, i, rfl, hik, hbb, hkl0⟩ := hI0
    have hv_wl := hv_w1.kp hkl0 (fun b h e => by have := hF b h; omega)
    have hp_wl := hp_w1.kp hkl0 (fun b h e => by have := hF b h; omega)
    have hsl := hkl0.size
    refine seq_ ?_
    refine seq_ ?_
    refine region_ ?_
    refine wl_valE (v := .int .i64 ((i : Nat) : Int)) rfl (rf_move rfl) rfl ?_
    refine wl_valE (v := .slice va chain.length vcap) rfl (rf_move rfl) rfl ?_
    refine wl_valE (v := .int .i64 ((chain.length : Nat) : Int)) rfl (rf_len_slice Try.underlying22 rfl rfl) rfl ?_
    refine wl_valE (v := .bool (decide (((i : Nat) : Int) < ((chain.length : Nat) : Int)))) rfl (rf_lss rfl rfl rfl rfl) rfl ?_
    refine wl_nil ?_
    refine thn ?_
    refine cond_ (t := decide (((i : Nat) : Int) < ((chain.length : Nat) : Int))) rfl rfl (fun c17 => ?_) (fun c17 => ?_)
    · have c17p := of_decide_eq_true c17
      have hlf := refTo_length chain floor pins i (by omega)
      obtain ⟨x, hx⟩ : ∃ x, chain[i]? = some x := ⟨_, List.getElem?_eq_getElem (by omega)⟩
      obtain ⟨b5, o5, cap5, e5, hcap5, hF5, hlt5, hcell5⟩ := hv_wl.get (by omega)
      cases e5
      refine skip_ ?_
      refine thn ?_
      refine seq_ ?_
      refine block_ ?_
      refine seq_ ?_
      refine cut_ (fun lf lw => ∃ (g : Nat → Value) (k0 : Bool), lf = upds g [(0, .slice (some ⟨b5, o5, none⟩) chain.length vcap), (1, .int .i64 floor), (2, .slice pa pins.length pcap), (6, .slice none 0 0), (7, .slice (some ⟨b1, 0, none⟩) chain.length chain.length), (8, .int .i64 ((i : Nat) : Int)), (9, .bool k0), (14, .int .i64 ((i : Nat) : Int)), (15, .slice (some ⟨b5, o5, none⟩) chain.length vcap), (16, .int .i64 ((chain.length : Nat) : Int)), (17, .bool (decide (((i : Nat) : Int) < ((chain.length : Nat) : Int))))] ∧ k0 = (decide (floor < x.batch) || decide (firstF chain floor = (i : Int))) ∧ Kp (none_) wl lw) ?_ ?_
      · refine region_ ?_
        refine wl_valE (v := .slice (some ⟨b5, o5, none⟩) chain.length vcap) rfl (rf_move rfl) rfl ?_
        refine wl_valE (v := .int .i64 ((i : Nat) : Int)) rfl (rf_move rfl) rfl ?_
        refine wl_valE (v := .pointer (some ⟨b5, o5 + i * 5, none⟩)) rfl (rf_indexAddr Try.underlying22 ti27 rfl rfl rfl rfl (by omega) (by omega)) rfl ?_
        refine wl_valE (v := .pointer (some ⟨b5, o5 + i * 5, none⟩)) rfl (rf_fieldAddr Try.underlying27 rfl ti3 rfl rfl) rfl ?_
        refine wl_valE (v := .int .i64 x.batch) rfl (rf_load Try.underlying3 rfl rfl rfl (hcell5 i x hx 0 _ rfl)) rfl ?_
        refine wl_valE (v := .int .i64 floor) rfl (rf_move rfl) rfl ?_
        refine wl_valE (v := .bool (decide (floor < x.batch))) rfl (rf_gtr rfl rfl rfl rfl) rfl ?_
        refine wl_valE (v := .bool (decide (floor < x.batch))) rfl (rf_move rfl) rfl ?_
        refine wl_split (decide (floor < x.batch)) (fun u5_7 => ?_) (fun u5_7 => ?_)
        · have u5_7p := of_decide_eq_true u5_7
          refine wl_guardF rfl rfl rfl u5_7 ?_
          refine wl_guardF rfl rfl rfl u5_7 ?_
          refine wl_guardF rfl rfl rfl u5_7 ?_
          refine wl_guardF rfl rfl rfl u5_7 ?_
          refine wl_guardF rfl rfl rfl u5_7 ?_
          refine wl_valE (v := .bool true) rfl (rf_pickT rfl rfl rfl u5_7) rfl ?_
          refine wl_valE (v := .bool true) rfl (rf_assign rfl) rfl ?_
          refine wl_nil ?_
          refine cxn ⟨_, true, upds_self ⟨rfl, rfl, rfl, rfl, rfl, rfl, rfl, rfl, rfl, rfl, rfl, trivial⟩, ?_⟩
          exact ⟨by rw [decide_eq_true u5_7p]; rfl, Kp.refl _⟩
        · have u5_7p := of_decide_eq_false u5_7
          refine wl_guardT rfl rfl rfl u5_7 ?_
          refine wl_valE (v := .slice (some ⟨b5, o5, none⟩) chain.length vcap) rfl (rf_move rfl) rfl ?_
          refine wl_guardT rfl rfl rfl u5_7 ?_
          refine wl_valE (v := .int .i64 floor) rfl (rf_move rfl) rfl ?_
          refine wl_guardT rfl rfl rfl u5_7 ?_
          refine wl_ret rfl (first_ret _ floor F chain wl h63 hv_wl) (rf_call Try.call9 rfl rfl) ?_
          rintro _ w2 ⟨rfl, hk2⟩
          have hv_w2 := hv_wl.keep hk2
          have hp_w2 := hp_wl.keep hk2
          have hkl0_w2 := hkl0.comp hk2 (fun _ _ e => e.elim)
          have hbb_w2 := hbb.keep hk2
          have hs2 := hk2.size
          refine wl_guardT rfl rfl rfl u5_7 ?_
          refine wl_valE (v := .int .i64 ((i : Nat) : Int)) rfl (rf_move rfl) rfl ?_
          refine wl_guardT rfl rfl rfl u5_7 ?_
          refine wl_valE (v := .bool (decide (firstF chain floor = ((i : Nat) : Int)))) rfl (rf_eql rfl rfl rfl rfl) rfl ?_
          refine wl_valE (v := .bool (decide (firstF chain floor = ((i : Nat) : Int)))) rfl (rf_pickF rfl rfl rfl u5_7) rfl ?_
          refine wl_valE (v := .bool (decide (firstF chain floor = ((i : Nat) : Int)))) rfl (rf_assign rfl) rfl ?_
          refine wl_nil ?_
          refine cxn ⟨_, decide (firstF chain floor = ((i : Nat) : Int)), upds_self ⟨rfl, rfl, rfl, rfl, rfl, rfl, rfl, rfl, rfl, rfl, rfl, trivial⟩, ?_⟩
          exact ⟨by rw [decide_eq_false u5_7p]; rfl, hk2⟩
      · intro lfcutr5 wr hIcutr5
        obtain ⟨glcutr5, k0, rfl, hk0, hkR⟩ := hIcutr5
        have hv_wr := hv_wl.keep hkR
        have hp_wr := hp_wl.keep hkR
        have hkl0_wr := hkl0.comp hkR (fun _ _ e => e.elim)
        have hbb_wr := hbb.keep hkR
        have hsr := hkR.size
        refine thn ?_
        refine seq_ ?_
        refine seq_ ?_
        refine region_ ?_
        refine wl_valE (v := .int .i64 ((0 : Nat) : Int)) rfl (rf_assign rfl) rfl ?_
        refine wl_nil ?_
        refine thn ?_
        refine block_ ?_
        refine loop_ (fun lk lf lw => ∃ (g : Nat → Value) (j : Nat) (b : Bool), lf = upds g [(0, .slice (some ⟨b5, o5, none⟩) chain.length vcap), (1, .int .i64 floor), (2, .slice pa pins.length pcap), (6, .slice none 0 0), (7, .slice (some ⟨b1, 0, none⟩) chain.length chain.length), (8, .int .i64 ((i : Nat) : Int)), (9, .bool b), (10, .int .i64 ((j : Nat) : Int)), (14, .int .i64 ((i : Nat) : Int)), (15, .slice (some ⟨b5, o5, none⟩) chain.length vcap), (16, .int .i64 ((chain.length : Nat) : Int)), (17, .bool (decide (((i : Nat) : Int) < ((chain.length : Nat) : Int))))] ∧ j + lk = pins.length ∧ b = (k0 || (pins.take j).any (fun p => decide (firstF chain p = (i : Int)))) ∧ Kp (none_) wr lw) (pins.length) ?_ ?_
        · refine ⟨_, 0, k0, upds_self ⟨rfl, rfl, rfl, rfl, rfl, rfl, rfl, rfl, rfl, rfl, rfl, rfl, trivial⟩, ?_⟩
          exact ⟨by omega, by simp, Kp.refl _⟩
        · intro lk1 lf1 wm hI1
          obtain ⟨gl1, j, b, rfl, hjk, hb9, hkl1⟩ := hI1
          have hv_wm := hv_wr.keep hkl1
          have hp_wm := hp_wr.keep hkl1
          have hkl0_wm := hkl0_wr.comp hkl1 (fun _ _ e => e.elim)
          have hbb_wm := hbb_wr.keep hkl1
          have hsm := hkl1.size
          refine seq_ ?_
          refine seq_ ?_
          refine region_ ?_
          refine wl_valE (v := .int .i64 ((j : Nat) : Int)) rfl (rf_move rfl) rfl ?_
          refine wl_valE (v := .slice pa pins.length pcap) rfl (rf_move rfl) rfl ?_
          refine wl_valE (v := .int .i64 ((pins.length : Nat) : Int)) rfl (rf_len_slice Try.underlying23 rfl rfl) rfl ?_
          refine wl_valE (v := .bool (decide (((j : Nat) : Int) < ((pins.length : Nat) : Int)))) rfl (rf_lss rfl rfl rfl rfl) rfl ?_
          refine wl_nil ?_
          refine thn ?_
          refine cond_ (t := decide (((j : Nat) : Int) < ((pins.length : Nat) : Int))) rfl rfl (fun c37 => ?_) (fun c37 => ?_)
          · have c37p := of_decide_eq_true c37
            obtain ⟨p, hpj⟩ : ∃ x, pins[j]? = some x := ⟨_, List.getElem?_eq_getElem (by omega)⟩
            obtain ⟨b6, o6, cap6, e6, hcap6, hF6, hlt6, hcell6⟩ := hp_wm.get (by omega)
            cases e6
            refine skip_ ?_
            refine thn ?_
            refine seq_ ?_
            refine block_ ?_
            refine region_ ?_
            refine wl_valE (v := .bool b) rfl (rf_move rfl) rfl ?_
            refine wl_valE (v := .bool b) rfl (rf_move rfl) rfl ?_
            refine wl_split (b) (fun u9_1 => ?_) (fun u9_1 => ?_)
            · refine wl_guardF rfl rfl rfl u9_1 ?_
              refine wl_guardF rfl rfl rfl u9_1 ?_
              refine wl_guardF rfl rfl rfl u9_1 ?_
              refine wl_guardF rfl rfl rfl u9_1 ?_
              refine wl_guardF rfl rfl rfl u9_1 ?_
              refine wl_guardF rfl rfl rfl u9_1 ?_
              refine wl_guardF rfl rfl rfl u9_1 ?_
              refine wl_guardF rfl rfl rfl u9_1 ?_
              refine wl_valE (v := .bool true) rfl (rf_pickT rfl rfl rfl u9_1) rfl ?_
              refine wl_valE (v := .bool true) rfl (rf_assign rfl) rfl ?_
              refine wl_nil ?_
              refine bln ?_
              refine thn ?_
              refine region_ ?_
              refine wl_valE (v := .int .i64 ((j : Nat) : Int)) rfl (rf_move rfl) rfl ?_
              refine wl_valE (v := .int .i64 ((j + 1 : Nat) : Int)) rfl (rf_add rfl rfl rfl rfl (IntWalk.i64_in _ (by omega))) rfl ?_
              refine wl_valE (v := .int .i64 ((j + 1 : Nat) : Int)) rfl (rf_assign rfl) rfl ?_
              refine wl_nil ?_
              refine thn ?_
              refine ⟨lk1 - 1, _, rfl, (by omega), _, j + 1, true, upds_self ⟨rfl, rfl, rfl, rfl, rfl, rfl, rfl, rfl, rfl, rfl, rfl, rfl, trivial⟩, ?_⟩
              refine ⟨by omega, ?_, hkl1⟩
              rw [any_take_succ hpj, ← Bool.or_assoc, ← hb9, u9_1]; rfl
            · refine wl_guardT rfl rfl rfl u9_1 ?_
              refine wl_valE (v := .slice (some ⟨b5, o5, none⟩) chain.length vcap) rfl (rf_move rfl) rfl ?_
              refine wl_guardT rfl rfl rfl u9_1 ?_
              refine wl_valE (v := .slice (some ⟨b6, o6, none⟩) pins.length pcap) rfl (rf_move rfl) rfl ?_
              refine wl_guardT rfl rfl rfl u9_1 ?_
              refine wl_valE (v := .int .i64 ((j : Nat) : Int)) rfl (rf_move rfl) rfl ?_
              refine wl_guardT rfl rfl rfl u9_1 ?_
              refine wl_valE (v := .pointer (some ⟨b6, o6 + j, none⟩)) rfl (rf_indexAddr Try.underlying23 ti3 rfl rfl rfl rfl (by omega) (by omega)) (by simp) ?_
              refine wl_guardT rfl rfl rfl u9_1 ?_
              refine wl_valE (v := .int .i64 p) rfl (rf_load Try.underlying3 rfl rfl rfl (el1 (hcell6 j p hpj 0 _ rfl))) rfl ?_
              refine wl_guardT rfl rfl rfl u9_1 ?_
              refine wl_ret rfl (first_ret _ p F chain wm h63 hv_wm) (rf_call Try.call9 rfl rfl) ?_
              rintro _ w3 ⟨rfl, hk3⟩
              have hv_w3 := hv_wm.keep hk3
              have hp_w3 := hp_wm.keep hk3
              have hkl0_w3 := hkl0_wm.comp hk3 (fun _ _ e => e.elim)
              have hbb_w3 := hbb_wm.keep hk3
              have hs3 := hk3.size
              refine wl_guardT rfl rfl rfl u9_1 ?_
              refine wl_valE (v := .int .i64 ((i : Nat) : Int)) rfl (rf_move rfl) rfl ?_
              refine wl_guardT rfl rfl rfl u9_1 ?_
              refine wl_valE (v := .bool (decide (firstF chain p = ((i : Nat) : Int)))) rfl (rf_eql rfl rfl rfl rfl) rfl ?_
              refine wl_valE (v := .bool (decide (firstF chain p = ((i : Nat) : Int)))) rfl (rf_pickF rfl rfl rfl u9_1) rfl ?_
              refine wl_valE (v := .bool (decide (firstF chain p = ((i : Nat) : Int)))) rfl (rf_assign rfl) rfl ?_
              refine wl_nil ?_
              refine bln ?_
              refine thn ?_
              refine region_ ?_
              refine wl_valE (v := .int .i64 ((j : Nat) : Int)) rfl (rf_move rfl) rfl ?_
              refine wl_valE (v := .int .i64 ((j + 1 : Nat) : Int)) rfl (rf_add rfl rfl rfl rfl (IntWalk.i64_in _ (by omega))) rfl ?_
              refine wl_valE (v := .int .i64 ((j + 1 : Nat) : Int)) rfl (rf_assign rfl) rfl ?_
              refine wl_nil ?_
              refine thn ?_
              refine ⟨lk1 - 1, _, rfl, (by omega), _, j + 1, decide (firstF chain p = ((i : Nat) : Int)), upds_self ⟨rfl, rfl, rfl, rfl, rfl, rfl, rfl, rfl, rfl, rfl, rfl, rfl, trivial⟩, ?_⟩
              refine ⟨by omega, ?_, hkl1.trans hk3⟩
              rw [any_take_succ hpj, ← Bool.or_assoc, ← hb9, u9_1]; rfl
          · have c37p := of_decide_eq_false c37
            obtain rfl : j = pins.length := by omega
            rw [List.take_length] at hb9
            refine exit_ ?_
            refine thx (thx (blx ?_))
            refine thn ?_
            refine region_ ?_
            refine wl_valE (v := .slice (some ⟨b1, 0, none⟩) chain.length chain.length) rfl (rf_move rfl) rfl ?_
            refine wl_valE (v := .int .i64 ((i : Nat) : Int)) rfl (rf_move rfl) rfl ?_
            refine wl_valE (v := .bool b) rfl (rf_move rfl) rfl ?_
            refine wl_valE (v := .bool (!b)) rfl (rf_not rfl rfl) rfl ?_
            refine wl_valE (v := .pointer (some ⟨b1, i, none⟩)) rfl (rf_indexAddr Try.underlying28 ti4 rfl rfl rfl rfl (by omega) (by omega)) (by simp) ?_
            refine wl_store (b := b1) (o := i) (v := .bool (!b)) ti4 rfl rfl rfl rfl rfl hbb_wm (by simp; omega) ?_
            intro w4 hk4 hb4
            have hv_w4 := hv_wm.kp hk4 (fun b h e => by have := hF b h; omega)
            have hp_w4 := hp_wm.kp hk4 (fun b h e => by have := hF b h; omega)
            have hkl0_w4 := hkl0_wm.comp hk4 (fun b h e => by first | exact e | omega)
            have hs4 := hk4.size
            replace hb4 : Blk w4 b1 (.cells (((refTo chain floor pins i).set i (!b)).map Value.bool).toArray 4 (0, 0)) := by rw [List.map_set]; simpa using hb4
            refine wl_nil ?_
            refine bln ?_
            refine thn ?_
            refine region_ ?_
            refine wl_valE (v := .int .i64 ((i : Nat) : Int)) rfl (rf_move rfl) rfl ?_
            refine wl_valE (v := .int .i64 ((i + 1 : Nat) : Int)) rfl (rf_add rfl rfl rfl rfl (IntWalk.i64_in _ (by omega))) rfl ?_
            refine wl_valE (v := .int .i64 ((i + 1 : Nat) : Int)) rfl (rf_assign rfl) rfl ?_
            refine wl_nil ?_
            refine thn ?_
            refine ⟨lk0 - 1, _, rfl, (by omega), _, i + 1, upds_self ⟨rfl, rfl, rfl, rfl, rfl, rfl, trivial⟩, ?_⟩
            refine ⟨by omega, ?_, (hkl0.trans hkR.of_none).trans (hkl1.of_none.trans hk4)⟩
            rw [← refTo_succ hx, refKeep, ← hk0, ← hb9]
            exact hb4
    · have c17p := of_decide_eq_false c17
      obtain rfl : i = chain.length := by omega
      refine exit_ ?_
      refine thx (thx (blx ?_))
      refine thn ?_
      refine seq_ ?_
      refine region_ ?_
      refine wl_valE (v := .slice (some ⟨b1, 0, none⟩) chain.length chain.length) rfl (rf_move rfl) rfl ?_
      refine wl_valE (v := .slice (some ⟨b1, 0, none⟩) chain.length chain.length) rfl (rf_assign rfl) rfl ?_
      refine wl_nil ?_
      refine thn ?_
      refine ret_ ?_
      refine fin1 (v := .slice (some ⟨b1, 0, none⟩) chain.length chain.length) Try.results4 rfl rfl ?_
      exact ⟨b1, by rw [dropsTo_length], by omega, hk1.comp hkl0 (fun b h e => by omega), by rw [← drops_eq]; exact hbb⟩
end Go.Proofs.Ytbmhoopgdhajeaa.W
