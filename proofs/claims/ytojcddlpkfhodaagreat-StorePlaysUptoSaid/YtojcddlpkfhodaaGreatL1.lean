import Derived.Test.YtojcddlpkfhodaaGreatB
import Derived.KernelRfl
namespace Go.Proofs.YtojcddlpkfhodaaGreat.W
open Go Go.Wk
set_option linter.unusedVariables false
set_option linter.unusedSimpArgs false

def delTo (l : List Int) (j q : Nat) : List Int := l.take j ++ (l.drop (j + 1)).take (q - 1 - j) ++ l.drop (q - 1)
theorem delTo_start (l : List Int) (j : Nat) (h : j < l.length) : delTo l j (j + 1) = l := by
  unfold delTo
  rw [show j + 1 - 1 - j = 0 from by omega, List.take_zero, List.append_nil, show j + 1 - 1 = j from by omega, List.take_append_drop]
theorem delTo_length (l : List Int) (j q : Nat) (h : j < q) (h2 : q ≤ l.length) : (delTo l j q).length = l.length := by
  unfold delTo; simp; omega
theorem delTo_get {l : List Int} {j q : Nat} {x : Int} (h : j < q) (hx : l[q]? = some x) : (delTo l j q)[q]? = some x := by
  have hq : q < l.length := (List.getElem?_eq_some_iff.1 hx).1
  unfold delTo
  rw [List.getElem?_append_right (by simp; omega), List.getElem?_drop]
  rw [← hx]; congr 1; simp; omega
theorem delTo_succ {l : List Int} {j q : Nat} {x : Int} (h : j < q) (hx : l[q]? = some x) : (delTo l j q).set (q - 1) x = delTo l j (q + 1) := by
  have hq : q < l.length := (List.getElem?_eq_some_iff.1 hx).1
  have e1 : l.drop (q - 1) = l[q - 1] :: l.drop q := by
    rw [List.drop_eq_getElem_cons (show q - 1 < l.length from by omega), show q - 1 + 1 = q from by omega]
  unfold delTo
  rw [List.set_append_right _ _ (by simp; omega), e1]
  have e2 : q - 1 - (l.take j ++ (l.drop (j + 1)).take (q - 1 - j)).length = 0 := by simp; omega
  have e3 : (l.drop (j + 1)).take (q + 1 - 1 - j) = (l.drop (j + 1)).take (q - 1 - j) ++ [x] := by
    rw [show q + 1 - 1 - j = (q - 1 - j) + 1 from by omega, List.take_add_one, List.getElem?_drop, show j + 1 + (q - 1 - j) = q from by omega, hx]; rfl
  rw [e2, List.set_cons_zero, e3, show q + 1 - 1 = q from by omega]
  simp
theorem delTo_end (l : List Int) (j : Nat) (h : j < l.length) : (delTo l j l.length).take (l.length - 1) = l.eraseIdx j := by
  unfold delTo
  rw [List.eraseIdx_eq_take_drop_succ, List.take_of_length_le (l := l.drop (j + 1)) (by rw [List.length_drop]; omega), List.take_append_of_le_length (by rw [List.length_append, List.length_take, List.length_drop]; omega), List.take_of_length_le (by rw [List.length_append, List.length_take, List.length_drop]; omega)]
theorem erase_filter : ∀ {l : List Int} {j : Nat} {v : Int}, l[j]? = some v → (∀ i x, i ≠ j → l[i]? = some x → x ≠ v) → l.eraseIdx j = l.filter (fun x => decide (x ≠ v))
  | [], _, _, h, _ => by simp at h
  | y :: r, 0, v, h, hn => by
    have : y = v := by simpa using h
    subst this
    rw [List.eraseIdx_cons_zero, List.filter_cons_of_neg (by simp), List.filter_eq_self.2]
    intro x hx
    obtain ⟨i, hi⟩ := List.getElem?_of_mem hx
    have := hn (i + 1) x (by omega) (by simpa using hi)
    simpa using this
  | y :: r, j + 1, v, h, hn => by
    have hy := hn 0 y (by omega) rfl
    rw [List.eraseIdx_cons_succ, List.filter_cons_of_pos (by simpa using hy), erase_filter (j := j) (by simpa using h) (fun i x hi hx => hn (i + 1) x (by omega) (by simpa using hx))]
theorem isv_ret (x v0 : Int) (bv : Nat) (w : World) (hbv : Blk w bv (.cells #[.int .i64 v0] 3 (0, 0))) : Ret Tryz.prog 53 [.int .i64 x, .pointer (some ⟨bv, 0, none⟩)] w fun v w' => v = .bool (decide (x = v0)) ∧ Kp none_ w w' := by
  refine enterR Tryz.func53 rfl Tryz.ntmps53 rfl ?_
  intro g0
  refine seq_ ?_
  refine region_ ?_
  refine wl_valE (v := .bool false) rfl (rf_assign rfl) rfl ?_
  refine wl_nil ?_
  refine thn ?_
  refine seq_ ?_
  refine region_ ?_
  refine wl_valE (v := .int .i64 x) rfl (rf_move rfl) rfl ?_
  refine wl_valE (v := .int .i64 v0) rfl (rf_load Tryz.underlying3 rfl rfl rfl (hbv.cell rfl)) rfl ?_
  refine wl_valE (v := .bool (decide (x = v0))) rfl (rf_eql rfl rfl rfl rfl) rfl ?_
  refine wl_valE (v := .bool (decide (x = v0))) rfl (rf_assign rfl) rfl ?_
  refine wl_nil ?_
  refine thn ?_
  refine ret_ ?_
  refine fin1 (v := .bool (decide (x = v0))) Tryz.results53 rfl rfl ?_
  exact ⟨rfl, Kp.refl _⟩
theorem index_ret (vs : Value) (v0 : Int) (bv j : Nat) (F : Nat → Prop) (l : List Int) (w : World) (hr : Rd encI 1 w F vs l) (h63 : l.length ≤ 9223372036854775807) (hbv : Blk w bv (.cells #[.int .i64 v0] 3 (0, 0))) (hj : l[j]? = some v0) (hno : ∀ i x, i < j → l[i]? = some x → x ≠ v0) :
    Ret Tryz.prog 64 [vs, .func (.func 53) #[] #[.pointer (some ⟨bv, 0, none⟩)]] w fun v w' => v = .int .i64 (j : Nat) ∧ Kp none_ w w' := by
  obtain ⟨sa, scap, rfl, hscap⟩ := hr.form
  have hkw : Kp none_ w w := Kp.refl w
  have hjl := (List.getElem?_eq_some_iff.1 hj).1
  refine enterR Tryz.func64 rfl Tryz.ntmps64 rfl ?_
  intro g0
  refine seq_ ?_
  refine region_ ?_
  refine wl_valE (v := .int .i64 ((0 : Nat) : Int)) rfl (rf_assign rfl) rfl ?_
  refine wl_nil ?_
  refine thn ?_
  refine seq_ ?_
  refine seq_ ?_
  refine region_ ?_
  refine wl_valE (v := .slice sa l.length scap) rfl (rf_move rfl) rfl ?_
  refine wl_valE (v := .int .i64 ((l.length : Nat) : Int)) rfl (rf_len_slice Tryz.underlying57 rfl rfl) rfl ?_
  refine wl_valE (v := .int .i64 ((0 : Nat) : Int)) rfl (rf_move rfl) rfl ?_
  refine wl_nil ?_
  refine thn ?_
  refine block_ ?_
  refine loop_ (fun lk lf lw => ∃ (g : Nat → Value) (i : Nat), lf = upds g [(0, .slice sa l.length scap), (1, .func (.func 53) #[] #[.pointer (some ⟨bv, 0, none⟩)]), (7, .int .i64 ((l.length : Nat) : Int)), (8, .int .i64 ((i : Nat) : Int))] ∧ i + lk = l.length ∧ i ≤ j ∧ Kp (none_) w lw) (l.length) ?_ ?_
  · refine ⟨_, 0, upds_self ⟨rfl, rfl, rfl, rfl, trivial⟩, ?_⟩
    exact ⟨by omega, by omega, Kp.refl _⟩
  · intro lk0 lf0 wl hI0
    obtain ⟨gl0, i, rfl, hik, hij, hkl0⟩ := hI0
    have hr_wl := hr.keep hkl0
    have hbv_wl := hbv.keep hkl0
    have hkw_wl := hkw.comp hkl0 (fun _ _ e => e.elim)
    have hsl := hkl0.size
    refine seq_ ?_
    refine region_ ?_
    refine wl_valE (v := .bool (decide (((i : Nat) : Int) < ((l.length : Nat) : Int)))) rfl (rf_lss rfl rfl rfl rfl) rfl ?_
    refine wl_nil ?_
    refine thn ?_
    refine seq_ ?_
    refine cond_ (t := decide (((i : Nat) : Int) < ((l.length : Nat) : Int))) rfl rfl (fun c9 => ?_) (fun c9 => ?_)
    · have c9p := of_decide_eq_true c9
      obtain ⟨x, hx⟩ : ∃ x, l[i]? = some x := ⟨_, List.getElem?_eq_getElem (by omega)⟩
      obtain ⟨b5, o5, cap5, e5, hcap5, hF5, hlt5, hcell5⟩ := hr_wl.get (by omega)
      cases e5
      refine skip_ ?_
      refine thn ?_
      refine seq_ ?_
      refine block_ ?_
      refine seq_ ?_
      refine region_ ?_
      refine wl_valE (v := .int .i64 ((i : Nat) : Int)) rfl (rf_move rfl) rfl ?_
      refine wl_valE (v := .int .i64 ((i : Nat) : Int)) rfl (rf_assign rfl) rfl ?_
      refine wl_nil ?_
      refine thn ?_
      refine seq_ ?_
      refine region_ ?_
      refine wl_valE (v := .func (.func 53) #[] #[.pointer (some ⟨bv, 0, none⟩)]) rfl (rf_move rfl) rfl ?_
      refine wl_valE (v := .slice (some ⟨b5, o5, none⟩) l.length scap) rfl (rf_move rfl) rfl ?_
      refine wl_valE (v := .int .i64 ((i : Nat) : Int)) rfl (rf_move rfl) rfl ?_
      refine wl_valE (v := .pointer (some ⟨b5, o5 + i, none⟩)) rfl (rf_indexAddr Tryz.underlying57 ti3 rfl rfl rfl rfl (by omega) (by omega)) (by simp) ?_
      refine wl_valE (v := .int .i64 x) rfl (rf_load Tryz.underlying3 rfl rfl rfl (el1 (hcell5 i x hx 0 _ rfl))) rfl ?_
      refine wl_ret rfl (isv_ret x v0 bv wl hbv_wl) (rf_callv (fs := []) (cs := [.pointer (some ⟨bv, 0, none⟩)]) Tryz.call53 rfl rfl rfl rfl) ?_
      rintro _ w1 ⟨rfl, hk1⟩
      have hr_w1 := hr_wl.keep hk1
      have hbv_w1 := hbv_wl.keep hk1
      have hkw_w1 := hkw_wl.comp hk1 (fun _ _ e => e.elim)
      have hkl0_w1 := hkl0.comp hk1 (fun _ _ e => e.elim)
      have hs1 := hk1.size
      refine wl_nil ?_
      refine thn ?_
      refine cond_ (t := decide (x = v0)) rfl rfl (fun c16 => ?_) (fun c16 => ?_)
      · have c16p := of_decide_eq_true c16
        refine seq_ ?_
        refine region_ ?_
        refine wl_valE (v := .int .i64 ((i : Nat) : Int)) rfl (rf_move rfl) rfl ?_
        refine wl_valE (v := .int .i64 ((i : Nat) : Int)) rfl (rf_assign rfl) rfl ?_
        refine wl_nil ?_
        refine thn ?_
        refine ret_ ?_
        refine blr (thr (thr (blr (thr ?_))))
        refine fin1 (v := .int .i64 ((i : Nat) : Int)) Tryz.results64 rfl rfl ?_
        refine ⟨?_, hkw_w1⟩
        rcases Nat.lt_or_eq_of_le hij with h | h
        · exact absurd c16p (hno i x h hx)
        · rw [h]
      · have c16p := of_decide_eq_false c16
        refine skip_ ?_
        refine bln ?_
        refine thn ?_
        refine region_ ?_
        refine wl_valE (v := .int .i64 ((i + 1 : Nat) : Int)) rfl (rf_add rfl rfl rfl rfl (IntWalk.i64_in _ (by omega))) rfl ?_
        refine wl_valE (v := .int .i64 ((i + 1 : Nat) : Int)) rfl (rf_move rfl) rfl ?_
        refine wl_nil ?_
        refine thn ?_
        refine ⟨lk0 - 1, _, rfl, (by omega), _, i + 1, upds_self ⟨rfl, rfl, rfl, rfl, trivial⟩, ?_⟩
        refine ⟨by omega, ?_, hkl0_w1⟩
        rcases Nat.lt_or_eq_of_le hij with h | h
        · omega
        · subst h; rw [hj] at hx; cases hx; exact absurd rfl c16p
    · have c9p := of_decide_eq_false c9
      omega
theorem delete_ret (v0 : Int) (bv j b o cap : Nat) (l : List Int) (w : World) (hs : SlAt encI 1 3 w b o cap l) (h63 : l.length ≤ 9223372036854775000) (hbv : Blk w bv (.cells #[.int .i64 v0] 3 (0, 0))) (hne : bv ≠ b) (hj : l[j]? = some v0) (hno : ∀ i x, i ≠ j → l[i]? = some x → x ≠ v0) :
    Ret Tryz.prog 51 [.slice (some ⟨b, o, none⟩) l.length cap, .func (.func 53) #[] #[.pointer (some ⟨bv, 0, none⟩)]] w fun v w' => v = .slice (some ⟨b, o, none⟩) (l.length - 1) cap ∧ SlAt encI 1 3 w' b o cap (l.filter (fun x => decide (x ≠ v0))) ∧ Kp (fun x => x = b) w w' := by
  have hkS : Kp (fun x => x = b) w w := Kp.refl w
  have hjl := (List.getElem?_eq_some_iff.1 hj).1
  have hle := hs.le
  refine enterR Tryz.func51 rfl Tryz.ntmps51 rfl ?_
  intro g0
  refine seq_ ?_
  refine region_ ?_
  refine wl_valE (v := .slice none 0 0) rfl (rf_assign rfl) rfl ?_
  refine wl_nil ?_
  refine thn ?_
  refine seq_ ?_
  refine region_ ?_
  refine wl_valE (v := .slice (some ⟨b, o, none⟩) l.length cap) rfl (rf_move rfl) rfl ?_
  refine wl_valE (v := .func (.func 53) #[] #[.pointer (some ⟨bv, 0, none⟩)]) rfl (rf_move rfl) rfl ?_
  refine wl_ret rfl (index_ret _ v0 bv j (fun x => x = b) l w (hs.rd rfl) (by omega) hbv hj (fun i x hi hx => hno i x (by omega) hx)) (rf_call Tryz.call64 rfl rfl) ?_
  rintro _ w1 ⟨rfl, hk1⟩
  have hs_w1 := hs.keep hk1
  have hbv_w1 := hbv.keep hk1
  have hkS_w1 := hkS.comp hk1 (fun _ _ e => e.elim)
  have hs1 := hk1.size
  refine wl_valE (v := .int .i64 ((j : Nat) : Int)) rfl (rf_assign rfl) rfl ?_
  refine wl_nil ?_
  refine thn ?_
  refine seq_ ?_
  refine seq_ ?_
  refine region_ ?_
  refine wl_valE (v := .int .i64 ((j : Nat) : Int)) rfl (rf_move rfl) rfl ?_
  refine wl_valE (v := .bool false) rfl (rf_eql rfl rfl rfl rfl) (congrArg Value.bool (decide_eq_false (by omega))) ?_
  refine wl_nil ?_
  refine thn ?_
  refine condF rfl rfl ?_
  refine skip_ ?_
  refine thn ?_
  refine seq_ ?_
  refine seq_ ?_
  refine region_ ?_
  refine wl_valE (v := .int .i64 ((j : Nat) : Int)) rfl (rf_move rfl) rfl ?_
  refine wl_valE (v := .int .i64 ((j + 1 : Nat) : Int)) rfl (rf_add rfl rfl rfl rfl (IntWalk.i64_in _ (by omega))) rfl ?_
  refine wl_valE (v := .int .i64 ((j + 1 : Nat) : Int)) rfl (rf_assign rfl) rfl ?_
  refine wl_nil ?_
  refine thn ?_
  refine block_ ?_
  refine loop_ (fun lk lf lw => ∃ (g : Nat → Value) (q : Nat), lf = upds g [(0, .slice (some ⟨b, o, none⟩) l.length cap), (1, .func (.func 53) #[] #[.pointer (some ⟨bv, 0, none⟩)]), (4, .slice none 0 0), (5, .int .i64 ((q - 1 : Nat) : Int)), (6, .int .i64 ((q : Nat) : Int))] ∧ q + lk = l.length ∧ j < q ∧ SlAt encI 1 3 lw b o cap (delTo l j q) ∧ Kp (fun x => x = b) w1 lw) (l.length - (j + 1)) ?_ ?_
  · refine ⟨_, j + 1, upds_self ⟨rfl, rfl, rfl, rfl, rfl, trivial⟩, ?_⟩
    exact ⟨by omega, by omega, by rw [delTo_start l j hjl]; exact hs_w1, Kp.refl _⟩
  · intro lk0 lf0 wl hI0
    obtain ⟨gl0, q, rfl, hqk, hjq, hS, hkl0⟩ := hI0
    have hbv_wl := hbv_w1.kp hkl0 hne
    have hkS_wl := hkS_w1.comp hkl0 (fun x _ e => e)
    have hsl := hkl0.size
    refine seq_ ?_
    refine seq_ ?_
    refine region_ ?_
    refine wl_valE (v := .int .i64 ((q : Nat) : Int)) rfl (rf_move rfl) rfl ?_
    refine wl_valE (v := .slice (some ⟨b, o, none⟩) l.length cap) rfl (rf_move rfl) rfl ?_
    refine wl_valE (v := .int .i64 ((l.length : Nat) : Int)) rfl (rf_len_slice Tryz.underlying57 rfl rfl) rfl ?_
    refine wl_valE (v := .bool (decide (((q : Nat) : Int) < ((l.length : Nat) : Int)))) rfl (rf_lss rfl rfl rfl rfl) rfl ?_
    refine wl_nil ?_
    refine thn ?_
    refine cond_ (t := decide (((q : Nat) : Int) < ((l.length : Nat) : Int))) rfl rfl (fun c19 => ?_) (fun c19 => ?_)
    · have c19p := of_decide_eq_true c19
      obtain ⟨x, hx⟩ : ∃ x, l[q]? = some x := ⟨_, List.getElem?_eq_getElem (by omega)⟩
      have hx2 := delTo_get hjq hx
      obtain ⟨y, hy⟩ : ∃ y, (delTo l j q)[q - 1]? = some y := ⟨_, List.getElem?_eq_getElem (by rw [delTo_length l j q hjq (by omega)]; omega)⟩
      have hkl1 : Kp (fun x => x = b) wl wl := Kp.refl _
      refine skip_ ?_
      refine thn ?_
      refine seq_ ?_
      refine block_ ?_
      refine seq_ ?_
      refine region_ ?_
      refine wl_valE (v := .slice (some ⟨b, o, none⟩) l.length cap) rfl (rf_move rfl) rfl ?_
      refine wl_valE (v := .int .i64 ((q : Nat) : Int)) rfl (rf_move rfl) rfl ?_
      refine wl_valE (v := .pointer (some ⟨b, o + q, none⟩)) rfl (rf_indexAddr Tryz.underlying57 ti3 rfl rfl rfl rfl (by omega) (by omega)) (by simp) ?_
      refine wl_valE (v := .int .i64 x) rfl (rf_load Tryz.underlying3 rfl rfl rfl (el1 (hS.cell hx2 0 _ rfl))) rfl ?_
      refine wl_valE (v := .int .i64 x) rfl (rf_assign rfl) rfl ?_
      refine wl_nil ?_
      refine thn ?_
      refine seq_ ?_
      refine region_ ?_
      refine wl_valE (v := .func (.func 53) #[] #[.pointer (some ⟨bv, 0, none⟩)]) rfl (rf_move rfl) rfl ?_
      refine wl_valE (v := .int .i64 x) rfl (rf_move rfl) rfl ?_
      refine wl_ret rfl (isv_ret x v0 bv wl hbv_wl) (rf_callv (fs := []) (cs := [.pointer (some ⟨bv, 0, none⟩)]) Tryz.call53 rfl rfl rfl rfl) ?_
      rintro _ w2 ⟨rfl, hk2⟩
      have hbv_w2 := hbv_wl.keep hk2
      have hkS_w2 := hkS_wl.comp hk2 (fun _ _ e => e.elim)
      have hS_w2 := hS.keep hk2
      have hkl1_w2 := hkl1.comp hk2 (fun _ _ e => e.elim)
      have hs2 := hk2.size
      refine wl_valE (v := .bool (!(decide (x = v0)))) rfl (rf_not rfl rfl) rfl ?_
      refine wl_nil ?_
      refine thn ?_
      refine cond_ (t := !(decide (x = v0))) rfl rfl (fun c29 => ?_) (fun c29 => ?_)
      · have c29p := of_decide_eq_false (bnotT c29)
        refine seq_ ?_
        refine region_ ?_
        refine wl_valE (v := .slice (some ⟨b, o, none⟩) l.length cap) rfl (rf_move rfl) rfl ?_
        refine wl_valE (v := .int .i64 ((q - 1 : Nat) : Int)) rfl (rf_move rfl) rfl ?_
        refine wl_valE (v := .int .i64 x) rfl (rf_move rfl) rfl ?_
        refine wl_valE (v := .pointer (some ⟨b, o + (q - 1), none⟩)) rfl (rf_indexAddr Tryz.underlying57 ti3 rfl rfl rfl rfl (by omega) (by omega)) (by simp) ?_
        refine wl_storeEl (i := q - 1) (j := 0) (q := x) (u := .int .i64 x) (c := [.int .i64 x]) encI_len ti3 rfl rfl rfl (by simp) rfl rfl rfl (by simp [Value.oneCell']) hS_w2 hy (Nat.le_of_ble_eq_true rfl) rfl ?_
        intro w3 hk3 ha3
        have hbv_w3 := hbv_w2.kp hk3 hne
        have hkS_w3 := hkS_w2.comp hk3 (fun x _ e => e)
        have hkl1_w3 := hkl1_w2.comp hk3 (fun x _ e => e)
        have hs3 := hk3.size
        refine wl_nil ?_
        refine thn ?_
        refine region_ ?_
        refine wl_valE (v := .int .i64 ((q - 1 : Nat) : Int)) rfl (rf_move rfl) rfl ?_
        refine wl_valE (v := .int .i64 ((q : Nat) : Int)) rfl (rf_add rfl rfl rfl rfl (by rw [IntWalk.i64_in _ (by omega)]; omega)) rfl ?_
        refine wl_valE (v := .int .i64 ((q : Nat) : Int)) rfl (rf_assign rfl) rfl ?_
        refine wl_nil ?_
        refine bln ?_
        refine thn ?_
        refine region_ ?_
        refine wl_valE (v := .int .i64 ((q : Nat) : Int)) rfl (rf_move rfl) rfl ?_
        refine wl_valE (v := .int .i64 ((q + 1 : Nat) : Int)) rfl (rf_add rfl rfl rfl rfl (IntWalk.i64_in _ (by omega))) rfl ?_
        refine wl_valE (v := .int .i64 ((q + 1 : Nat) : Int)) rfl (rf_assign rfl) rfl ?_
        refine wl_nil ?_
        refine thn ?_
        refine ⟨lk0 - 1, _, rfl, (by omega), _, q + 1, upds_self ⟨rfl, rfl, rfl, rfl, rfl, trivial⟩, ?_⟩
        exact ⟨by omega, by omega, by rw [← delTo_succ hjq hx]; exact ha3, hkl0.comp (hkl1_w3) (fun x _ e => e)⟩
      · have c29p := of_decide_eq_true (bnotF c29)
        exact absurd (of_decide_eq_true (bnotF c29)) (hno q x (by omega) hx)
    · have c19p := of_decide_eq_false c19
      obtain rfl : l.length = q := by omega
      refine exit_ ?_
      refine thx (thx (blx ?_))
      refine thn ?_
      refine seq_ ?_
      refine region_ ?_
      refine wl_valE (v := .slice (some ⟨b, o, none⟩) l.length cap) rfl (rf_move rfl) rfl ?_
      refine wl_valE (v := .int .i64 ((l.length - 1 : Nat) : Int)) rfl (rf_move rfl) rfl ?_
      refine wl_valE rfl (rf_sliceFrom (l := l.length - 1) Tryz.underlying57 ti3 rfl rfl rfl rfl (by omega)) rfl ?_
      refine wl_clearTail (i := l.length - 1) Tryz.underlying57 ti3 rfl (by simp [Value.cells, Value.oneCell']) rfl rfl (fun _ => by rw [if_neg (by omega)]; simp [add_at]) (by rw [delTo_length l j _ hjl (by omega)]; omega) hS encI_len ?_
      intro w4 hk4 ha4
      have hbv_w4 := hbv_wl.kp hk4 hne
      have hkS_w4 := hkS_wl.comp hk4 (fun x _ e => e)
      have hs4 := hk4.size
      refine wl_nil ?_
      refine thn ?_
      refine seq_ ?_
      refine region_ ?_
      refine wl_valE (v := .slice (some ⟨b, o, none⟩) l.length cap) rfl (rf_move rfl) rfl ?_
      refine wl_valE (v := .int .i64 ((l.length - 1 : Nat) : Int)) rfl (rf_move rfl) rfl ?_
      refine wl_valE (v := .slice (some ⟨b, o, none⟩) (l.length - 1) cap) rfl (rf_sliceTo (h := l.length - 1) Tryz.underlying57 ti3 rfl rfl rfl rfl (by omega)) rfl ?_
      refine wl_valE (v := .slice (some ⟨b, o, none⟩) (l.length - 1) cap) rfl (rf_assign rfl) rfl ?_
      refine wl_nil ?_
      refine thn ?_
      refine ret_ ?_
      refine fin1 (v := .slice (some ⟨b, o, none⟩) (l.length - 1) cap) Tryz.results51 rfl rfl ?_
      refine ⟨rfl, ?_, hkS_w4⟩
      have h := ha4
      rw [delTo_end l j hjl, erase_filter hj hno] at h
      exact h
theorem clone_ret (vs : Value) (F : Nat → Prop) (l : List Int) (w : World) (hr : Rd encI 1 w F vs l) (h8 : l.length * 8 ≤ 140737488355328) (hp : 0 < l.length) :
    Ret Tryz.prog 52 [vs] w fun v w' => (∃ b o cap, v = .slice (some ⟨b, o, none⟩) l.length cap ∧ SlAt encI 1 3 w' b o cap l ∧ w.heap.size ≤ b) ∧ Kp none_ w w' := by
  obtain ⟨sb, so, scap, rfl, hscap, _, _, _⟩ := hr.get hp
  have hkw : Kp none_ w w := Kp.refl w
  refine enterR Tryz.func52 rfl Tryz.ntmps52 rfl ?_
  intro g0
  refine seq_ ?_
  refine region_ ?_
  refine wl_valE (v := .slice none 0 0) rfl (rf_assign rfl) rfl ?_
  refine wl_nil ?_
  refine thn ?_
  refine seq_ ?_
  refine seq_ ?_
  refine region_ ?_
  refine wl_valE (v := .slice (some ⟨sb, so, none⟩) l.length scap) rfl (rf_move rfl) rfl ?_
  refine wl_valE (v := .bool false) rfl (rf_eqlSN Tryz.underlying57 rfl rfl rfl rfl) rfl ?_
  refine wl_nil ?_
  refine thn ?_
  refine condF rfl rfl ?_
  refine skip_ ?_
  refine thn ?_
  refine seq_ ?_
  refine region_ ?_
  refine wl_buildSlice0 Tryz.underlying57 ti3 ?_
  intro b1 w1 hg1 hk1 hb1
  have hr_w1 := hr.keep hk1
  have hkw_w1 := hkw.comp hk1 (fun _ _ e => e.elim)
  have hs1 := hk1.size
  refine wl_valE (v := .slice (some ⟨sb, so, none⟩) l.length scap) rfl (rf_move rfl) rfl ?_
  refine wl_append encI_len encI_one Tryz.underlying57 ti3 rfl rfl rfl rfl rfl ((SlAt.of_blk (l := []) encI_len (by simp) hb1).sl (F := fun b => b = b1) rfl) (hr_w1) (by simp; omega) (by simp; omega) ?_
  intro v2 w2 hk2 ha2
  have hkw_w2 := hkw_w1.comp hk2 (fun b h e => by omega)
  have hs2 := hk2.size
  refine wl_valE (v := v2) rfl (rf_assign rfl) rfl ?_
  refine wl_nil ?_
  refine thn ?_
  refine ret_ ?_
  refine fin1 (v := v2) Tryz.results52 rfl rfl ?_
  obtain ⟨b, o, cap, e, hb, hS⟩ := ha2.at hp
  exact ⟨⟨b, o, cap, e, hS, by rcases hb with h | h <;> omega⟩, hkw_w2⟩
end Go.Proofs.YtojcddlpkfhodaaGreat.W
