import Derived.Test.YtiidihgimcebgaaC4
import Derived.KernelRfl
namespace Go.Proofs.Ytiidihgimcebgaa.W
open Go Go.Wk
set_option linter.unusedVariables false
set_option linter.unusedSimpArgs false

theorem ppf_ext {ps : List Nat} {p : Nat} {l : List (Option Nat)} (h : ∀ j, some j ∈ l → j < ps.length) : l.map (ppf (ps ++ [p])) = l.map (ppf ps) := by
  apply List.map_congr_left
  intro x hx
  cases x with
  | none => rfl
  | some j => simp only [ppf, pof, Option.map_some]; rw [List.getD_eq_getElem?_getD, List.getD_eq_getElem?_getD, List.getElem?_append_left (h j hx)]
theorem pof_last (ps : List Nat) (p : Nat) : pof (ps ++ [p]) ps.length = p := by simp [pof]
theorem pof_old {ps : List Nat} {p i : Nat} (h : i < ps.length) : pof (ps ++ [p]) i = pof ps i := by unfold pof; rw [List.getD_eq_getElem?_getD, List.getD_eq_getElem?_getD, List.getElem?_append_left h]
attribute [local semireducible] choreH in
theorem choreH_ext {ps : List Nat} {p i : Nat} {c : Cho} (hi : i < ps.length) (h : ∀ j, some j ∈ c.bh → j < ps.length) : choreH (ps ++ [p]) i c = choreH ps i c := by
  unfold choreH; rw [pof_old hi, ppf_ext h]
theorem chL_ext {ps : List Nat} {p : Nat} : ∀ {cs : List Cho} {k : Nat}, k + cs.length ≤ ps.length → (∀ c ∈ cs, ∀ j, some j ∈ c.bh → j < ps.length) → chL (ps ++ [p]) k cs = chL ps k cs
  | [], _, _, _ => rfl
  | c :: r, k, hl, h => by
    simp only [List.length_cons] at hl
    show choreH _ k c :: chL _ (k + 1) r = choreH _ k c :: chL _ (k + 1) r
    rw [choreH_ext (by omega) (h c (by simp)), chL_ext (by omega) (fun d hd => h d (by simp [hd]))]
theorem OkB.mem {cs : List Cho} (h : OkB cs) : ∀ c ∈ cs, ∀ j, some j ∈ c.bh → j < cs.length := fun c hc j hj => by
  obtain ⟨i, hi⟩ := List.mem_iff_getElem?.1 hc
  exact (h i c hi).2.2 j hj
theorem ChH.push {w0 w : World} {S0 : Nat → Prop} {R L : List HP} {ps : List Nat} {cs : List Cho} {p : Nat} {left : Int} {a : Option Addr} {n c : Nat} {bh : List (Option Nat)} (H : St w0 S0 R w L) (k b s : Nat) (hA : getH L k = ChH ps cs) (hB : getH L b = blkH p #[.int .i64 left, .slice a n c] 55) (hS : getH L s = slH encOP 1 30 a n c (bh.map (ppf ps)))
    (hi : okI L [b, s] = true) (hi2 : okI (putsH L [b, s] [choreH (ps ++ [p]) cs.length ⟨left, bh⟩]) [k, b] = true) (hk : getH (putsH L [b, s] [choreH (ps ++ [p]) cs.length ⟨left, bh⟩]) k = getH L k) (hb : getH (putsH L [b, s] [choreH (ps ++ [p]) cs.length ⟨left, bh⟩]) b = choreH (ps ++ [p]) cs.length ⟨left, bh⟩) (hl : ps.length = cs.length) (hok : OkB cs) (hbh : ∀ j, some j ∈ bh → j < cs.length) :
    St w0 S0 R w (setH (setH (putsH L [b, s] [choreH (ps ++ [p]) cs.length ⟨left, bh⟩]) k (ChH (ps ++ [p]) (cs ++ [⟨left, bh⟩]))) b emp) := by
  have e1 : pof (ps ++ [p]) cs.length = p := by rw [← hl]; exact pof_last ps p
  have e2 : bh.map (ppf (ps ++ [p])) = bh.map (ppf ps) := ppf_ext (by rw [hl]; exact hbh)
  have H1 := choreH.close_ (ps := ps ++ [p]) (i := cs.length) (c := ⟨left, bh⟩) H [b, s] ⟨a, n, c⟩ trivial (by simp only [pickH, List.map_cons, List.map_nil, hB, hS, e1, e2]) hi
  have e3 : chL (ps ++ [p]) 0 cs = chL ps 0 cs := chL_ext (by omega) (by rw [hl]; exact hok.mem)
  have H2 := H1.pushI k b (m := chL ps 0 cs) (hk.trans hA) hb hi2
  have e4 : chL ps 0 cs ++ [choreH (ps ++ [p]) cs.length ⟨left, bh⟩] = chL (ps ++ [p]) 0 (cs ++ [⟨left, bh⟩]) := by rw [chL_app, e3, Nat.zero_add]
  rw [e4] at H2
  exact H2
theorem ChH.nil {w0 w : World} {S0 : Nat → Prop} {R L : List HP} (H : St w0 S0 R w L) : St w0 S0 R w (L ++ [ChH [] []]) :=
  H.addAll
theorem map_some_at {ps : List Nat} {i : Nat} {y : Option Nat} (h : (ps.map some)[i]? = some y) : y = some (pof ps i) ∧ i < ps.length := by
  rw [List.getElem?_map] at h
  cases hq : ps[i]? with
  | none => rw [hq] at h; cases h
  | some p =>
    rw [hq] at h; cases h
    exact ⟨by unfold pof; rw [List.getD_eq_getElem?_getD, hq]; rfl, (List.getElem?_eq_some_iff.1 hq).1⟩
def mkB (x : MakeR) : HP := rdH encI 1 x.behind.a x.behind.n x.behind.c x.bl
def bhF (i : Nat) (l : List Int) : List (Option Nat) := if i = 0 then [] else l.map fun b => some (withinF b (i : Int)).toNat
def mkCs : Nat → List MakeR → List Cho
  | _, [] => []
  | k, x :: r => ⟨clip x.steps, bhF k x.bl⟩ :: mkCs (k + 1) r
def mkTs (n : Nat) (turn : Int) : Nat → Nat → List (Option Nat)
  | _, 0 => []
  | i, f + 1 => some (withinF ((i : Int) + withinF turn (n : Int)) (n : Int)).toNat :: mkTs n turn (i + 1) f
theorem bhF_cons {i : Nat} {b : Int} {l : List Int} (h : 0 < i) : bhF i (b :: l) = some (withinF b (i : Int)).toNat :: bhF i l := by
  unfold bhF; rw [if_neg (by omega), if_neg (by omega)]; rfl
theorem bhF_all {i k : Nat} {bs : List (Option Nat)} {l : List Int} (h : l.length ≤ k) : bs ++ bhF i (l.drop k) = bs := by
  rw [drop_all h]; unfold bhF; split <;> simp
theorem bhF_zero {i k : Nat} {bs : List (Option Nat)} {l : List Int} (h : i = 0) : bs ++ bhF i (l.drop k) = bs := by
  unfold bhF; rw [if_pos h, List.append_nil]
theorem bhF_lt {i : Nat} {l : List Int} {j : Nat} (h : some j ∈ bhF i l) : j < i := by
  unfold bhF at h
  split at h
  · simp at h
  · rename_i h0
    obtain ⟨b, _, h2⟩ := List.mem_map.1 h
    have := withinF_in (n := b) (m := (i : Int)) (by omega)
    have h3 := Option.some.inj h2
    omega
theorem bhF_len (i : Nat) (l : List Int) : (bhF i l).length ≤ l.length := by unfold bhF; split <;> simp
theorem clip_in (s : Int) : 0 ≤ clip s ∧ clip s ≤ 65536 := by unfold clip; omega
theorem OkB.push {cs : List Cho} {c : Cho} (h : OkB cs) (h0 : 0 ≤ c.left ∧ c.left ≤ 65536) (hb : ∀ j, some j ∈ c.bh → j < cs.length) : OkB (cs ++ [c]) := by
  intro i d hd
  rw [List.getElem?_append] at hd
  split at hd
  · have := h i d hd
    exact ⟨this.1, this.2.1, fun j hj => by rw [List.length_append]; have := this.2.2 j hj; omega⟩
  · rw [List.getElem?_singleton] at hd
    split at hd
    · cases hd; exact ⟨h0.1, h0.2, fun j hj => by rw [List.length_append]; have := hb j hj; omega⟩
    · cases hd
theorem OkB.nil : OkB [] := fun i c h => by simp at h
theorem totF_in : ∀ l : List Int, 0 ≤ totF l ∧ totF l ≤ 65536 * ((l.length : Nat) : Int)
  | [] => by simp [totF]
  | s :: r => by
    have := totF_in r
    have := clip_in s
    simp only [totF, List.length_cons]; omega
theorem drop_eq {l l2 : List Int} {i : Nat} {x y : Int} (hx : l[i]? = some x) (hy : l2[i]? = some y) (h : (l.drop i = l2.drop i) = (l = l2)) : (x = y ∧ l.drop (i + 1) = l2.drop (i + 1)) = (l = l2) := by
  rw [← h, drop_at hx, drop_at hy, List.cons.injEq]
theorem total_tr (a : Option Addr) (n c : Nat) (l : List MakeR) (hn : n ≤ 4398046511104) : Tr Try.prog 16 [.slice a n c] [rdH encMake 2 a n c l] [] (fun v m => v = .int .i64 (totF (l.map (·.steps))) ∧ m = []) := by
  intro w0 S0 H0
  have hl1 := (rd_len (H0.rdR 0 Le.rfl)).1
  refine enterR Try.func16 rfl Try.ntmps16 rfl ?_
  intro g0
  refine seq_ ?_
  refine region_ ?_
  refine wl_valE (v := .int .i64 (0 : Int)) rfl (rf_assign rfl) rfl ?_
  refine wl_nil ?_
  refine thn ?_
  refine seq_ ?_
  refine region_ ?_
  refine wl_valE (v := .int .i64 (0 : Int)) rfl (rf_assign rfl) rfl ?_
  refine wl_nil ?_
  refine thn ?_
  refine seq_ ?_
  refine seq_ ?_
  refine region_ ?_
  refine wl_valE (v := .int .i64 (0 : Int)) rfl (rf_assign rfl) rfl ?_
  refine wl_nil ?_
  refine thn ?_
  refine block_ ?_
  refine loop_ (fun qk_ qf_ qw_ => ∃ (g : Nat → Value) (i : Nat) (x : Int), qf_ = upds g [(0, .slice a n c), (3, .int .i64 x), (4, .int .i64 ((i : Nat) : Int))] ∧ qk_ = n - i ∧ (i ≤ n ∧ 0 ≤ x ∧ x ≤ 65536 * ((i : Nat) : Int)) ∧ (x + totF ((l.drop i).map (·.steps)) = totF (l.map (·.steps))) ∧ St w0 S0 [rdH encMake 2 a n c l] qw_ []) (n - 0) ?_ ?_
  · refine ⟨_, 0, (0 : Int), upds_self ⟨rfl, rfl, rfl, trivial⟩, rfl, ⟨Nat.zero_le _, by omega, by omega⟩, (Int.zero_add _), H0.pick' [] rfl rfl⟩
  · rintro lk0 _ wl0 ⟨gl0, i, x, rfl, hlk0, hr0, hr1, HL0⟩
    refine seq_ ?_
    refine seq_ ?_
    refine region_ ?_
    refine wl_valE (v := .int .i64 ((i : Nat) : Int)) rfl (rf_move rfl) rfl ?_
    refine wl_valE (v := .slice a n c) rfl (rf_move rfl) rfl ?_
    refine wl_valE (v := .int .i64 ((n : Nat) : Int)) rfl (rf_len_slice Try.underlying22 rfl rfl) rfl ?_
    refine wl_valE (v := .bool (decide (((i : Nat) : Int) < ((n : Nat) : Int)))) rfl (rf_lss rfl rfl rfl rfl) rfl ?_
    refine wl_nil ?_
    refine thn ?_
    refine cond_ (t := decide (((i : Nat) : Int) < ((n : Nat) : Int))) rfl rfl (fun c8 => ?_) (fun c8 => ?_)
    · have c8p := of_decide_eq_true c8
      refine skip_ ?_
      refine thn ?_
      refine seq_ ?_
      refine block_ ?_
      refine block_ ?_
      refine seq_ ?_
      refine region_ ?_
      refine wl_valE (v := .slice a n c) rfl (rf_move rfl) rfl ?_
      refine wl_valE (v := .int .i64 ((i : Nat) : Int)) rfl (rf_move rfl) rfl ?_
      refine wl_valE (v := .pointer (some ⟨ab a, ao a + i * 2, none⟩)) rfl (rf_indexAddrH Try.underlying22 ti35 rfl rfl rfl rfl (by omega) (by omega) (HL0.rdR 0 Le.rfl)) rfl ?_
      refine wl_valE (v := .pointer (some ⟨ab a, ao a + i * 2, none⟩)) rfl (rf_fieldAddr Try.underlying35 rfl ti3 rfl rfl) rfl ?_
      have hn2 := rd_len (HL0.rdR 0 Le.rfl)
      obtain ⟨x1, hx1⟩ : ∃ q_, l[i]? = some q_ := ⟨_, List.getElem?_eq_getElem (by omega)⟩
      refine wl_valE (v := .int .i64 x1.steps) rfl (rf_load Try.underlying3 rfl rfl rfl (rd_el (HL0.rdR 0 Le.rfl) hx1 0 _ rfl)) rfl ?_
      refine wl_valE (v := .bool (decide ((65536 : Int) < x1.steps))) rfl (rf_gtr rfl rfl rfl rfl) rfl ?_
      refine wl_valE (v := .bool (decide ((65536 : Int) < x1.steps))) rfl (rf_assign rfl) rfl ?_
      refine wl_nil ?_
      refine thn ?_
      refine cond_ (t := decide ((65536 : Int) < x1.steps)) rfl rfl (fun c11 => ?_) (fun c11 => ?_)
      · have c11p := of_decide_eq_true c11
        refine region_ ?_
        refine wl_valE (v := .int .i64 x) rfl (rf_move rfl) rfl ?_
        refine wl_valE (v := .int .i64 (x + (65536 : Int))) rfl (rf_add rfl rfl rfl rfl (IntWalk.i64_in _ (by omega))) rfl ?_
        refine wl_valE (v := .int .i64 (x + (65536 : Int))) rfl (rf_assign rfl) rfl ?_
        refine wl_nil ?_
        refine bln ?_
        refine bln ?_
        refine thn ?_
        refine region_ ?_
        refine wl_valE (v := .int .i64 ((i : Nat) : Int)) rfl (rf_move rfl) rfl ?_
        refine wl_valE (v := .int .i64 ((i + 1 : Nat) : Int)) rfl (rf_add rfl rfl rfl rfl (IntWalk.i64_in _ (by omega))) rfl ?_
        refine wl_valE (v := .int .i64 ((i + 1 : Nat) : Int)) rfl (rf_assign rfl) rfl ?_
        refine wl_nil ?_
        refine thn ?_
        refine ⟨n - (i + 1), _, rfl, (by omega), _, i + 1, x + (65536 : Int), upds_self ⟨rfl, rfl, rfl, trivial⟩, rfl, ⟨by omega, by omega, by omega⟩, by rw [← hr1, drop_at hx1, List.map_cons]; simp only [totF]; unfold clip; omega, HL0.pick' [] rfl rfl⟩
      · have c11p := of_decide_eq_false c11
        refine seq_ ?_
        refine region_ ?_
        refine wl_valE (v := .slice a n c) rfl (rf_move rfl) rfl ?_
        refine wl_valE (v := .int .i64 ((i : Nat) : Int)) rfl (rf_move rfl) rfl ?_
        refine wl_valE (v := .pointer (some ⟨ab a, ao a + i * 2, none⟩)) rfl (rf_indexAddrH Try.underlying22 ti35 rfl rfl rfl rfl (by omega) (by omega) (HL0.rdR 0 Le.rfl)) rfl ?_
        refine wl_valE (v := .pointer (some ⟨ab a, ao a + i * 2, none⟩)) rfl (rf_fieldAddr Try.underlying35 rfl ti3 rfl rfl) rfl ?_
        refine wl_valE (v := .int .i64 x1.steps) rfl (rf_load Try.underlying3 rfl rfl rfl (rd_el (HL0.rdR 0 Le.rfl) hx1 0 _ rfl)) rfl ?_
        refine wl_valE (v := .bool (decide ((0 : Int) < x1.steps))) rfl (rf_gtr rfl rfl rfl rfl) rfl ?_
        refine wl_valE (v := .bool (decide ((0 : Int) < x1.steps))) rfl (rf_assign rfl) rfl ?_
        refine wl_nil ?_
        refine thn ?_
        refine cond_ (t := decide ((0 : Int) < x1.steps)) rfl rfl (fun c20 => ?_) (fun c20 => ?_)
        · have c20p := of_decide_eq_true c20
          refine region_ ?_
          refine wl_valE (v := .int .i64 x) rfl (rf_move rfl) rfl ?_
          refine wl_valE (v := .slice a n c) rfl (rf_move rfl) rfl ?_
          refine wl_valE (v := .int .i64 ((i : Nat) : Int)) rfl (rf_move rfl) rfl ?_
          refine wl_valE (v := .pointer (some ⟨ab a, ao a + i * 2, none⟩)) rfl (rf_indexAddrH Try.underlying22 ti35 rfl rfl rfl rfl (by omega) (by omega) (HL0.rdR 0 Le.rfl)) rfl ?_
          refine wl_valE (v := .pointer (some ⟨ab a, ao a + i * 2, none⟩)) rfl (rf_fieldAddr Try.underlying35 rfl ti3 rfl rfl) rfl ?_
          refine wl_valE (v := .int .i64 x1.steps) rfl (rf_load Try.underlying3 rfl rfl rfl (rd_el (HL0.rdR 0 Le.rfl) hx1 0 _ rfl)) rfl ?_
          refine wl_valE (v := .int .i64 (x + x1.steps)) rfl (rf_add rfl rfl rfl rfl (IntWalk.i64_in _ (by omega))) rfl ?_
          refine wl_valE (v := .int .i64 (x + x1.steps)) rfl (rf_assign rfl) rfl ?_
          refine wl_nil ?_
          refine bln ?_
          refine bln ?_
          refine thn ?_
          refine region_ ?_
          refine wl_valE (v := .int .i64 ((i : Nat) : Int)) rfl (rf_move rfl) rfl ?_
          refine wl_valE (v := .int .i64 ((i + 1 : Nat) : Int)) rfl (rf_add rfl rfl rfl rfl (IntWalk.i64_in _ (by omega))) rfl ?_
          refine wl_valE (v := .int .i64 ((i + 1 : Nat) : Int)) rfl (rf_assign rfl) rfl ?_
          refine wl_nil ?_
          refine thn ?_
          refine ⟨n - (i + 1), _, rfl, (by omega), _, i + 1, x + x1.steps, upds_self ⟨rfl, rfl, rfl, trivial⟩, rfl, ⟨by omega, by omega, by omega⟩, by rw [← hr1, drop_at hx1, List.map_cons]; simp only [totF]; unfold clip; omega, HL0.pick' [] rfl rfl⟩
        · have c20p := of_decide_eq_false c20
          refine skip_ ?_
          refine bln ?_
          refine bln ?_
          refine thn ?_
          refine region_ ?_
          refine wl_valE (v := .int .i64 ((i : Nat) : Int)) rfl (rf_move rfl) rfl ?_
          refine wl_valE (v := .int .i64 ((i + 1 : Nat) : Int)) rfl (rf_add rfl rfl rfl rfl (IntWalk.i64_in _ (by omega))) rfl ?_
          refine wl_valE (v := .int .i64 ((i + 1 : Nat) : Int)) rfl (rf_assign rfl) rfl ?_
          refine wl_nil ?_
          refine thn ?_
          refine ⟨n - (i + 1), _, rfl, (by omega), _, i + 1, x, upds_self ⟨rfl, rfl, rfl, trivial⟩, rfl, ⟨by omega, by omega, by omega⟩, by rw [← hr1, drop_at hx1, List.map_cons]; simp only [totF]; unfold clip; omega, HL0.pick' [] rfl rfl⟩
    · have c8p := of_decide_eq_false c8
      refine exit_ ?_
      refine thx (thx (blx ?_))
      refine thn ?_
      refine seq_ ?_
      refine region_ ?_
      refine wl_valE (v := .int .i64 x) rfl (rf_move rfl) rfl ?_
      refine wl_valE (v := .int .i64 x) rfl (rf_assign rfl) rfl ?_
      refine wl_nil ?_
      refine thn ?_
      refine ret_ ?_
      refine fin1 (v := .int .i64 x) Try.results16 rfl rfl ?_
      rw [drop_all (by omega)] at hr1
      exact ⟨_, ⟨by rw [← hr1]; simp [totF], rfl⟩, HL0.pick' [] rfl rfl⟩
theorem same_tr (a : Option Addr) (n c : Nat) (l : List Int) (a2 : Option Addr) (n2 c2 : Nat) (l2 : List Int) (hn : n ≤ 9223372036854775806) : Tr Try.prog 27 [.slice a n c, .slice a2 n2 c2] [rdH encI 1 a n c l, rdH encI 1 a2 n2 c2 l2] [] (fun v m => v = .bool (decide (l = l2)) ∧ m = []) := by
  intro w0 S0 H0
  have hl1 := (rd_len (H0.rdR 0 Le.rfl)).1
  have hl2 := (rd_len (H0.rdR 1 Le.rfl)).1
  refine enterR Try.func27 rfl Try.ntmps27 rfl ?_
  intro g0
  refine seq_ ?_
  refine region_ ?_
  refine wl_valE (v := .bool false) rfl (rf_assign rfl) rfl ?_
  refine wl_nil ?_
  refine thn ?_
  refine seq_ ?_
  refine seq_ ?_
  refine region_ ?_
  refine wl_valE (v := .slice a n c) rfl (rf_move rfl) rfl ?_
  refine wl_valE (v := .int .i64 ((n : Nat) : Int)) rfl (rf_len_slice Try.underlying23 rfl rfl) rfl ?_
  refine wl_valE (v := .slice a2 n2 c2) rfl (rf_move rfl) rfl ?_
  refine wl_valE (v := .int .i64 ((n2 : Nat) : Int)) rfl (rf_len_slice Try.underlying23 rfl rfl) rfl ?_
  refine wl_valE (v := .bool (decide (((n : Nat) : Int) ≠ ((n2 : Nat) : Int)))) rfl (rf_neq rfl rfl rfl rfl) rfl ?_
  refine wl_nil ?_
  refine thn ?_
  refine cond_ (t := decide (((n : Nat) : Int) ≠ ((n2 : Nat) : Int))) rfl rfl (fun c10 => ?_) (fun c10 => ?_)
  · have c10p := of_decide_eq_true c10
    refine seq_ ?_
    refine region_ ?_
    refine wl_valE (v := .bool false) rfl (rf_assign rfl) rfl ?_
    refine wl_nil ?_
    refine thn ?_
    refine ret_ ?_
    refine thr ?_
    refine fin1 (v := .bool false) Try.results27 rfl rfl ?_
    exact ⟨_, ⟨by rw [decide_eq_false]; intro e; rw [e] at hl1; exact c10p (by omega), rfl⟩, H0.pick' [] rfl rfl⟩
  · have c10p := of_decide_eq_false c10
    refine skip_ ?_
    refine thn ?_
    refine seq_ ?_
    refine seq_ ?_
    refine region_ ?_
    refine wl_valE (v := .int .i64 (0 : Int)) rfl (rf_assign rfl) rfl ?_
    refine wl_nil ?_
    refine thn ?_
    refine block_ ?_
    refine loop_ (fun qk_ qf_ qw_ => ∃ (g : Nat → Value) (i : Nat), qf_ = upds g [(0, .slice a n c), (1, .slice a2 n2 c2), (5, .int .i64 ((i : Nat) : Int))] ∧ qk_ = n - i ∧ (i ≤ n) ∧ ((l.drop i = l2.drop i) = (l = l2)) ∧ St w0 S0 [rdH encI 1 a n c l, rdH encI 1 a2 n2 c2 l2] qw_ []) (n - 0) ?_ ?_
    · refine ⟨_, 0, upds_self ⟨rfl, rfl, rfl, trivial⟩, rfl, Nat.zero_le _, rfl, H0.pick' [] rfl rfl⟩
    · rintro lk0 _ wl0 ⟨gl0, i, rfl, hlk0, hr0, hr1, HL0⟩
      refine seq_ ?_
      refine seq_ ?_
      refine region_ ?_
      refine wl_valE (v := .int .i64 ((i : Nat) : Int)) rfl (rf_move rfl) rfl ?_
      refine wl_valE (v := .slice a n c) rfl (rf_move rfl) rfl ?_
      refine wl_valE (v := .int .i64 ((n : Nat) : Int)) rfl (rf_len_slice Try.underlying23 rfl rfl) rfl ?_
      refine wl_valE (v := .bool (decide (((i : Nat) : Int) < ((n : Nat) : Int)))) rfl (rf_lss rfl rfl rfl rfl) rfl ?_
      refine wl_nil ?_
      refine thn ?_
      refine cond_ (t := decide (((i : Nat) : Int) < ((n : Nat) : Int))) rfl rfl (fun c14 => ?_) (fun c14 => ?_)
      · have c14p := of_decide_eq_true c14
        refine skip_ ?_
        refine thn ?_
        refine seq_ ?_
        refine block_ ?_
        refine seq_ ?_
        refine region_q mixedP (by kernel_rfl) ?_
        refine qt_valE (v := .slice a n c) rfl (fun wq hq => rf_move rfl) rfl ?_
        refine qt_valE (v := .int .i64 ((i : Nat) : Int)) rfl (fun wq hq => rf_move rfl) rfl ?_
        refine qt_valE (v := .pointer (some ⟨ab a, ao a + i * 1, none⟩)) rfl (fun wq hq => rf_indexAddrH Try.underlying23 ti3 rfl rfl rfl rfl (by omega) (by omega) ((HL0.keep hq).rdR 0 Le.rfl)) rfl ?_
        have hn2 := rd_len (HL0.rdR 0 Le.rfl)
        obtain ⟨x1, hx1⟩ : ∃ q_, l[i]? = some q_ := ⟨_, List.getElem?_eq_getElem (by omega)⟩
        refine qt_valE (v := .int .i64 x1) rfl (fun wq hq => rf_load Try.underlying3 rfl rfl rfl (rd_el ((HL0.keep hq).rdR 0 Le.rfl) hx1 0 _ rfl)) rfl ?_
        refine qt_valE (v := .slice a2 n2 c2) rfl (fun wq hq => rf_move rfl) rfl ?_
        refine qt_valE (v := .int .i64 ((i : Nat) : Int)) rfl (fun wq hq => rf_move rfl) rfl ?_
        refine qt_valE (v := .pointer (some ⟨ab a2, ao a2 + i * 1, none⟩)) rfl (fun wq hq => rf_indexAddrH Try.underlying23 ti3 rfl rfl rfl rfl (by omega) (by omega) ((HL0.keep hq).rdR 1 Le.rfl)) rfl ?_
        have hn4 := rd_len (HL0.rdR 1 Le.rfl)
        obtain ⟨x3, hx3⟩ : ∃ q_, l2[i]? = some q_ := ⟨_, List.getElem?_eq_getElem (by omega)⟩
        refine qt_valE (v := .int .i64 x3) rfl (fun wq hq => rf_load Try.underlying3 rfl rfl rfl (rd_el ((HL0.keep hq).rdR 1 Le.rfl) hx3 0 _ rfl)) rfl ?_
        refine qt_valE (v := .bool (decide (x1 ≠ x3))) rfl (fun wq hq => rf_neq rfl rfl rfl rfl) rfl ?_
        refine qt_nil ?_
        intro w5 hk5
        have H5 := HL0.keep hk5
        refine thn ?_
        refine cond_ (t := decide (x1 ≠ x3)) rfl rfl (fun c25 => ?_) (fun c25 => ?_)
        · have c25p := of_decide_eq_true c25
          refine seq_ ?_
          refine region_ ?_
          refine wl_valE (v := .bool false) rfl (rf_assign rfl) rfl ?_
          refine wl_nil ?_
          refine thn ?_
          refine ret_ ?_
          refine blr (thr (thr (blr (thr ?_))))
          refine fin1 (v := .bool false) Try.results27 rfl rfl ?_
          exact ⟨_, ⟨by rw [decide_eq_false]; rw [← drop_eq hx1 hx3 hr1]; exact fun e => c25p e.1, rfl⟩, H5.pick' [] rfl rfl⟩
        · have c25p := of_decide_eq_false c25
          refine skip_ ?_
          refine bln ?_
          refine thn ?_
          refine region_ ?_
          refine wl_valE (v := .int .i64 ((i : Nat) : Int)) rfl (rf_move rfl) rfl ?_
          refine wl_valE (v := .int .i64 ((i + 1 : Nat) : Int)) rfl (rf_add rfl rfl rfl rfl (IntWalk.i64_in _ (by omega))) rfl ?_
          refine wl_valE (v := .int .i64 ((i + 1 : Nat) : Int)) rfl (rf_assign rfl) rfl ?_
          refine wl_nil ?_
          refine thn ?_
          refine ⟨n - (i + 1), _, rfl, (by omega), _, i + 1, upds_self ⟨rfl, rfl, rfl, trivial⟩, rfl, by omega, by rw [← drop_eq hx1 hx3 hr1]; simp; intro _; exact Decidable.of_not_not c25p, H5.pick' [] rfl rfl⟩
      · have c14p := of_decide_eq_false c14
        refine exit_ ?_
        refine thx (thx (blx ?_))
        refine thn ?_
        refine seq_ ?_
        refine region_ ?_
        refine wl_valE (v := .bool true) rfl (rf_assign rfl) rfl ?_
        refine wl_nil ?_
        refine thn ?_
        refine ret_ ?_
        refine fin1 (v := .bool true) Try.results27 rfl rfl ?_
        exact ⟨_, ⟨by rw [decide_eq_true]; rw [← hr1, drop_all (by omega), drop_all (by omega)], rfl⟩, HL0.pick' [] rfl rfl⟩
theorem ended_tr {ps : List Nat} {cs : List Cho} (hok : OkB cs) (hbl : ∀ (i : Nat) (c : Cho), cs[i]? = some c → c.bh.length ≤ 4398046511104) (hl : ps.length = cs.length) (a : Option Addr) (n c : Nat) (hn : n ≤ 4398046511104) : Tr Try.prog 20 [.slice a n c] [rdH encOP 1 a n c (ps.map some), ChH ps cs] [] (fun v m => v = .bool (cs.all fun c => decide (c.left = 0)) ∧ m = []) := by
  intro w0 S0 H0
  have hl1 := (rd_len (H0.rdR 0 Le.rfl)).1
  rw [List.length_map] at hl1
  refine enterR Try.func20 rfl Try.ntmps20 rfl ?_
  intro g0
  refine seq_ ?_
  refine region_ ?_
  refine wl_valE (v := .bool false) rfl (rf_assign rfl) rfl ?_
  refine wl_nil ?_
  refine thn ?_
  refine seq_ ?_
  refine seq_ ?_
  refine region_ ?_
  refine wl_valE (v := .int .i64 (0 : Int)) rfl (rf_assign rfl) rfl ?_
  refine wl_nil ?_
  refine thn ?_
  refine block_ ?_
  refine loop_ (fun qk_ qf_ qw_ => ∃ (g : Nat → Value) (i : Nat), qf_ = upds g [(0, .slice a n c), (3, .int .i64 ((i : Nat) : Int))] ∧ qk_ = n - i ∧ (i ≤ n) ∧ (((cs.drop i).all fun c => decide (c.left = 0)) = (cs.all fun c => decide (c.left = 0))) ∧ St w0 S0 [rdH encOP 1 a n c (ps.map some), ChH ps cs] qw_ []) (n - 0) ?_ ?_
  · refine ⟨_, 0, upds_self ⟨rfl, rfl, trivial⟩, rfl, Nat.zero_le _, rfl, H0.pick' [] rfl rfl⟩
  · rintro lk0 _ wl0 ⟨gl0, i, rfl, hlk0, hr0, hr1, HL0⟩
    refine seq_ ?_
    refine seq_ ?_
    refine region_ ?_
    refine wl_valE (v := .int .i64 ((i : Nat) : Int)) rfl (rf_move rfl) rfl ?_
    refine wl_valE (v := .slice a n c) rfl (rf_move rfl) rfl ?_
    refine wl_valE (v := .int .i64 ((n : Nat) : Int)) rfl (rf_len_slice Try.underlying26 rfl rfl) rfl ?_
    refine wl_valE (v := .bool (decide (((i : Nat) : Int) < ((n : Nat) : Int)))) rfl (rf_lss rfl rfl rfl rfl) rfl ?_
    refine wl_nil ?_
    refine thn ?_
    refine cond_ (t := decide (((i : Nat) : Int) < ((n : Nat) : Int))) rfl rfl (fun c7 => ?_) (fun c7 => ?_)
    · have c7p := of_decide_eq_true c7
      refine skip_ ?_
      refine thn ?_
      refine seq_ ?_
      refine block_ ?_
      refine seq_ ?_
      refine region_ ?_
      refine wl_valE (v := .slice a n c) rfl (rf_move rfl) rfl ?_
      refine wl_valE (v := .int .i64 ((i : Nat) : Int)) rfl (rf_move rfl) rfl ?_
      refine wl_valE (v := .pointer (some ⟨ab a, ao a + i * 1, none⟩)) rfl (rf_indexAddrH Try.underlying26 ti30 rfl rfl rfl rfl (by omega) (by omega) (HL0.rdR 0 Le.rfl)) rfl ?_
      have hn2 := rd_len (HL0.rdR 0 Le.rfl)
      obtain ⟨x1, hx1⟩ : ∃ q_, (ps.map some)[i]? = some q_ := ⟨_, List.getElem?_eq_getElem (by omega)⟩
      refine wl_valE (v := .pointer (x1.map fun b => ⟨b, 0, none⟩)) rfl (rf_load Try.underlying30 rfl rfl rfl (rd_el (HL0.rdR 0 Le.rfl) hx1 0 _ rfl)) rfl ?_
      obtain ⟨hpy, hip⟩ := map_some_at hx1
      subst hpy
      obtain ⟨d, hd⟩ : ∃ d, cs[i]? = some d := ⟨_, List.getElem?_eq_getElem (by omega)⟩
      refine wl_tr HL0 rfl [] (left_tr i d hd) rfl (.ro 1 Le.rfl .nil) (rf_call Try.call13 rfl rfl) rfl ?_
      rintro _ w3 _ ⟨rfl, rfl⟩ H3
      refine wl_valE (v := .bool (decide (d.left ≠ (0 : Int)))) rfl (rf_neq rfl rfl rfl rfl) rfl ?_
      refine wl_valE (v := .bool (decide (d.left ≠ (0 : Int)))) rfl (rf_move rfl) rfl ?_
      refine wl_split (decide (d.left ≠ (0 : Int))) (fun u4_6 => ?_) (fun u4_6 => ?_)
      · have u4_6p := of_decide_eq_true u4_6
        refine wl_guardF rfl rfl rfl u4_6 ?_
        refine wl_guardF rfl rfl rfl u4_6 ?_
        refine wl_guardF rfl rfl rfl u4_6 ?_
        refine wl_guardF rfl rfl rfl u4_6 ?_
        refine wl_guardF rfl rfl rfl u4_6 ?_
        refine wl_valE (v := .bool true) rfl (rf_pickT rfl rfl rfl u4_6) rfl ?_
        refine wl_nil ?_
        refine thn ?_
        refine condT rfl rfl ?_
        refine seq_ ?_
        refine region_ ?_
        refine wl_valE (v := .bool false) rfl (rf_assign rfl) rfl ?_
        refine wl_nil ?_
        refine thn ?_
        refine ret_ ?_
        refine blr (thr (thr (blr (thr ?_))))
        refine fin1 (v := .bool false) Try.results20 rfl rfl ?_
        exact ⟨_, ⟨by rw [← hr1, drop_at hd, List.all_cons, decide_eq_false (show ¬ d.left = 0 from u4_6p), Bool.false_and], rfl⟩, H3.pick' [] rfl rfl⟩
      · have u4_6p := of_decide_eq_false u4_6
        refine wl_guardT rfl rfl rfl u4_6 ?_
        refine wl_valE (v := .slice a n c) rfl (rf_move rfl) rfl ?_
        refine wl_guardT rfl rfl rfl u4_6 ?_
        refine wl_valE (v := .int .i64 ((i : Nat) : Int)) rfl (rf_move rfl) rfl ?_
        refine wl_guardT rfl rfl rfl u4_6 ?_
        refine wl_valE (v := .pointer (some ⟨ab a, ao a + i * 1, none⟩)) rfl (rf_indexAddrH Try.underlying26 ti30 rfl rfl rfl rfl (by omega) (by omega) (H3.rdR 0 Le.rfl)) rfl ?_
        refine wl_guardT rfl rfl rfl u4_6 ?_
        refine wl_valE (v := .pointer ((some (pof ps i)).map fun b => ⟨b, 0, none⟩)) rfl (rf_load Try.underlying30 rfl rfl rfl (rd_el (H3.rdR 0 Le.rfl) hx1 0 _ rfl)) rfl ?_
        refine wl_guardT rfl rfl rfl u4_6 ?_
        refine wl_tr H3 rfl [] (ready_tr hok hbl i d hd) rfl (.ro 1 Le.rfl .nil) (rf_call Try.call29 rfl rfl) rfl ?_
        rintro _ w4 _ ⟨rfl, rfl⟩ H4
        refine wl_valE (v := .bool (rdyC cs d)) rfl (rf_pickF rfl rfl rfl u4_6) rfl ?_
        refine wl_nil ?_
        refine thn ?_
        refine cond_ (t := rdyC cs d) rfl rfl (fun c22 => ?_) (fun c22 => ?_)
        · refine seq_ ?_
          refine region_ ?_
          refine wl_valE (v := .bool false) rfl (rf_assign rfl) rfl ?_
          refine wl_nil ?_
          refine thn ?_
          refine ret_ ?_
          refine blr (thr (thr (blr (thr ?_))))
          refine fin1 (v := .bool false) Try.results20 rfl rfl ?_
          exact ⟨_, ⟨by rw [← hr1, drop_at hd, List.all_cons, decide_eq_false (show ¬ d.left = 0 from fun e => by unfold rdyC at c22; rw [e] at c22; simp at c22), Bool.false_and], rfl⟩, H4.pick' [] rfl rfl⟩
        · refine skip_ ?_
          refine bln ?_
          refine thn ?_
          refine region_ ?_
          refine wl_valE (v := .int .i64 ((i : Nat) : Int)) rfl (rf_move rfl) rfl ?_
          refine wl_valE (v := .int .i64 ((i + 1 : Nat) : Int)) rfl (rf_add rfl rfl rfl rfl (IntWalk.i64_in _ (by omega))) rfl ?_
          refine wl_valE (v := .int .i64 ((i + 1 : Nat) : Int)) rfl (rf_assign rfl) rfl ?_
          refine wl_nil ?_
          refine thn ?_
          refine ⟨n - (i + 1), _, rfl, (by omega), _, i + 1, upds_self ⟨rfl, rfl, trivial⟩, rfl, by omega, by rw [← hr1, drop_at hd, List.all_cons]; simp; intro _; omega, H4.pick' [] rfl rfl⟩
    · have c7p := of_decide_eq_false c7
      refine exit_ ?_
      refine thx (thx (blx ?_))
      refine thn ?_
      refine seq_ ?_
      refine region_ ?_
      refine wl_valE (v := .bool true) rfl (rf_assign rfl) rfl ?_
      refine wl_nil ?_
      refine thn ?_
      refine ret_ ?_
      refine fin1 (v := .bool true) Try.results20 rfl rfl ?_
      exact ⟨_, ⟨by rw [← hr1, drop_all (by omega)]; rfl, rfl⟩, HL0.pick' [] rfl rfl⟩
end Go.Proofs.Ytiidihgimcebgaa.W
