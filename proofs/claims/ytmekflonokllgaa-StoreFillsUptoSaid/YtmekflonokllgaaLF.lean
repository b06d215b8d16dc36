import Derived.Test.YtmekflonokllgaaLW
import Derived.KernelRfl
namespace Go.Proofs.Ytmekflonokllgaa.W
open Go Go.Wk
set_option linter.unusedVariables false

structure FI (x : WS) (i : Nat) (r : VerR) : Prop where
  one : x.st.ver 1 = some r
  last1 : 1 ≤ x.last
  last : x.last ≤ 1 + i
  batch : x.batch ≤ 2 + 100 * i
  len : x.all.length ≤ i
  not1 : ∀ l ∈ x.all, l.v ≠ 1
theorem FI.drop {x : WS} {i j : Nat} {r : VerR} {l : LaidR} (h : FI x i r) (hl : x.all[j]? = some l) : FI (dropW x j l) i r where
  one := by
    show (if (1 : Int) = l.v then none else x.st.ver 1) = _
    rw [if_neg (Ne.symm (h.not1 l (List.mem_of_getElem? hl)))]; exact h.one
  last1 := h.last1
  last := h.last
  batch := h.batch
  len := Nat.le_trans (List.length_eraseIdx_le _ _) h.len
  not1 l' hl' := h.not1 l' ((List.eraseIdx_sublist x.all j).subset hl')
theorem FI.put {x : WS} {i : Nat} {r : VerR} (h : FI x i r) (hi : x.st.last = x.last) (q : WriteR) {d j : Int} (hd : 1 ≤ d ∧ d ≤ 100) : FI (putW x q d j) (i + 1) r where
  one := by
    have h1 : (1 : Int) ≠ x.st.last + 1 := by have := h.last1; omega
    unfold putW
    cases q.fill <;> simp [insSt, fillSt, h1, h.one]
  last1 := by show 1 ≤ x.st.last + 1; have := h.last1; omega
  last := by show x.st.last + 1 ≤ 1 + ((i + 1 : Nat) : Int); have := h.last; omega
  batch := by show x.batch + d ≤ 2 + 100 * ((i + 1 : Nat) : Int); have := h.batch; omega
  len := by show (x.all ++ [_]).length ≤ i + 1; have := h.len; simp; omega
  not1 l hl := by
    rcases List.mem_append.1 hl with hl | hl
    · exact h.not1 l hl
    · rw [List.mem_singleton] at hl; subst hl
      show x.st.last + 1 ≠ 1
      have := h.last1; omega
theorem FI.step {x : WS} {i : Nat} {r : VerR} (h : FI x i r) : FI x (i + 1) r := ⟨h.one, h.last1, by have := h.last; omega, by have := h.batch; omega, by have := h.len; omega, h.not1⟩
theorem FI.wrote {x x' : WS} {i : Nat} {r : VerR} {q : WriteR} (h : FI x i r) (hi : x.st.last = x.last) (hw : Wrote x q x') : FI x' (i + 1) r := by
  obtain ⟨x1, h1, h2⟩ := hw
  have hx1 : FI x1 i r ∧ x1.st.last = x1.last := by
    rcases h1 with rfl | ⟨_, j, l, hl, rfl⟩
    · exact ⟨h, hi⟩
    · exact ⟨h.drop hl, hi⟩
  rcases h2 with rfl | ⟨d, j, hd, hd2, _, _, rfl⟩
  · exact hx1.1.step
  · exact hx1.1.put hx1.2 q ⟨hd, hd2⟩
theorem Wrote.inv2 {x x' : WS} {q : WriteR} (h : Wrote x q x') (hi : StInv x.st) (e : Nat) (hw : WInv x e) : WInv x' e := h.inv hi hw
def r0 : VerR := ⟨1, 0, k9, false, ⟨false, 0⟩⟩
def ws2 (p : Int) (cl : Cell) : WS := ⟨fillSt (st1 p) 1 r0 cl, [], 1, 2⟩
theorem ws2_inv (p : Int) (cl : Cell) : WInv (ws2 p cl) 1 where
  last := rfl
  live := rfl
  room := rfl
  here l hl := by cases hl
  nod := List.nodup_nil
  bat v r h := by
    simp only [ws2, fillSt, st1, insSt] at h ⊢
    split at h
    · cases h; show (1 : Int) ≤ 2; decide
    · split at h
      · cases h; show (1 : Int) ≤ 2; decide
      · cases h
  bat0 := by simp [ws2]
def wantF (cl : Cell) : Cell := if cl.is_ then cl else ⟨false, 0⟩
theorem ws2_fi (p : Int) (cl : Cell) : FI (ws2 p cl) 0 ⟨1, 0, k9, true, wantF cl⟩ := ⟨rfl, by show (1 : Int) ≤ 1; decide, by show (1 : Int) ≤ 1 + 0; decide, by show (2 : Int) ≤ 2 + 100 * 0; decide, Nat.le_refl _, fun l hl => by cases hl⟩
set_option maxRecDepth 100000 in
theorem lawFills_ret (c : Int) (vp : Value) (cl : Cell) (Fp : Nat → Prop) (qs : List WriteR) (w : World) (hqs : qs.length ≤ 1048576) (hp : Rd encWrite 8 w Fp vp qs) (hFp : ∀ b, Fp b → b < w.heap.size) :
    Ret Try.prog 3 [.int .i64 c, vp, .agg #[.bool cl.is_, .int .i64 cl.value]] w fun v w' => v = .bool true ∧ Kp none_ w w' := by
  obtain ⟨pa, pcap, rfl, hpcap⟩ := hp.form
  have hkw : Kp none_ w w := Kp.refl w
  obtain ⟨want, hwant⟩ : ∃ x, x = wantF cl := ⟨_, rfl⟩
  refine enterR Try.func3 rfl Try.ntmps3 rfl ?_
  intro g0
  refine seq_ ?_
  refine region_ ?_
  refine wl_box (v := .agg #[.bool cl.is_, .int .i64 cl.value]) rfl rfl ?_
  intro b1 w1 hg1 hk1 hb1
  have hp_w1 := hp.keep hk1
  have hkw_w1 := hkw.comp hk1 (fun _ _ e => e.elim)
  have hs1 := hk1.size
  refine wl_valE (v := .bool false) rfl (rf_assign rfl) rfl ?_
  refine wl_nil ?_
  refine thn ?_
  refine seq_ ?_
  refine region_ ?_
  refine wl_valE (v := .int .i64 c) rfl (rf_move rfl) rfl ?_
  refine wl_ret rfl (begun_ret c w1) (rf_call Try.call4 rfl rfl) ?_
  rintro vq w2 ⟨wb, s, h, av, F, p, rfl, hwr, hnw0, hk2⟩
  have hnw : ∀ y, fpS s h y ∨ F y ∨ y = wb → w.heap.size ≤ y := fun y hy => by have := hnw0 y hy; omega
  have hXl : ∀ x, fpS s h x → x < w2.heap.size := fun x hx => hwr.store.lt x hx
  have hst := hwr.store
  have hbw := hwr.blk
  have hwbl := hbw.lt
  have hwbn := hnw0 wb (.inr (.inr rfl))
  have hp_w2 := hp_w1.keep hk2
  have hkw_w2 := hkw_w1.comp hk2 (fun _ _ e => e.elim)
  have hb1_w2 := hb1.keep hk2
  have hs2 := hk2.size
  refine wl_valE (v := .tuple #[.pointer (some ⟨wb, 0, none⟩), .bool true]) rfl (rf_move rfl) rfl ?_
  refine wl_valE (v := .pointer (some ⟨wb, 0, none⟩)) rfl (rf_extract rfl rfl rfl) rfl ?_
  refine wl_valE (v := .bool true) rfl (rf_extract rfl rfl rfl) rfl ?_
  refine wl_valE (v := .pointer (some ⟨wb, 0, none⟩)) rfl (rf_assign rfl) rfl ?_
  refine wl_valE (v := .bool true) rfl (rf_assign rfl) rfl ?_
  refine wl_nil ?_
  refine thn ?_
  refine seq_ ?_
  refine seq_ ?_
  refine region_ ?_
  refine wl_valE (v := .bool true) rfl (rf_move rfl) rfl ?_
  refine wl_valE (v := .bool false) rfl (rf_not rfl rfl) rfl ?_
  refine wl_nil ?_
  refine thn ?_
  refine condF rfl rfl ?_
  refine skip_ ?_
  refine thn ?_
  refine seq_ ?_
  refine region_ ?_
  refine wl_valE (v := .pointer (some ⟨wb, 0, none⟩)) rfl (rf_move rfl) rfl ?_
  refine wl_valE (v := .pointer (some ⟨wb, 0, none⟩)) rfl (rf_nilCheckP rfl rfl) rfl ?_
  refine wl_valE (v := .pointer (some ⟨wb, 0, none⟩)) rfl (rf_fieldAddr Try.underlying35 rfl ti32 rfl rfl) rfl ?_
  refine wl_valE (v := .pointer (some ⟨s, 0, none⟩)) rfl (rf_load Try.underlying32 rfl rfl rfl (hbw.cell rfl)) rfl ?_
  refine wl_ret rfl (look_ret s (st1 p) h w2 hst 1 r0 rfl) (rf_call Try.call5 rfl rfl) ?_
  rintro _ w3 ⟨rfl, hk3⟩
  have hp_w3 := hp_w2.keep hk3
  have hkw_w3 := hkw_w2.comp hk3 (fun _ _ e => e.elim)
  have hb1_w3 := hb1_w2.keep hk3
  have hst_w3 := hst.keep hk3
  have hbw_w3 := hbw.keep hk3
  have hs3 := hk3.size
  refine wl_valE (v := .tuple #[.agg #[.int .i64 1, .int .i64 0, .bool false, .bool false, .int .i64 0], .int .i64 0]) rfl (rf_move rfl) rfl ?_
  refine wl_valE (v := .agg #[.int .i64 1, .int .i64 0, .bool false, .bool false, .int .i64 0]) rfl (rf_extract rfl rfl rfl) rfl ?_
  refine wl_valE (v := .int .i64 0) rfl (rf_extract rfl rfl rfl) rfl ?_
  refine wl_alloc ti29 ?_
  intro b4 w4 hg4 hk4 hb4
  have ne4_b1 : b1 ≠ b4 := Nat.ne_of_lt (Nat.lt_of_lt_of_le hb1_w3.lt hg4)
  have ne4_wb : wb ≠ b4 := Nat.ne_of_lt (Nat.lt_of_lt_of_le hbw_w3.lt hg4)
  have hp_w4 := hp_w3.keep hk4
  have hkw_w4 := hkw_w3.comp hk4 (fun _ _ e => e.elim)
  have hb1_w4 := hb1_w3.keep hk4
  have hst_w4 := hst_w3.keep hk4
  have hbw_w4 := hbw_w3.keep hk4
  have hs4 := hk4.size
  refine wl_storeAgg (b := b4) (o := 0) (cs := [.int .i64 1, .int .i64 0, .bool false, .bool false, .int .i64 0]) ti29 rfl rfl rfl rfl rfl (by simp [Value.oneCell']) hb4 (Nat.le_of_ble_eq_true rfl) ?_
  intro w5 hk5 hb5
  have hp_w5 := hp_w4.kp hk5 (fun x hx e => by have := hFp x hx; omega)
  have hkw_w5 := hkw_w4.comp hk5 (fun x hx e => by omega)
  have hb1_w5 := hb1_w4.kp hk5 ne4_b1
  have hst_w5 := hst_w4.kp hk5 (fun x hx e => by have := hXl x hx; omega)
  have hbw_w5 := hbw_w4.kp hk5 ne4_wb
  have hs5 := hk5.size
  replace hb5 : Blk w5 b4 (.cells #[.int .i64 1, .int .i64 0, .bool false, .bool false, .int .i64 0] _ (0, 0)) := hb5
  refine wl_valE (v := .int .i64 0) rfl (rf_assign rfl) rfl ?_
  refine wl_nil ?_
  refine thn ?_
  refine seq_ ?_
  refine seq_ ?_
  refine region_h (S := fun wq => Kp (fun y => fpS s h y) w5 wq) mixedP ?_
  intro w6 hk6
  have hp_w6 := hp_w5.keep hk6
  have hkw_w6 := hkw_w5.comp hk6 (fun _ _ e => e.elim)
  have hb1_w6 := hb1_w5.keep hk6
  have hst_w6 := hst_w5.keep hk6
  have hbw_w6 := hbw_w5.keep hk6
  have hb4_w6 := hb5.keep hk6
  have hs6 := hk6.size
  have hS6 : Kp (fun y => fpS s h y) w5 w6 := hk6.of_none
  refine wh_take (i := 0) (v := .int .i64 0) rfl (by kernel_rfl) (by kernel_rfl) (by kernel_rfl) hS6 rfl (fun wq hq => rf_move rfl) rfl ?_
  refine wh_take (i := 1) (v := .bool false) rfl (by kernel_rfl) (by kernel_rfl) (by kernel_rfl) hS6 rfl (fun wq hq => rf_neq rfl rfl rfl rfl) (congrArg Value.bool (by decide)) ?_
  refine wh_take (i := 2) (v := .bool false) rfl (by kernel_rfl) (by kernel_rfl) (by kernel_rfl) hS6 rfl (fun wq hq => rf_move rfl) rfl ?_
  refine wh_takeG (i := 3) (v := .pointer (some ⟨b4, 2, none⟩)) rfl (by kernel_rfl) (by kernel_rfl) (by kernel_rfl) hS6 rfl rfl rfl rfl rfl (fun wq hq => rf_fieldAddr Try.underlying29 rfl ti4 rfl rfl) rfl ?_
  refine wh_takeG (i := 4) (v := .bool false) rfl (by kernel_rfl) (by kernel_rfl) (by kernel_rfl) hS6 rfl rfl rfl rfl rfl (fun wq hq => rf_load Try.underlying4 rfl rfl rfl ((hb5.kp hq (fun e => by have := hnw0 _ (.inl e); have := hXl _ e; have := hb1.lt; omega)).cell rfl)) rfl ?_
  refine wh_take (i := 5) (v := .bool false) rfl (by kernel_rfl) (by kernel_rfl) (by kernel_rfl) hS6 rfl (fun wq hq => rf_pickF rfl rfl rfl rfl) rfl ?_
  refine wh_take (i := 6) (v := .bool false) rfl (by kernel_rfl) (by kernel_rfl) (by kernel_rfl) hS6 rfl (fun wq hq => rf_move rfl) rfl ?_
  refine wh_takeG (i := 7) (v := .pointer (some ⟨b4, 3, none⟩)) rfl (by kernel_rfl) (by kernel_rfl) (by kernel_rfl) hS6 rfl rfl rfl rfl rfl (fun wq hq => rf_fieldAddr Try.underlying29 rfl ti24 rfl rfl) rfl ?_
  refine wh_takeG (i := 8) (v := .agg #[.bool false, .int .i64 0]) rfl (by kernel_rfl) (by kernel_rfl) (by kernel_rfl) hS6 rfl rfl rfl rfl rfl (fun wq hq => rf_loadBlk Try.underlying24 rfl ti24 rfl rfl (hb5.kp hq (fun e => by have := hnw0 _ (.inl e); have := hXl _ e; have := hb1.lt; omega)) (Nat.le_of_ble_eq_true rfl)) rfl ?_
  refine wh_takeG (i := 9) (v := .agg #[.bool false, .int .i64 ((0 : Nat) : Int)]) rfl (by kernel_rfl) (by kernel_rfl) (by kernel_rfl) hS6 rfl rfl rfl rfl rfl (fun wq hq => rf_build (offs := []) (places := #[(0, 1), (1, 1)]) Try.underlying24 ti24 (fun w => by kernel_rfl) .nil) rfl ?_
  refine wh_takeG (i := 10) (v := .bool false) rfl (by kernel_rfl) (by kernel_rfl) (by kernel_rfl) hS6 rfl rfl rfl rfl rfl (fun wq hq => rf_neqS (by kernel_rfl) (eqCell ⟨false, 0⟩ ⟨false, 0⟩ _) rfl rfl rfl rfl) (congrArg Value.bool (by decide)) ?_
  refine wh_take (i := 11) (v := .bool false) rfl (by kernel_rfl) (by kernel_rfl) (by kernel_rfl) hS6 rfl (fun wq hq => rf_pickF rfl rfl rfl rfl) rfl ?_
  refine wh_take (i := 12) (v := .bool false) rfl (by kernel_rfl) (by kernel_rfl) (by kernel_rfl) hS6 rfl (fun wq hq => rf_move rfl) rfl ?_
  refine wh_takeG (i := 13) (v := .pointer (some ⟨wb, 0, none⟩)) rfl (by kernel_rfl) (by kernel_rfl) (by kernel_rfl) hS6 rfl rfl rfl rfl rfl (fun wq hq => rf_move rfl) rfl ?_
  refine wh_takeG (i := 14) (v := .pointer (some ⟨wb, 0, none⟩)) rfl (by kernel_rfl) (by kernel_rfl) (by kernel_rfl) hS6 rfl rfl rfl rfl rfl (fun wq hq => rf_nilCheckP rfl rfl) rfl ?_
  refine wh_takeG (i := 15) (v := .pointer (some ⟨wb, 0, none⟩)) rfl (by kernel_rfl) (by kernel_rfl) (by kernel_rfl) hS6 rfl rfl rfl rfl rfl (fun wq hq => rf_fieldAddr Try.underlying35 rfl ti32 rfl rfl) rfl ?_
  refine wh_takeG (i := 16) (v := .pointer (some ⟨s, 0, none⟩)) rfl (by kernel_rfl) (by kernel_rfl) (by kernel_rfl) hS6 rfl rfl rfl rfl rfl (fun wq hq => rf_load Try.underlying32 rfl rfl rfl ((hbw_w5.kp hq hwr.wbn).cell rfl)) rfl ?_
  refine wh_takeG (i := 17) (v := .agg #[.bool cl.is_, .int .i64 cl.value]) rfl (by kernel_rfl) (by kernel_rfl) (by kernel_rfl) hS6 rfl rfl rfl rfl rfl (fun wq hq => rf_loadBlk Try.underlying24 rfl ti24 rfl rfl (hb1_w5.kp hq (fun e => by have := hnw0 _ (.inl e); have := hXl _ e; have := hb1.lt; omega)) (Nat.le_of_ble_eq_true rfl)) rfl ?_
  refine wh_one (i := 18) (by kernel_rfl) rfl ?_
  refine wl_guardT rfl rfl rfl rfl ?_
  refine wl_ret rfl (fill_ret s (st1 p) h w6 hst_w6 cl 1 r0 rfl rfl) (rf_call Try.call6 rfl rfl) ?_
  rintro vq w7 ⟨rfl, hsX, hk7⟩
  have hp_w7 := hp_w6.kp hk7 (fun x hx e => by have := hFp x hx; have := hnw x (.inl e); omega)
  have hkw_w7 := hkw_w6.comp hk7 (fun x hx e => by have := hnw x (.inl e); omega)
  have hb1_w7 := hb1_w6.kp hk7 (fun e => by have := hnw0 _ (.inl e); have := hXl _ e; have := hb1.lt; omega)
  have hbw_w7 := hbw_w6.kp hk7 hwr.wbn
  have hb4_w7 := hb4_w6.kp hk7 (fun e => by have := hnw0 _ (.inl e); have := hXl _ e; have := hb1.lt; omega)
  have hS_w7 := hS6.comp hk7 (fun b h e => e)
  have hs7 := hk7.size
  refine wl_nil ?_
  refine wh_back hS_w7 ?_
  refine wh_takeG (i := 19) (v := .bool false) rfl (by kernel_rfl) (by kernel_rfl) (by kernel_rfl) hS_w7 rfl rfl rfl rfl rfl (fun wq hq => rf_neq rfl rfl rfl rfl) (congrArg Value.bool (by decide)) ?_
  refine wh_take (i := 20) (v := .bool false) rfl (by kernel_rfl) (by kernel_rfl) (by kernel_rfl) hS_w7 rfl (fun wq hq => rf_pickF rfl rfl rfl rfl) rfl ?_
  refine wh_take (i := 21) (v := .bool false) rfl (by kernel_rfl) (by kernel_rfl) (by kernel_rfl) hS_w7 rfl (fun wq hq => rf_move rfl) rfl ?_
  refine wh_takeG (i := 22) (v := .pointer (some ⟨wb, 0, none⟩)) rfl (by kernel_rfl) (by kernel_rfl) (by kernel_rfl) hS_w7 rfl rfl rfl rfl rfl (fun wq hq => rf_move rfl) rfl ?_
  refine wh_takeG (i := 23) (v := .pointer (some ⟨wb, 0, none⟩)) rfl (by kernel_rfl) (by kernel_rfl) (by kernel_rfl) hS_w7 rfl rfl rfl rfl rfl (fun wq hq => rf_nilCheckP rfl rfl) rfl ?_
  refine wh_takeG (i := 24) (v := .pointer (some ⟨wb, 0, none⟩)) rfl (by kernel_rfl) (by kernel_rfl) (by kernel_rfl) hS_w7 rfl rfl rfl rfl rfl (fun wq hq => rf_fieldAddr Try.underlying35 rfl ti32 rfl rfl) rfl ?_
  refine wh_takeG (i := 25) (v := .pointer (some ⟨s, 0, none⟩)) rfl (by kernel_rfl) (by kernel_rfl) (by kernel_rfl) hS_w7 rfl rfl rfl rfl rfl (fun wq hq => rf_load Try.underlying32 rfl rfl rfl ((hbw_w5.kp hq hwr.wbn).cell rfl)) rfl ?_
  refine wh_takeG (i := 26) (v := .agg #[.bool true, .int .i64 ((7 : Nat) : Int)]) rfl (by kernel_rfl) (by kernel_rfl) (by kernel_rfl) hS_w7 rfl rfl rfl rfl rfl (fun wq hq => rf_build (offs := [(0, [.bool true]), (1, [.int .i64 ((7 : Nat) : Int)])]) (places := #[(0, 1), (1, 1)]) Try.underlying24 ti24 (fun w => by kernel_rfl) (.cons rfl rfl rfl rfl rfl rfl (.cons rfl rfl rfl rfl rfl rfl .nil))) rfl ?_
  refine wh_one (i := 27) (by kernel_rfl) rfl ?_
  refine wl_guardT rfl rfl rfl rfl ?_
  refine wl_ret rfl (fillE_ret s _ h w7 hsX ⟨true, 7⟩ 1 (fillR r0 cl) (by simp [fillSt]) rfl) (rf_call Try.call6 rfl rfl) ?_
  rintro _ w8 ⟨rfl, hk8⟩
  have hp_w8 := hp_w7.keep hk8
  have hkw_w8 := hkw_w7.comp hk8 (fun _ _ e => e.elim)
  have hb1_w8 := hb1_w7.keep hk8
  have hbw_w8 := hbw_w7.keep hk8
  have hb4_w8 := hb4_w7.keep hk8
  have hS_w8 := hS_w7.comp hk8 (fun _ _ e => e.elim)
  have hsX_w8 := hsX.keep hk8
  have hs8 := hk8.size
  refine wl_nil ?_
  refine wh_back hS_w8 ?_
  refine wh_takeG (i := 28) (v := .bool false) rfl (by kernel_rfl) (by kernel_rfl) (by kernel_rfl) hS_w8 rfl rfl rfl rfl rfl (fun wq hq => rf_neq rfl rfl rfl rfl) (congrArg Value.bool (by decide)) ?_
  refine wh_take (i := 29) (v := .bool false) rfl (by kernel_rfl) (by kernel_rfl) (by kernel_rfl) hS_w8 rfl (fun wq hq => rf_pickF rfl rfl rfl rfl) rfl ?_
  refine wh_done (by kernel_rfl) ?_
  refine thn ?_
  refine condF rfl rfl ?_
  refine skip_ ?_
  refine thn ?_
  refine seq_ ?_
  refine region_ ?_
  refine wl_valE (v := .pointer (some ⟨wb, 0, none⟩)) rfl (rf_move rfl) rfl ?_
  refine wl_valE (v := .pointer (some ⟨wb, 0, none⟩)) rfl (rf_nilCheckP rfl rfl) rfl ?_
  refine wl_valE (v := .pointer (some ⟨wb, 1, none⟩)) rfl (rf_fieldAddr Try.underlying35 rfl ti33 rfl rfl) rfl ?_
  refine wl_store (b := wb) (o := 1) (v := .slice none 0 0) ti33 rfl rfl rfl rfl rfl hbw_w8 (by first | decide | exact Nat.le_of_ble_eq_true rfl | simp) ?_
  intro w9 hk9 hb9
  have hp_w9 := hp_w8.kp hk9 (fun x hx e => by have := hFp x hx; omega)
  have hkw_w9 := hkw_w8.comp hk9 (fun x hx e => by omega)
  have hb1_w9 := hb1_w8.kp hk9 (by have := hb1.lt; omega)
  have hb4_w9 := hb4_w8.kp hk9 (by omega)
  have hsX_w9 := hsX_w8.kp hk9 (fun x hx e => hwr.wbn (e ▸ hx))
  have hs9 := hk9.size
  replace hb9 : Blk w9 wb (.cells #[.pointer (some ⟨s, 0, none⟩), .slice none 0 0, .int .i64 1, .int .i64 2] _ (0, 0)) := hb9
  have hsF := hsX_w9
  have hbF := hb9
  have hXF : ∀ x, fpS s h x → x < w9.heap.size := fun x hx => hsF.lt x hx
  have hbvl := hb4_w9.lt
  have hnoF : ∀ y, fpS s h y → y ≠ b4 := fun y hy e => by have := hXl y hy; omega
  refine wl_nil ?_
  refine thn ?_
  refine seq_ ?_
  refine seq_ ?_
  refine region_ ?_
  refine wl_valE (v := .int .i64 ((0 : Nat) : Int)) rfl (rf_assign rfl) rfl ?_
  refine wl_nil ?_
  refine thn ?_
  refine block_ ?_
  refine loop_ (fun lk lf lw => ∃ (g : Nat → Value) (i : Nat) (x : WS) (h : StH) (av : Value) (F : Nat → Prop) (tf : Bool) (tc : Cell), lf = upds g [(1, .slice pa qs.length pcap), (5, .pointer (some ⟨b1, 0, none⟩)), (7, .pointer (some ⟨wb, 0, none⟩)), (9, .pointer (some ⟨b4, 0, none⟩)), (11, .int .i64 ((i : Nat) : Int))] ∧ i + lk = qs.length ∧ WR lw wb s x h av F ∧ WInv x 1 ∧ FI x i ⟨1, 0, k9, true, want⟩ ∧ Blk lw b1 (.cells #[.bool cl.is_, .int .i64 cl.value] 24 (0, 0)) ∧ Blk lw b4 (.cells #[.int .i64 1, .int .i64 0, .bool tf, .bool tc.is_, .int .i64 tc.value] 29 (0, 0)) ∧ (¬ (fpS s h b1 ∨ F b1 ∨ b1 = wb)) ∧ (¬ (fpS s h b4 ∨ F b4 ∨ b4 = wb)) ∧ (∀ y, fpS s h y ∨ F y ∨ y = wb → w.heap.size ≤ y) ∧ Kp (fun x => w.heap.size ≤ x) w9 lw) (qs.length) ?_ ?_
  · refine ⟨_, 0, ws2 p cl, h, (.slice none 0 0), (fun _ => False), false, ⟨false, 0⟩, upds_self ⟨rfl, rfl, rfl, rfl, rfl, trivial⟩, ?_⟩
    refine ⟨by omega, ⟨hb9, Sl.nil _ _, hsX_w9, fun y h => h.elim, hwr.wbn⟩, ws2_inv p cl, by rw [hwant]; exact ws2_fi p cl, hb1_w9, hb4_w9, ?_, ?_, ?_, Kp.refl _⟩
    · rintro (e | e | e)
      · have := hnw0 _ (.inl e); have := hb1.lt; omega
      · exact e
      · have := hb1.lt; omega
    · rintro (e | e | e)
      · exact hnoF _ e rfl
      · exact e
      · omega
    · rintro y (e | e | e)
      · exact hnw y (.inl e)
      · exact e.elim
      · exact hnw y (.inr (.inr e))
  · intro lk0 lf0 wl hI0
    obtain ⟨gl0, i, x, h, av, F, tf, tc, rfl, hik, hwx, hix, hfi, hbc, hbv, hs1, hs9, hnx, hkl0⟩ := hI0
    have hp_wl := hp_w9.kp hkl0 (fun x hx e => by have := hFp x hx; omega)
    have hkw_wl := hkw_w9.comp hkl0 (fun x hx e => by omega)
    have hsl := hkl0.size
    refine seq_ ?_
    refine seq_ ?_
    refine region_ ?_
    refine wl_valE (v := .int .i64 ((i : Nat) : Int)) rfl (rf_move rfl) rfl ?_
    refine wl_valE (v := .slice pa qs.length pcap) rfl (rf_move rfl) rfl ?_
    refine wl_valE (v := .int .i64 ((qs.length : Nat) : Int)) rfl (rf_len_slice Try.underlying22 rfl rfl) rfl ?_
    refine wl_valE (v := .bool (decide (((i : Nat) : Int) < ((qs.length : Nat) : Int)))) rfl (rf_lss rfl rfl rfl rfl) rfl ?_
    refine wl_nil ?_
    refine thn ?_
    refine cond_ (t := decide (((i : Nat) : Int) < ((qs.length : Nat) : Int))) rfl rfl (fun c64 => ?_) (fun c64 => ?_)
    · have c64p := of_decide_eq_true c64
      obtain ⟨q, hq⟩ : ∃ q, qs[i]? = some q := ⟨_, List.getElem?_eq_getElem (by omega)⟩
      obtain ⟨bq, oq, capq, eq, hcapq, hFq, hltq, hcellq⟩ := hp_wl.get (by omega)
      cases eq
      refine skip_ ?_
      refine thn ?_
      refine seq_ ?_
      refine block_ ?_
      refine seq_ ?_
      refine seq_ ?_
      refine region_ ?_
      refine wl_valE (v := .pointer (some ⟨wb, 0, none⟩)) rfl (rf_move rfl) rfl ?_
      refine wl_valE (v := .slice (some ⟨bq, oq, none⟩) qs.length pcap) rfl (rf_move rfl) rfl ?_
      refine wl_valE (v := .int .i64 ((i : Nat) : Int)) rfl (rf_move rfl) rfl ?_
      refine wl_valE (v := .pointer (some ⟨bq, oq + i * 8, none⟩)) rfl (rf_indexAddr Try.underlying22 ti42 rfl rfl rfl rfl (by omega) (by omega)) rfl ?_
      refine wl_valE (v := .agg #[.int .i64 q.key.table, .int .i64 q.key.row, .int .i64 q.later, .int .i64 q.index, .bool q.fill, .bool q.cell.is_, .int .i64 q.cell.value, .int .i64 q.drop]) rfl (rf_loadAgg Try.underlying42 rfl ti42 rfl rfl (el_cells (hcellq i q hq)) rfl) rfl ?_
      refine wl_ret rfl (write_ret wb s x h av F q 1 wl hwx hix (by omega) (by have := hfi.batch; omega) (by have := hfi.last; omega) (by have := hfi.len; omega)) (rf_call Try.call7 rfl rfl) ?_
      rintro vq w10 ⟨rfl, x2, h2, av2, F2, hwy, hwo, hg2, hk10⟩
      have hix2 := hwo.inv hwx.store.inv hix
      have hfi2 := hfi.wrote hix.last hwo
      have hbl1 := hbc.lt
      have hbl4 := hbv.lt
      have hnb1 : ¬ (fpS s h2 b1 ∨ F2 b1 ∨ b1 = wb) := fun e => by
        have hh : fpS s h b1 ∨ F b1 ∨ wl.heap.size ≤ b1 ∨ b1 = wb := by
          rcases e with e | e | e
          · rcases hg2 b1 (.inl e) with h | h | h <;> simp [h]
          · rcases hg2 b1 (.inr e) with h | h | h <;> simp [h]
          · simp [e]
        rcases hh with e | e | e | e
        · exact hs1 (.inl e)
        · exact hs1 (.inr (.inl e))
        · omega
        · exact hs1 (.inr (.inr e))
      have hnb4 : ¬ (fpS s h2 b4 ∨ F2 b4 ∨ b4 = wb) := fun e => by
        have hh : fpS s h b4 ∨ F b4 ∨ wl.heap.size ≤ b4 ∨ b4 = wb := by
          rcases e with e | e | e
          · rcases hg2 b4 (.inl e) with h | h | h <;> simp [h]
          · rcases hg2 b4 (.inr e) with h | h | h <;> simp [h]
          · simp [e]
        rcases hh with e | e | e | e
        · exact hs9 (.inl e)
        · exact hs9 (.inr (.inl e))
        · omega
        · exact hs9 (.inr (.inr e))
      have hnx2 : ∀ y, fpS s h2 y ∨ F2 y ∨ y = wb → w.heap.size ≤ y := fun y hy => by
        rcases hy with e | e | e
        · rcases hg2 y (.inl e) with h | h | h
          · exact hnx y (.inl h)
          · exact hnx y (.inr (.inl h))
          · omega
        · rcases hg2 y (.inr e) with h | h | h
          · exact hnx y (.inl h)
          · exact hnx y (.inr (.inl h))
          · omega
        · exact hnx y (.inr (.inr e))
      have hby := hwy.blk
      have hX2 : ∀ y, fpS s h2 y ∨ F2 y ∨ y = wb → y < w10.heap.size := fun y hy => by
        rcases hy with e | e | e
        · exact hwy.store.lt y e
        · exact (hwy.sep y e).2.2
        · subst e; exact hby.lt
      have hp_w10 := hp_wl.kp hk10 (fun b hb e => by have := hFp b hb; have := hnx b e; omega)
      have hkw_w10 := hkw_wl.comp hk10 (fun x hx e => by have := hnx x e; omega)
      have hkl0_w10 := hkl0.comp hk10 (fun x hx e => hnx x e)
      have hbc_w10 := hbc.kp hk10 hs1
      have hbv_w10 := hbv.kp hk10 hs9
      have hs10 := hk10.size
      refine wl_valE (v := .bool false) rfl (rf_not rfl rfl) rfl ?_
      refine wl_nil ?_
      refine thn ?_
      refine condF rfl rfl ?_
      refine skip_ ?_
      refine thn ?_
      refine seq_ ?_
      refine region_ ?_
      refine wl_valE (v := .pointer (some ⟨wb, 0, none⟩)) rfl (rf_move rfl) rfl ?_
      refine wl_valE (v := .pointer (some ⟨wb, 0, none⟩)) rfl (rf_nilCheckP rfl rfl) rfl ?_
      refine wl_valE (v := .pointer (some ⟨wb, 0, none⟩)) rfl (rf_fieldAddr Try.underlying35 rfl ti32 rfl rfl) rfl ?_
      refine wl_valE (v := .pointer (some ⟨s, 0, none⟩)) rfl (rf_load Try.underlying32 rfl rfl rfl (hby.cell rfl)) rfl ?_
      refine wl_ret rfl (look_ret s x2.st h2 w10 hwy.store 1 _ hfi2.one) (rf_call Try.call5 rfl rfl) ?_
      rintro _ w11 ⟨rfl, hk11⟩
      have hp_w11 := hp_w10.keep hk11
      have hkw_w11 := hkw_w10.comp hk11 (fun _ _ e => e.elim)
      have hkl0_w11 := hkl0_w10.comp hk11 (fun _ _ e => e.elim)
      have hbc_w11 := hbc_w10.keep hk11
      have hbv_w11 := hbv_w10.keep hk11
      have hwy_w11 := hwy.keep hk11
      have hby_w11 := hby.keep hk11
      have hs11 := hk11.size
      refine wl_valE (v := .tuple #[.agg #[.int .i64 1, .int .i64 0, .bool true, .bool want.is_, .int .i64 want.value], .int .i64 0]) rfl (rf_move rfl) rfl ?_
      refine wl_valE (v := .agg #[.int .i64 1, .int .i64 0, .bool true, .bool want.is_, .int .i64 want.value]) rfl (rf_extract rfl rfl rfl) rfl ?_
      refine wl_valE (v := .int .i64 0) rfl (rf_extract rfl rfl rfl) rfl ?_
      refine wl_storeAgg (b := b4) (o := 0) (cs := [.int .i64 1, .int .i64 0, .bool true, .bool want.is_, .int .i64 want.value]) ti29 rfl rfl rfl rfl rfl (by simp [Value.oneCell']) hbv_w11 (Nat.le_of_ble_eq_true rfl) ?_
      intro w12 hk12 hb12
      have hp_w12 := hp_w11.kp hk12 (fun x hx e => by have := hFp x hx; omega)
      have hkw_w12 := hkw_w11.comp hk12 (fun x hx e => by omega)
      have hkl0_w12 := hkl0_w11.comp hk12 (fun x hx e => by first | omega | (subst e; omega))
      have hbc_w12 := hbc_w11.kp hk12 ne4_b1
      have hwy_w12 := hwy_w11.kpN hk12 (fun y hy e => by subst e; first | exact hnb4 hy | exact hnb1 hy | (have := hX2 _ hy; omega))
      have hby_w12 := hby_w11.kp hk12 ne4_wb
      have hs12 := hk12.size
      replace hb12 : Blk w12 b4 (.cells #[.int .i64 1, .int .i64 0, .bool true, .bool want.is_, .int .i64 want.value] _ (0, 0)) := hb12
      refine wl_valE (v := .int .i64 0) rfl (rf_assign rfl) rfl ?_
      refine wl_nil ?_
      refine thn ?_
      refine seq_ ?_
      refine region_ ?_
      refine wl_valE (v := .agg #[.bool false, .int .i64 ((0 : Nat) : Int)]) rfl (rf_build (offs := []) (places := #[(0, 1), (1, 1)]) Try.underlying24 ti24 (fun w => by kernel_rfl) .nil) rfl ?_
      refine wl_alloc ti24 ?_
      intro b13 w13 hg13 hk13 hb13
      have ne13_b1 : b1 ≠ b13 := Nat.ne_of_lt (Nat.lt_of_lt_of_le hbc_w12.lt hg13)
      have ne13_wb : wb ≠ b13 := Nat.ne_of_lt (Nat.lt_of_lt_of_le hby_w12.lt hg13)
      have ne13_b4 : b4 ≠ b13 := Nat.ne_of_lt (Nat.lt_of_lt_of_le hb12.lt hg13)
      have hp_w13 := hp_w12.keep hk13
      have hkw_w13 := hkw_w12.comp hk13 (fun _ _ e => e.elim)
      have hkl0_w13 := hkl0_w12.comp hk13 (fun _ _ e => e.elim)
      have hbc_w13 := hbc_w12.keep hk13
      have hwy_w13 := hwy_w12.keep hk13
      have hby_w13 := hby_w12.keep hk13
      have hbv_w13 := hb12.keep hk13
      have hs13 := hk13.size
      refine wl_storeAgg (b := b13) (o := 0) (cs := [.bool false, .int .i64 ((0 : Nat) : Int)]) ti24 rfl rfl rfl rfl rfl (by simp [Value.oneCell']) hb13 (Nat.le_of_ble_eq_true rfl) ?_
      intro w14 hk14 hb14
      have hp_w14 := hp_w13.kp hk14 (fun x hx e => by have := hFp x hx; omega)
      have hkw_w14 := hkw_w13.comp hk14 (fun x hx e => by omega)
      have hkl0_w14 := hkl0_w13.comp hk14 (fun x hx e => by first | omega | (subst e; omega))
      have hbc_w14 := hbc_w13.kp hk14 ne13_b1
      have hwy_w14 := hwy_w13.kpN hk14 (fun y hy e => by subst e; first | exact hnb4 hy | exact hnb1 hy | (have := hX2 _ hy; omega))
      have hby_w14 := hby_w13.kp hk14 ne13_wb
      have hbv_w14 := hbv_w13.kp hk14 ne13_b4
      have hs14 := hk14.size
      replace hb14 : Blk w14 b13 (.cells #[.bool false, .int .i64 ((0 : Nat) : Int)] _ (0, 0)) := hb14
      refine wl_nil ?_
      refine thn ?_
      refine seq_ ?_
      refine seq_ ?_
      refine region_ ?_
      refine wl_valE (v := .pointer (some ⟨b1, 0, none⟩)) rfl (rf_fieldAddr Try.underlying24 rfl ti4 rfl rfl) rfl ?_
      refine wl_valE (v := .bool cl.is_) rfl (rf_load Try.underlying4 rfl rfl rfl (hbc_w14.cell rfl)) rfl ?_
      refine wl_nil ?_
      refine thn ?_
      refine cond_ (t := cl.is_) rfl rfl (fun c84 => ?_) (fun c84 => ?_)
      · have hwc : want = cl := by rw [hwant]; unfold wantF; rw [if_pos c84]
        refine region_ ?_
        refine wl_valE (v := .agg #[.bool cl.is_, .int .i64 cl.value]) rfl (rf_loadBlk Try.underlying24 rfl ti24 rfl rfl hbc_w14 (Nat.le_of_ble_eq_true rfl)) rfl ?_
        refine wl_storeAgg (b := b13) (o := 0) (cs := [.bool cl.is_, .int .i64 cl.value]) ti24 rfl rfl rfl rfl rfl (by simp [Value.oneCell']) hb14 (Nat.le_of_ble_eq_true rfl) ?_
        intro w15 hk15 hb15
        have hp_w15 := hp_w14.kp hk15 (fun x hx e => by have := hFp x hx; omega)
        have hkw_w15 := hkw_w14.comp hk15 (fun x hx e => by omega)
        have hkl0_w15 := hkl0_w14.comp hk15 (fun x hx e => by first | omega | (subst e; omega))
        have hbc_w15 := hbc_w14.kp hk15 ne13_b1
        have hwy_w15 := hwy_w14.kpN hk15 (fun y hy e => by subst e; first | exact hnb4 hy | exact hnb1 hy | (have := hX2 _ hy; omega))
        have hby_w15 := hby_w14.kp hk15 ne13_wb
        have hbv_w15 := hbv_w14.kp hk15 ne13_b4
        have hs15 := hk15.size
        replace hb15 : Blk w15 b13 (.cells #[.bool cl.is_, .int .i64 cl.value] _ (0, 0)) := hb15
        have hbz : Blk w15 b13 (.cells #[.bool want.is_, .int .i64 want.value] 24 (0, 0)) := by rw [hwc]; exact hb15
        refine wl_nil ?_
        refine thn ?_
        refine seq_ ?_
        refine region_ ?_
        refine wl_valE (v := .int .i64 0) rfl (rf_move rfl) rfl ?_
        refine wl_valE (v := .bool false) rfl (rf_neq rfl rfl rfl rfl) (congrArg Value.bool (by decide)) ?_
        refine wl_valE (v := .bool false) rfl (rf_move rfl) rfl ?_
        refine wl_guardT rfl rfl rfl rfl ?_
        refine wl_valE (v := .pointer (some ⟨b4, 2, none⟩)) rfl (rf_fieldAddr Try.underlying29 rfl ti4 rfl rfl) rfl ?_
        refine wl_guardT rfl rfl rfl rfl ?_
        refine wl_valE (v := .bool true) rfl (rf_load Try.underlying4 rfl rfl rfl (hbv_w15.cell rfl)) rfl ?_
        refine wl_guardT rfl rfl rfl rfl ?_
        refine wl_valE (v := .bool false) rfl (rf_not rfl rfl) rfl ?_
        refine wl_valE (v := .bool false) rfl (rf_pickF rfl rfl rfl rfl) rfl ?_
        refine wl_valE (v := .bool false) rfl (rf_move rfl) rfl ?_
        refine wl_guardT rfl rfl rfl rfl ?_
        refine wl_valE (v := .pointer (some ⟨b4, 3, none⟩)) rfl (rf_fieldAddr Try.underlying29 rfl ti24 rfl rfl) rfl ?_
        refine wl_guardT rfl rfl rfl rfl ?_
        refine wl_valE (v := .agg #[.bool want.is_, .int .i64 want.value]) rfl (rf_loadBlk Try.underlying24 rfl ti24 rfl rfl hbv_w15 (Nat.le_of_ble_eq_true rfl)) rfl ?_
        refine wl_guardT rfl rfl rfl rfl ?_
        refine wl_valE (v := .agg #[.bool want.is_, .int .i64 want.value]) rfl (rf_loadBlk Try.underlying24 rfl ti24 rfl rfl hbz (Nat.le_of_ble_eq_true rfl)) rfl ?_
        refine wl_guardT rfl rfl rfl rfl ?_
        refine wl_valE (v := .bool false) rfl (rf_neqS (by kernel_rfl) (eqCell want want _) rfl rfl rfl rfl) (congrArg Value.bool (by simp)) ?_
        refine wl_valE (v := .bool false) rfl (rf_pickF rfl rfl rfl rfl) rfl ?_
        refine wl_valE (v := .bool false) rfl (rf_move rfl) rfl ?_
        refine wl_guardT rfl rfl rfl rfl ?_
        refine wl_valE (v := .pointer (some ⟨b4, 0, none⟩)) rfl (rf_fieldAddr Try.underlying29 rfl ti3 rfl rfl) rfl ?_
        refine wl_guardT rfl rfl rfl rfl ?_
        refine wl_valE (v := .int .i64 1) rfl (rf_load Try.underlying3 rfl rfl rfl (hbv_w15.cell rfl)) rfl ?_
        refine wl_guardT rfl rfl rfl rfl ?_
        refine wl_valE (v := .bool false) rfl (rf_neq rfl rfl rfl rfl) (congrArg Value.bool (by decide)) ?_
        refine wl_valE (v := .bool false) rfl (rf_pickF rfl rfl rfl rfl) rfl ?_
        refine wl_valE (v := .bool false) rfl (rf_move rfl) rfl ?_
        refine wl_guardT rfl rfl rfl rfl ?_
        refine wl_valE (v := .pointer (some ⟨b4, 1, none⟩)) rfl (rf_fieldAddr Try.underlying29 rfl ti3 rfl rfl) rfl ?_
        refine wl_guardT rfl rfl rfl rfl ?_
        refine wl_valE (v := .int .i64 0) rfl (rf_load Try.underlying3 rfl rfl rfl (hbv_w15.cell rfl)) rfl ?_
        refine wl_guardT rfl rfl rfl rfl ?_
        refine wl_valE (v := .bool false) rfl (rf_neq rfl rfl rfl rfl) (congrArg Value.bool (by decide)) ?_
        refine wl_valE (v := .bool false) rfl (rf_pickF rfl rfl rfl rfl) rfl ?_
        refine wl_nil ?_
        refine thn ?_
        refine condF rfl rfl ?_
        refine skip_ ?_
        refine bln ?_
        refine thn ?_
        refine region_ ?_
        refine wl_valE (v := .int .i64 ((i : Nat) : Int)) rfl (rf_move rfl) rfl ?_
        refine wl_valE (v := .int .i64 ((i + 1 : Nat) : Int)) rfl (rf_add rfl rfl rfl rfl (IntWalk.i64_in _ (by omega))) rfl ?_
        refine wl_valE (v := .int .i64 ((i + 1 : Nat) : Int)) rfl (rf_assign rfl) rfl ?_
        refine wl_nil ?_
        refine thn ?_
        refine ⟨lk0 - 1, _, rfl, (by omega), _, i + 1, x2, h2, av2, F2, true, want, upds_self ⟨rfl, rfl, rfl, rfl, rfl, trivial⟩, ?_⟩
        exact ⟨by omega, hwy_w15, hix2, hfi2, hbc_w15, hbv_w15, hnb1, hnb4, hnx2, hkl0_w15⟩
      · have hwc : want = ⟨false, 0⟩ := by rw [hwant]; unfold wantF; rw [if_neg (by simp [c84])]
        have hbz : Blk w14 b13 (.cells #[.bool want.is_, .int .i64 want.value] 24 (0, 0)) := by rw [hwc]; exact hb14
        refine skip_ ?_
        refine thn ?_
        refine seq_ ?_
        refine region_ ?_
        refine wl_valE (v := .int .i64 0) rfl (rf_move rfl) rfl ?_
        refine wl_valE (v := .bool false) rfl (rf_neq rfl rfl rfl rfl) (congrArg Value.bool (by decide)) ?_
        refine wl_valE (v := .bool false) rfl (rf_move rfl) rfl ?_
        refine wl_guardT rfl rfl rfl rfl ?_
        refine wl_valE (v := .pointer (some ⟨b4, 2, none⟩)) rfl (rf_fieldAddr Try.underlying29 rfl ti4 rfl rfl) rfl ?_
        refine wl_guardT rfl rfl rfl rfl ?_
        refine wl_valE (v := .bool true) rfl (rf_load Try.underlying4 rfl rfl rfl (hbv_w14.cell rfl)) rfl ?_
        refine wl_guardT rfl rfl rfl rfl ?_
        refine wl_valE (v := .bool false) rfl (rf_not rfl rfl) rfl ?_
        refine wl_valE (v := .bool false) rfl (rf_pickF rfl rfl rfl rfl) rfl ?_
        refine wl_valE (v := .bool false) rfl (rf_move rfl) rfl ?_
        refine wl_guardT rfl rfl rfl rfl ?_
        refine wl_valE (v := .pointer (some ⟨b4, 3, none⟩)) rfl (rf_fieldAddr Try.underlying29 rfl ti24 rfl rfl) rfl ?_
        refine wl_guardT rfl rfl rfl rfl ?_
        refine wl_valE (v := .agg #[.bool want.is_, .int .i64 want.value]) rfl (rf_loadBlk Try.underlying24 rfl ti24 rfl rfl hbv_w14 (Nat.le_of_ble_eq_true rfl)) rfl ?_
        refine wl_guardT rfl rfl rfl rfl ?_
        refine wl_valE (v := .agg #[.bool want.is_, .int .i64 want.value]) rfl (rf_loadBlk Try.underlying24 rfl ti24 rfl rfl hbz (Nat.le_of_ble_eq_true rfl)) rfl ?_
        refine wl_guardT rfl rfl rfl rfl ?_
        refine wl_valE (v := .bool false) rfl (rf_neqS (by kernel_rfl) (eqCell want want _) rfl rfl rfl rfl) (congrArg Value.bool (by simp)) ?_
        refine wl_valE (v := .bool false) rfl (rf_pickF rfl rfl rfl rfl) rfl ?_
        refine wl_valE (v := .bool false) rfl (rf_move rfl) rfl ?_
        refine wl_guardT rfl rfl rfl rfl ?_
        refine wl_valE (v := .pointer (some ⟨b4, 0, none⟩)) rfl (rf_fieldAddr Try.underlying29 rfl ti3 rfl rfl) rfl ?_
        refine wl_guardT rfl rfl rfl rfl ?_
        refine wl_valE (v := .int .i64 1) rfl (rf_load Try.underlying3 rfl rfl rfl (hbv_w14.cell rfl)) rfl ?_
        refine wl_guardT rfl rfl rfl rfl ?_
        refine wl_valE (v := .bool false) rfl (rf_neq rfl rfl rfl rfl) (congrArg Value.bool (by decide)) ?_
        refine wl_valE (v := .bool false) rfl (rf_pickF rfl rfl rfl rfl) rfl ?_
        refine wl_valE (v := .bool false) rfl (rf_move rfl) rfl ?_
        refine wl_guardT rfl rfl rfl rfl ?_
        refine wl_valE (v := .pointer (some ⟨b4, 1, none⟩)) rfl (rf_fieldAddr Try.underlying29 rfl ti3 rfl rfl) rfl ?_
        refine wl_guardT rfl rfl rfl rfl ?_
        refine wl_valE (v := .int .i64 0) rfl (rf_load Try.underlying3 rfl rfl rfl (hbv_w14.cell rfl)) rfl ?_
        refine wl_guardT rfl rfl rfl rfl ?_
        refine wl_valE (v := .bool false) rfl (rf_neq rfl rfl rfl rfl) (congrArg Value.bool (by decide)) ?_
        refine wl_valE (v := .bool false) rfl (rf_pickF rfl rfl rfl rfl) rfl ?_
        refine wl_nil ?_
        refine thn ?_
        refine condF rfl rfl ?_
        refine skip_ ?_
        refine bln ?_
        refine thn ?_
        refine region_ ?_
        refine wl_valE (v := .int .i64 ((i : Nat) : Int)) rfl (rf_move rfl) rfl ?_
        refine wl_valE (v := .int .i64 ((i + 1 : Nat) : Int)) rfl (rf_add rfl rfl rfl rfl (IntWalk.i64_in _ (by omega))) rfl ?_
        refine wl_valE (v := .int .i64 ((i + 1 : Nat) : Int)) rfl (rf_assign rfl) rfl ?_
        refine wl_nil ?_
        refine thn ?_
        refine ⟨lk0 - 1, _, rfl, (by omega), _, i + 1, x2, h2, av2, F2, true, want, upds_self ⟨rfl, rfl, rfl, rfl, rfl, trivial⟩, ?_⟩
        exact ⟨by omega, hwy_w14, hix2, hfi2, hbc_w14, hbv_w14, hnb1, hnb4, hnx2, hkl0_w14⟩
    · have c64p := of_decide_eq_false c64
      have hbe := hwx.blk
      have hse := hwx.store
      have hXe : ∀ y, fpS s h y → y < wl.heap.size := fun y hy => hse.lt y hy
      refine exit_ ?_
      refine thx (thx (blx ?_))
      refine thn ?_
      refine seq_ ?_
      refine region_h (S := fun wq => Kp (fun y => fpS s h y) wl wq) mixedP ?_
      intro w16 hk16
      have hp_w16 := hp_wl.keep hk16
      have hkw_w16 := hkw_wl.comp hk16 (fun _ _ e => e.elim)
      have hkl0_w16 := hkl0.comp hk16 (fun _ _ e => e.elim)
      have hwx_w16 := hwx.keep hk16
      have hbc_w16 := hbc.keep hk16
      have hbv_w16 := hbv.keep hk16
      have hbe_w16 := hbe.keep hk16
      have hse_w16 := hse.keep hk16
      have hs16 := hk16.size
      have hS16 : Kp (fun y => fpS s h y) wl w16 := hk16.of_none
      refine wh_take (i := 0) (v := .pointer (some ⟨wb, 0, none⟩)) rfl (by kernel_rfl) (by kernel_rfl) (by kernel_rfl) hS16 rfl (fun wq hq => rf_move rfl) rfl ?_
      refine wh_take (i := 1) (v := .pointer (some ⟨wb, 0, none⟩)) rfl (by kernel_rfl) (by kernel_rfl) (by kernel_rfl) hS16 rfl (fun wq hq => rf_nilCheckP rfl rfl) rfl ?_
      refine wh_take (i := 2) (v := .pointer (some ⟨wb, 0, none⟩)) rfl (by kernel_rfl) (by kernel_rfl) (by kernel_rfl) hS16 rfl (fun wq hq => rf_fieldAddr Try.underlying35 rfl ti32 rfl rfl) rfl ?_
      refine wh_take (i := 3) (v := .pointer (some ⟨s, 0, none⟩)) rfl (by kernel_rfl) (by kernel_rfl) (by kernel_rfl) hS16 rfl (fun wq hq => rf_load Try.underlying32 rfl rfl rfl ((hbe.kp hq (fun e => hwx.wbn e)).cell rfl)) rfl ?_
      refine wh_take (i := 4) (v := .agg #[.bool cl.is_, .int .i64 cl.value]) rfl (by kernel_rfl) (by kernel_rfl) (by kernel_rfl) hS16 rfl (fun wq hq => rf_loadBlk Try.underlying24 rfl ti24 rfl rfl (hbc.kp hq (fun e => hs1 (.inl e))) (Nat.le_of_ble_eq_true rfl)) rfl ?_
      refine wh_one (i := 5) (by kernel_rfl) rfl ?_
      refine wl_ret rfl (fillE_ret s x.st h w16 hse_w16 cl 1 _ hfi.one rfl) (rf_call Try.call6 rfl rfl) ?_
      rintro _ w17 ⟨rfl, hk17⟩
      have hp_w17 := hp_w16.keep hk17
      have hkw_w17 := hkw_w16.comp hk17 (fun _ _ e => e.elim)
      have hkl0_w17 := hkl0_w16.comp hk17 (fun _ _ e => e.elim)
      have hwx_w17 := hwx_w16.keep hk17
      have hbc_w17 := hbc_w16.keep hk17
      have hbv_w17 := hbv_w16.keep hk17
      have hbe_w17 := hbe_w16.keep hk17
      have hse_w17 := hse_w16.keep hk17
      have hS_w17 := hS16.comp hk17 (fun _ _ e => e.elim)
      have hs17 := hk17.size
      refine wl_nil ?_
      refine wh_back hS_w17 ?_
      refine wh_take (i := 6) (v := .bool true) rfl (by kernel_rfl) (by kernel_rfl) (by kernel_rfl) hS_w17 rfl (fun wq hq => rf_eql rfl rfl rfl rfl) (congrArg Value.bool (by decide)) ?_
      refine wh_take (i := 7) (v := .bool true) rfl (by kernel_rfl) (by kernel_rfl) (by kernel_rfl) hS_w17 rfl (fun wq hq => rf_move rfl) rfl ?_
      refine wh_takeG (i := 8) (v := .pointer (some ⟨wb, 0, none⟩)) rfl (by kernel_rfl) (by kernel_rfl) (by kernel_rfl) hS_w17 rfl rfl rfl rfl rfl (fun wq hq => rf_move rfl) rfl ?_
      refine wh_takeG (i := 9) (v := .pointer (some ⟨wb, 0, none⟩)) rfl (by kernel_rfl) (by kernel_rfl) (by kernel_rfl) hS_w17 rfl rfl rfl rfl rfl (fun wq hq => rf_nilCheckP rfl rfl) rfl ?_
      refine wh_takeG (i := 10) (v := .pointer (some ⟨wb, 0, none⟩)) rfl (by kernel_rfl) (by kernel_rfl) (by kernel_rfl) hS_w17 rfl rfl rfl rfl rfl (fun wq hq => rf_fieldAddr Try.underlying35 rfl ti32 rfl rfl) rfl ?_
      refine wh_takeG (i := 11) (v := .pointer (some ⟨s, 0, none⟩)) rfl (by kernel_rfl) (by kernel_rfl) (by kernel_rfl) hS_w17 rfl rfl rfl rfl rfl (fun wq hq => rf_load Try.underlying32 rfl rfl rfl ((hbe.kp hq (fun e => hwx.wbn e)).cell rfl)) rfl ?_
      refine wh_one (i := 12) (by kernel_rfl) rfl ?_
      refine wl_guardT rfl rfl rfl rfl ?_
      refine wl_ret rfl (remove_ret s x.st h w17 hse_w17 1 _ hfi.one (by rw [hix.last]; have := hfi.last; omega)) (rf_call Try.call8 rfl rfl) ?_
      rintro vq w18 ⟨rfl, h3, hsz, hfp3, hk18⟩
      have hp_w18 := hp_w17.kp hk18 (fun x hx e => by have := hFp x hx; have := hnx x (.inl e); omega)
      have hkw_w18 := hkw_w17.comp hk18 (fun b hb e => by have := hnx b (.inl e); omega)
      have hkl0_w18 := hkl0_w17.comp hk18 (fun b hb e => hnx b (.inl e))
      have hbc_w18 := hbc_w17.kp hk18 (fun e => hs1 (.inl e))
      have hbv_w18 := hbv_w17.kp hk18 (fun e => hs9 (.inl e))
      have hbe_w18 := hbe_w17.kp hk18 hwx.wbn
      have hS_w18 := hS_w17.comp hk18 (fun b h e => e)
      have hs18 := hk18.size
      refine wl_nil ?_
      refine wh_back hS_w18 ?_
      refine wh_takeG (i := 13) (v := .bool true) rfl (by kernel_rfl) (by kernel_rfl) (by kernel_rfl) hS_w18 rfl rfl rfl rfl rfl (fun wq hq => rf_eql rfl rfl rfl rfl) (congrArg Value.bool (by decide)) ?_
      refine wh_take (i := 14) (v := .bool true) rfl (by kernel_rfl) (by kernel_rfl) (by kernel_rfl) hS_w18 rfl (fun wq hq => rf_pickT rfl rfl rfl rfl) rfl ?_
      refine wh_take (i := 15) (v := .bool true) rfl (by kernel_rfl) (by kernel_rfl) (by kernel_rfl) hS_w18 rfl (fun wq hq => rf_move rfl) rfl ?_
      refine wh_takeG (i := 16) (v := .pointer (some ⟨wb, 0, none⟩)) rfl (by kernel_rfl) (by kernel_rfl) (by kernel_rfl) hS_w18 rfl rfl rfl rfl rfl (fun wq hq => rf_move rfl) rfl ?_
      refine wh_takeG (i := 17) (v := .pointer (some ⟨wb, 0, none⟩)) rfl (by kernel_rfl) (by kernel_rfl) (by kernel_rfl) hS_w18 rfl rfl rfl rfl rfl (fun wq hq => rf_nilCheckP rfl rfl) rfl ?_
      refine wh_takeG (i := 18) (v := .pointer (some ⟨wb, 0, none⟩)) rfl (by kernel_rfl) (by kernel_rfl) (by kernel_rfl) hS_w18 rfl rfl rfl rfl rfl (fun wq hq => rf_fieldAddr Try.underlying35 rfl ti32 rfl rfl) rfl ?_
      refine wh_takeG (i := 19) (v := .pointer (some ⟨s, 0, none⟩)) rfl (by kernel_rfl) (by kernel_rfl) (by kernel_rfl) hS_w18 rfl rfl rfl rfl rfl (fun wq hq => rf_load Try.underlying32 rfl rfl rfl ((hbe.kp hq (fun e => hwx.wbn e)).cell rfl)) rfl ?_
      refine wh_takeG (i := 20) (v := .agg #[.bool cl.is_, .int .i64 cl.value]) rfl (by kernel_rfl) (by kernel_rfl) (by kernel_rfl) hS_w18 rfl rfl rfl rfl rfl (fun wq hq => rf_loadBlk Try.underlying24 rfl ti24 rfl rfl (hbc.kp hq (fun e => hs1 (.inl e))) (Nat.le_of_ble_eq_true rfl)) rfl ?_
      refine wh_one (i := 21) (by kernel_rfl) rfl ?_
      refine wl_guardT rfl rfl rfl rfl ?_
      refine wl_ret rfl (fillN_ret s _ h3 w18 hsz cl 1 (by simp [remSt])) (rf_call Try.call6 rfl rfl) ?_
      rintro _ w19 ⟨rfl, hk19⟩
      have hp_w19 := hp_w18.keep hk19
      have hkw_w19 := hkw_w18.comp hk19 (fun _ _ e => e.elim)
      have hkl0_w19 := hkl0_w18.comp hk19 (fun _ _ e => e.elim)
      have hbc_w19 := hbc_w18.keep hk19
      have hbv_w19 := hbv_w18.keep hk19
      have hbe_w19 := hbe_w18.keep hk19
      have hS_w19 := hS_w18.comp hk19 (fun _ _ e => e.elim)
      have hsz_w19 := hsz.keep hk19
      have hs19 := hk19.size
      refine wl_nil ?_
      refine wh_back hS_w19 ?_
      refine wh_takeG (i := 22) (v := .bool true) rfl (by kernel_rfl) (by kernel_rfl) (by kernel_rfl) hS_w19 rfl rfl rfl rfl rfl (fun wq hq => rf_eql rfl rfl rfl rfl) (congrArg Value.bool (by decide)) ?_
      refine wh_take (i := 23) (v := .bool true) rfl (by kernel_rfl) (by kernel_rfl) (by kernel_rfl) hS_w19 rfl (fun wq hq => rf_pickT rfl rfl rfl rfl) rfl ?_
      refine wh_take (i := 24) (v := .bool true) rfl (by kernel_rfl) (by kernel_rfl) (by kernel_rfl) hS_w19 rfl (fun wq hq => rf_assign rfl) rfl ?_
      refine wh_done (by kernel_rfl) ?_
      refine thn ?_
      refine ret_ ?_
      refine fin1 (v := .bool true) Try.results3 rfl rfl ?_
      exact ⟨rfl, hkw_w19⟩
end Go.Proofs.Ytmekflonokllgaa.W
