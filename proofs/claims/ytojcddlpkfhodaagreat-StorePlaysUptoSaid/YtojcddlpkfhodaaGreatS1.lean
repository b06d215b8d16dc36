import Derived.Test.YtojcddlpkfhodaaGreatS0
import Derived.KernelRfl
namespace Go.Proofs.YtojcddlpkfhodaaGreat.W
open Go Go.Wk
set_option linter.unusedVariables false
set_option linter.unusedSimpArgs false
theorem live_ret (s : Nat) (st : StS) (h : StH) (w : World) (hs : StoreR w s st h)  : Ret Tryz.prog 36 [.pointer (some ⟨s, 0, none⟩)] w fun v w' => v = .int .i64 (st.live : Nat) ∧ Kp none_ w w' := by
  have hkw : Kp none_ w w := Kp.refl w
  have hb := hs.blk
  have hvm := hs.vers
  have hdd := hs.dict
  refine enterR Tryz.func36 rfl Tryz.ntmps36 rfl ?_
  intro g0
  refine seq_ ?_
  refine region_ ?_
  refine wl_valE (v := .int .i64 ((0 : Nat) : Int)) rfl (rf_assign rfl) rfl ?_
  refine wl_nil ?_
  refine thn ?_
  refine seq_ ?_
  refine region_ ?_
  refine wl_valE (v := .pointer (some ⟨s, 0, none⟩)) rfl (rf_move rfl) rfl ?_
  refine wl_valE (v := .pointer (some ⟨s, 0, none⟩)) rfl (rf_nilCheckP rfl rfl) rfl ?_
  refine wl_valE (v := .pointer (some ⟨s, 3, none⟩)) rfl (rf_fieldAddr Tryz.underlying61 rfl ti59 rfl rfl) rfl ?_
  refine wl_valE (v := .map (some h.vr)) rfl (rf_load Tryz.underlying59 rfl rfl rfl (hb.cell rfl)) rfl ?_
  refine wl_valE (v := .int .i64 ((h.m.length : Nat) : Int)) rfl (rf_lenM Tryz.underlying59 rfl rfl hvm) rfl ?_
  refine wl_valE (v := .int .i64 ((h.m.length : Nat) : Int)) rfl (rf_assign rfl) rfl ?_
  refine wl_nil ?_
  refine thn ?_
  refine ret_ ?_
  refine fin1 (v := .int .i64 ((h.m.length : Nat) : Int)) Tryz.results36 rfl rfl ?_
  exact ⟨by rw [hs.live], hkw⟩
theorem room_ret (s : Nat) (st : StS) (h : StH) (w : World) (hs : StoreR w s st h) (hr : 0 ≤ st.room ∧ st.room ≤ 65536) (hl : (st.live : Int) ≤ 1000000000) : Ret Tryz.prog 37 [.pointer (some ⟨s, 0, none⟩)] w fun v w' => v = .int .i64 (st.room - (st.live : Nat)) ∧ Kp none_ w w' := by
  have hkw : Kp none_ w w := Kp.refl w
  have hb := hs.blk
  have hvm := hs.vers
  have hdd := hs.dict
  have hlv := hs.live
  refine enterR Tryz.func37 rfl Tryz.ntmps37 rfl ?_
  intro g0
  refine seq_ ?_
  refine region_ ?_
  refine wl_valE (v := .int .i64 ((0 : Nat) : Int)) rfl (rf_assign rfl) rfl ?_
  refine wl_nil ?_
  refine thn ?_
  refine seq_ ?_
  refine region_q mixedP (by kernel_rfl) ?_
  refine qt_valE (v := .pointer (some ⟨s, 0, none⟩)) rfl (fun wq hq => rf_move rfl) rfl ?_
  refine qt_valE (v := .pointer (some ⟨s, 0, none⟩)) rfl (fun wq hq => rf_nilCheckP rfl rfl) rfl ?_
  refine qt_valE (v := .pointer (some ⟨s, 0, none⟩)) rfl (fun wq hq => rf_fieldAddr Tryz.underlying61 rfl ti3 rfl rfl) rfl ?_
  refine qt_valE (v := .int .i64 st.room) rfl (fun wq hq => rf_load Tryz.underlying3 rfl rfl rfl ((hb.keep hq).cell rfl)) rfl ?_
  refine qt_valE (v := .pointer (some ⟨s, 0, none⟩)) rfl (fun wq hq => rf_move rfl) rfl ?_
  refine qt_valE (v := .pointer (some ⟨s, 0, none⟩)) rfl (fun wq hq => rf_nilCheckP rfl rfl) rfl ?_
  refine qt_valE (v := .pointer (some ⟨s, 3, none⟩)) rfl (fun wq hq => rf_fieldAddr Tryz.underlying61 rfl ti59 rfl rfl) rfl ?_
  refine qt_valE (v := .map (some h.vr)) rfl (fun wq hq => rf_load Tryz.underlying59 rfl rfl rfl ((hb.keep hq).cell rfl)) rfl ?_
  refine qt_valE (v := .int .i64 ((h.m.length : Nat) : Int)) rfl (fun wq hq => rf_lenM Tryz.underlying59 rfl rfl (hvm.keep hq)) rfl ?_
  refine qt_valE (v := .int .i64 (st.room - ((h.m.length : Nat) : Int))) rfl (fun wq hq => rf_sub rfl rfl rfl rfl (IntWalk.i64_in _ (by omega))) rfl ?_
  refine qt_valE (v := .int .i64 (st.room - ((h.m.length : Nat) : Int))) rfl (fun wq hq => rf_assign rfl) rfl ?_
  refine qt_nil ?_
  intro w1 hk1
  have hb_w1 := hb.keep hk1
  have hvm_w1 := hvm.keep hk1
  have hdd_w1 := hdd.keep hk1
  have hkw_w1 := hkw.comp hk1 (fun _ _ e => e.elim)
  have hs1 := hk1.size
  refine thn ?_
  refine ret_ ?_
  refine fin1 (v := .int .i64 (st.room - ((h.m.length : Nat) : Int))) Tryz.results37 rfl rfl ?_
  exact ⟨by rw [hs.live], hkw_w1⟩
theorem newS_ret (m c : Int) (w : World) (hm : 1 ≤ m ∧ m ≤ 256) (hc : 1 ≤ c ∧ c ≤ 65536) : Ret Tryz.prog 4 [.int .i64 m, .int .i64 c] w fun v w' =>
    ∃ s h, v = .tuple #[.pointer (some ⟨s, 0, none⟩), .int .i64 0] ∧ StoreR w' s ⟨c, m, 0, 0, fun _ => none, fun _ => []⟩ h ∧ Kp none_ w w' ∧ ∀ x, fpS s h x → w.heap.size ≤ x := by
  have hkw : Kp none_ w w := Kp.refl w
  refine enterR Tryz.func4 rfl Tryz.ntmps4 rfl ?_
  intro g0
  refine seq_ ?_
  refine region_ ?_
  refine wl_valE (v := .pointer none) rfl (rf_assign rfl) rfl ?_
  refine wl_valE (v := .int .i64 ((0 : Nat) : Int)) rfl (rf_assign rfl) rfl ?_
  refine wl_nil ?_
  refine thn ?_
  refine seq_ ?_
  refine region_ ?_
  refine wl_valE (v := .int .i64 m) rfl (rf_move rfl) rfl ?_
  refine wl_ret rfl (newDC_ret m w) (rf_call Tryz.call10 rfl rfl) ?_
  rintro vq w1 ⟨_, hgood⟩
  obtain ⟨bd, bp, rs, rfl, hdd, hk1, hfr⟩ := hgood hm
  have hkw_w1 := hkw.comp hk1 (fun _ _ e => e.elim)
  have hs1 := hk1.size
  refine wl_valE (v := .tuple #[.pointer (some ⟨bd, 0, none⟩), .int .i64 0]) rfl (rf_move rfl) rfl ?_
  refine wl_valE (v := .pointer (some ⟨bd, 0, none⟩)) rfl (rf_extract rfl rfl rfl) rfl ?_
  refine wl_valE (v := .int .i64 0) rfl (rf_extract rfl rfl rfl) rfl ?_
  refine wl_valE (v := .pointer (some ⟨bd, 0, none⟩)) rfl (rf_assign rfl) rfl ?_
  refine wl_valE (v := .int .i64 0) rfl (rf_assign rfl) rfl ?_
  refine wl_nil ?_
  refine thn ?_
  refine seq_ ?_
  refine seq_ ?_
  refine region_ ?_
  refine wl_valE (v := .int .i64 0) rfl (rf_move rfl) rfl ?_
  refine wl_valE (v := .bool false) rfl (rf_neq rfl rfl rfl rfl) (congrArg Value.bool (by decide)) ?_
  refine wl_nil ?_
  refine thn ?_
  refine condF rfl rfl ?_
  refine skip_ ?_
  refine thn ?_
  refine seq_ ?_
  refine seq_ ?_
  refine region_ ?_
  refine wl_valE (v := .int .i64 c) rfl (rf_move rfl) rfl ?_
  refine wl_valE (v := .bool (decide (c < ((1 : Nat) : Int)))) rfl (rf_lss rfl rfl rfl rfl) rfl ?_
  refine wl_valE (v := .bool (decide (c < ((1 : Nat) : Int)))) rfl (rf_move rfl) rfl ?_
  refine wl_split (decide (c < ((1 : Nat) : Int))) (fun u4_2 => ?_) (fun u4_2 => ?_)
  · have u4_2p := of_decide_eq_true u4_2
    omega
  · have u4_2p := of_decide_eq_false u4_2
    refine wl_guardT rfl rfl rfl u4_2 ?_
    refine wl_valE (v := .int .i64 c) rfl (rf_move rfl) rfl ?_
    refine wl_guardT rfl rfl rfl u4_2 ?_
    refine wl_valE (v := .bool (decide (((65536 : Nat) : Int) < c))) rfl (rf_gtr rfl rfl rfl rfl) rfl ?_
    refine wl_valE (v := .bool (decide (((65536 : Nat) : Int) < c))) rfl (rf_pickF rfl rfl rfl u4_2) rfl ?_
    refine wl_nil ?_
    refine thn ?_
    refine cond_ (t := decide (((65536 : Nat) : Int) < c)) rfl rfl (fun c21 => ?_) (fun c21 => ?_)
    · have c21p := of_decide_eq_true c21
      omega
    · have c21p := of_decide_eq_false c21
      refine skip_ ?_
      refine thn ?_
      refine seq_ ?_
      refine region_ ?_
      refine wl_valE (v := .int .i64 c) rfl (rf_move rfl) rfl ?_
      refine wl_valE (v := .int .i64 m) rfl (rf_move rfl) rfl ?_
      refine wl_makeMap ?_
      intro b2 w2 hg2 hk2 hb2
      have hkw_w2 := hkw_w1.comp hk2 (fun _ _ e => e.elim)
      have hdd_w2 := hdd.keep hk2
      have hs2 := hk2.size
      refine wl_valE (v := .pointer (some ⟨bd, 0, none⟩)) rfl (rf_move rfl) rfl ?_
      refine wl_valE (v := .agg #[.int .i64 c, .int .i64 m, .int .i64 ((0 : Nat) : Int), .map (some b2), .pointer (some ⟨bd, 0, none⟩)]) rfl (rf_build (offs := [(0, [.int .i64 c]), (1, [.int .i64 m]), (3, [.map (some b2)]), (4, [.pointer (some ⟨bd, 0, none⟩)])]) (places := #[(0, 1), (1, 1), (2, 1), (3, 1), (4, 1)]) Tryz.underlying61 ti61 (fun w => by kernel_rfl) (.cons rfl rfl rfl rfl rfl rfl (.cons rfl rfl rfl rfl rfl rfl (.cons rfl rfl rfl rfl rfl rfl (.cons rfl rfl rfl rfl rfl rfl .nil))))) rfl ?_
      refine wl_box (v := .agg #[.int .i64 c, .int .i64 m, .int .i64 ((0 : Nat) : Int), .map (some b2), .pointer (some ⟨bd, 0, none⟩)]) rfl rfl ?_
      intro b3 w3 hg3 hk3 hb3
      have ne3_b2 : b2 ≠ b3 := Nat.ne_of_lt (Nat.lt_of_lt_of_le hb2.lt hg3)
      have hkw_w3 := hkw_w2.comp hk3 (fun _ _ e => e.elim)
      have hdd_w3 := hdd_w2.keep hk3
      have hb2_w3 := hb2.keep hk3
      have hs3 := hk3.size
      refine wl_valE (v := .pointer (some ⟨b3, 0, none⟩)) rfl (rf_assign rfl) rfl ?_
      refine wl_valE (v := .int .i64 ((0 : Nat) : Int)) rfl (rf_assign rfl) rfl ?_
      refine wl_nil ?_
      refine thn ?_
      refine ret_ ?_
      refine fin2 (v1 := .pointer (some ⟨b3, 0, none⟩)) (v2 := .int .i64 ((0 : Nat) : Int)) Tryz.results4 rfl rfl rfl rfl ?_
      refine ⟨b3, ⟨b2, bd, bp, rs, List.replicate m.toNat [], 0, 0, [], fun _ => none⟩, rfl, ?_, hkw_w3, ?_⟩
      · refine ⟨⟨by simp, fun v r h => by simp at h, fun k v h => by simp at h, fun k => by simp⟩, hb3, Mp.new iv pv hb2_w3, by simp, by simp, rfl, fun v b h => by simp [getL] at h, fun _ _ => rfl, hdd_w3, ?_, fun k => ?_, fun k => by simp [dgetC_new], fun x h => absurd rfl h, fun x h => absurd rfl h, fun h => by have := hdd.lt b2 (.inr (.inr h)); omega, ⟨CBC.new _, Int.le_refl _⟩, PTC.new _⟩
        · have := hdd_w3.len
          rw [List.length_replicate] at this
          show m = (rs.length : Int)
          omega
        · rw [show chainV (List.replicate m.toNat []) k = ⟨none, 0, 0⟩ from by unfold chainV; rw [dgetC_new]; rfl]
          exact Sl.nil _ _
      · rintro x (rfl | rfl | hx | hx | hx)
        · omega
        · omega
        · exact hfr x hx
        · simp at hx
        · exact absurd rfl hx
theorem insert_ret (s : Nat) (st : StS) (h : StH) (w : World) (hs : StoreR w s st h) (k : Key) (b i : Int) (hl : st.last ≤ 17592186044000) : Ret Tryz.prog 12 [.pointer (some ⟨s, 0, none⟩), .agg #[.int .i64 k.table, .int .i64 k.row], .int .i64 b, .int .i64 i] w fun v w' => v = .tuple #[.int .i64 (if insErr st k b i = 0 then st.last + 1 else 0), .int .i64 (insErr st k b i)] ∧ ∃ h', StoreR w' s (if insErr st k b i = 0 then insSt st k b i else st) h' ∧ (∀ x, fpS s h' x → fpS s h x ∨ w.heap.size ≤ x) ∧ Kp (fpS s h) w w' := by
  have hkw : Kp none_ w w := Kp.refl w
  have hb := hs.blk
  have hvm := hs.vers
  have hdd := hs.dict
  obtain ⟨⟨ca, cn, cc⟩, hsv⟩ : ∃ sv : Sv, sv = chainV h.ls k := ⟨_, rfl⟩
  have hch := hs.chain k
  rw [← hsv] at hch
  have hchlen := hs.inv.len k
  obtain ⟨_, _, e, hcc⟩ := hch.form
  simp only [slv] at e
  cases e
  have hlv := hs.live
  have hl0 := hs.inv.last0
  have hneS := hs.s_ne k
  have hneV := hs.vr_ne k
  have hsv_ne := hvm.ne_cells hb
  have hkT : Kp (tIns s h k) w w := Kp.refl w
  refine enterR Tryz.func12 rfl Tryz.ntmps12 rfl ?_
  intro g0
  refine seq_ ?_
  refine region_ ?_
  refine wl_box (v := .agg #[.int .i64 k.table, .int .i64 k.row]) rfl rfl ?_
  intro b1 w1 hg1 hk1 hb1
  have ne1_s : s ≠ b1 := Nat.ne_of_lt (Nat.lt_of_lt_of_le hb.lt hg1)
  have ne1_hvr : h.vr ≠ b1 := Nat.ne_of_lt (Nat.lt_of_lt_of_le hvm.lt hg1)
  have hb_w1 := hb.keep hk1
  have hvm_w1 := hvm.keep hk1
  have hdd_w1 := hdd.keep hk1
  have hkw_w1 := hkw.comp hk1 (fun _ _ e => e.elim)
  have hch_w1 := hch.keep hk1
  have hkT_w1 := hkT.comp hk1 (fun _ _ e => e.elim)
  have hs1 := hk1.size
  refine wl_valE (v := .int .i64 ((0 : Nat) : Int)) rfl (rf_assign rfl) rfl ?_
  refine wl_valE (v := .int .i64 ((0 : Nat) : Int)) rfl (rf_assign rfl) rfl ?_
  refine wl_nil ?_
  refine thn ?_
  refine seq_ ?_
  refine block_ ?_
  refine seq_ ?_
  refine region_ ?_
  refine wl_valE (v := .agg #[.int .i64 k.table, .int .i64 k.row]) rfl (rf_loadBlk Tryz.underlying41 rfl ti41 rfl rfl hb1 (Nat.le_of_ble_eq_true rfl)) rfl ?_
  refine wl_ret rfl (check_ret k w1) (rf_call Tryz.call43 rfl rfl) ?_
  rintro _ w2 ⟨rfl, hk2⟩
  have hb_w2 := hb_w1.keep hk2
  have hvm_w2 := hvm_w1.keep hk2
  have hdd_w2 := hdd_w1.keep hk2
  have hkw_w2 := hkw_w1.comp hk2 (fun _ _ e => e.elim)
  have hch_w2 := hch_w1.keep hk2
  have hkT_w2 := hkT_w1.comp hk2 (fun _ _ e => e.elim)
  have hb1_w2 := hb1.keep hk2
  have hs2 := hk2.size
  refine wl_valE (v := .bool (decide (checkF k ≠ ((0 : Nat) : Int)))) rfl (rf_neq rfl rfl rfl rfl) rfl ?_
  refine wl_valE (v := .bool (decide (checkF k ≠ ((0 : Nat) : Int)))) rfl (rf_assign rfl) rfl ?_
  refine wl_nil ?_
  refine thn ?_
  refine cond_ (t := decide (checkF k ≠ ((0 : Nat) : Int))) rfl rfl (fun c14 => ?_) (fun c14 => ?_)
  · have c14p := of_decide_eq_true c14
    have hbad : okK k = false := by unfold checkF at c14p; split at c14p <;> simp_all
    refine seq_ ?_
    refine region_ ?_
    refine wl_valE (v := .int .i64 ((0 : Nat) : Int)) rfl (rf_assign rfl) rfl ?_
    refine wl_valE (v := .int .i64 ((20 : Nat) : Int)) rfl (rf_assign rfl) rfl ?_
    refine wl_nil ?_
    refine thn ?_
    refine ret_ ?_
    refine blr (thr ?_)
    refine fin2 (v1 := .int .i64 ((0 : Nat) : Int)) (v2 := .int .i64 ((20 : Nat) : Int)) Tryz.results12 rfl rfl rfl rfl ?_
    exact ins_bad hs hkw_w2 (by unfold insErr; rw [if_pos hbad]; rfl) (by decide)
  · have c14p := of_decide_eq_false c14
    have hgood : okK k = true := by unfold checkF at c14p; split at c14p <;> simp_all
    refine seq_ ?_
    refine region_ ?_
    refine wl_valE (v := .int .i64 b) rfl (rf_move rfl) rfl ?_
    refine wl_valE (v := .bool (decide (b < ((1 : Nat) : Int)))) rfl (rf_lss rfl rfl rfl rfl) rfl ?_
    refine wl_valE (v := .bool (decide (b < ((1 : Nat) : Int)))) rfl (rf_move rfl) rfl ?_
    refine wl_split (decide (b < ((1 : Nat) : Int))) (fun u3_2 => ?_) (fun u3_2 => ?_)
    · have u3_2p := of_decide_eq_true u3_2
      refine wl_guardF rfl rfl rfl u3_2 ?_
      refine wl_guardF rfl rfl rfl u3_2 ?_
      refine wl_valE (v := .bool true) rfl (rf_pickT rfl rfl rfl u3_2) rfl ?_
      refine wl_valE (v := .bool true) rfl (rf_assign rfl) rfl ?_
      refine wl_nil ?_
      refine thn ?_
      refine condT rfl rfl ?_
      refine seq_ ?_
      refine region_ ?_
      refine wl_valE (v := .int .i64 ((0 : Nat) : Int)) rfl (rf_assign rfl) rfl ?_
      refine wl_valE (v := .int .i64 ((80 : Nat) : Int)) rfl (rf_assign rfl) rfl ?_
      refine wl_nil ?_
      refine thn ?_
      refine ret_ ?_
      refine blr (thr ?_)
      refine fin2 (v1 := .int .i64 ((0 : Nat) : Int)) (v2 := .int .i64 ((80 : Nat) : Int)) Tryz.results12 rfl rfl rfl rfl ?_
      exact ins_bad hs hkw_w2 (by unfold insErr; rw [if_neg (by simp [hgood]), if_pos (by omega)]; rfl) (by decide)
    · have u3_2p := of_decide_eq_false u3_2
      refine wl_guardT rfl rfl rfl u3_2 ?_
      refine wl_valE (v := .int .i64 b) rfl (rf_move rfl) rfl ?_
      refine wl_guardT rfl rfl rfl u3_2 ?_
      refine wl_valE (v := .bool (decide (((1099511627776 : Nat) : Int) < b))) rfl (rf_gtr rfl rfl rfl rfl) rfl ?_
      refine wl_valE (v := .bool (decide (((1099511627776 : Nat) : Int) < b))) rfl (rf_pickF rfl rfl rfl u3_2) rfl ?_
      refine wl_valE (v := .bool (decide (((1099511627776 : Nat) : Int) < b))) rfl (rf_assign rfl) rfl ?_
      refine wl_nil ?_
      refine thn ?_
      refine cond_ (t := decide (((1099511627776 : Nat) : Int) < b)) rfl rfl (fun c18 => ?_) (fun c18 => ?_)
      · have c18p := of_decide_eq_true c18
        refine seq_ ?_
        refine region_ ?_
        refine wl_valE (v := .int .i64 ((0 : Nat) : Int)) rfl (rf_assign rfl) rfl ?_
        refine wl_valE (v := .int .i64 ((80 : Nat) : Int)) rfl (rf_assign rfl) rfl ?_
        refine wl_nil ?_
        refine thn ?_
        refine ret_ ?_
        refine blr (thr ?_)
        refine fin2 (v1 := .int .i64 ((0 : Nat) : Int)) (v2 := .int .i64 ((80 : Nat) : Int)) Tryz.results12 rfl rfl rfl rfl ?_
        exact ins_bad hs hkw_w2 (by unfold insErr; rw [if_neg (by simp [hgood]), if_pos (by omega)]; rfl) (by decide)
      · have c18p := of_decide_eq_false c18
        refine seq_ ?_
        refine region_ ?_
        refine wl_valE (v := .int .i64 i) rfl (rf_move rfl) rfl ?_
        refine wl_valE (v := .bool (decide (i < ((0 : Nat) : Int)))) rfl (rf_lss rfl rfl rfl rfl) rfl ?_
        refine wl_valE (v := .bool (decide (i < ((0 : Nat) : Int)))) rfl (rf_move rfl) rfl ?_
        refine wl_split (decide (i < ((0 : Nat) : Int))) (fun u5_2 => ?_) (fun u5_2 => ?_)
        · have u5_2p := of_decide_eq_true u5_2
          refine wl_guardF rfl rfl rfl u5_2 ?_
          refine wl_guardF rfl rfl rfl u5_2 ?_
          refine wl_valE (v := .bool true) rfl (rf_pickT rfl rfl rfl u5_2) rfl ?_
          refine wl_valE (v := .bool true) rfl (rf_assign rfl) rfl ?_
          refine wl_nil ?_
          refine thn ?_
          refine condT rfl rfl ?_
          refine seq_ ?_
          refine region_ ?_
          refine wl_valE (v := .int .i64 ((0 : Nat) : Int)) rfl (rf_assign rfl) rfl ?_
          refine wl_valE (v := .int .i64 ((81 : Nat) : Int)) rfl (rf_assign rfl) rfl ?_
          refine wl_nil ?_
          refine thn ?_
          refine ret_ ?_
          refine blr (thr ?_)
          refine fin2 (v1 := .int .i64 ((0 : Nat) : Int)) (v2 := .int .i64 ((81 : Nat) : Int)) Tryz.results12 rfl rfl rfl rfl ?_
          exact ins_bad hs hkw_w2 (by unfold insErr; rw [if_neg (by simp [hgood]), if_neg (by omega), if_pos (by omega)]; rfl) (by decide)
        · have u5_2p := of_decide_eq_false u5_2
          refine wl_guardT rfl rfl rfl u5_2 ?_
          refine wl_valE (v := .int .i64 i) rfl (rf_move rfl) rfl ?_
          refine wl_guardT rfl rfl rfl u5_2 ?_
          refine wl_valE (v := .bool (decide (((64 : Nat) : Int) ≤ i))) rfl (rf_geq rfl rfl rfl rfl) rfl ?_
          refine wl_valE (v := .bool (decide (((64 : Nat) : Int) ≤ i))) rfl (rf_pickF rfl rfl rfl u5_2) rfl ?_
          refine wl_valE (v := .bool (decide (((64 : Nat) : Int) ≤ i))) rfl (rf_assign rfl) rfl ?_
          refine wl_nil ?_
          refine thn ?_
          refine cond_ (t := decide (((64 : Nat) : Int) ≤ i)) rfl rfl (fun c25 => ?_) (fun c25 => ?_)
          · have c25p := of_decide_eq_true c25
            refine seq_ ?_
            refine region_ ?_
            refine wl_valE (v := .int .i64 ((0 : Nat) : Int)) rfl (rf_assign rfl) rfl ?_
            refine wl_valE (v := .int .i64 ((81 : Nat) : Int)) rfl (rf_assign rfl) rfl ?_
            refine wl_nil ?_
            refine thn ?_
            refine ret_ ?_
            refine blr (thr ?_)
            refine fin2 (v1 := .int .i64 ((0 : Nat) : Int)) (v2 := .int .i64 ((81 : Nat) : Int)) Tryz.results12 rfl rfl rfl rfl ?_
            exact ins_bad hs hkw_w2 (by unfold insErr; rw [if_neg (by simp [hgood]), if_neg (by omega), if_pos (by omega)]; rfl) (by decide)
          · have c25p := of_decide_eq_false c25
            refine seq_ ?_
            refine region_q mixedP (by kernel_rfl) ?_
            refine qt_valE (v := .pointer (some ⟨s, 0, none⟩)) rfl (fun wq hq => rf_move rfl) rfl ?_
            refine qt_valE (v := .pointer (some ⟨s, 0, none⟩)) rfl (fun wq hq => rf_nilCheckP rfl rfl) rfl ?_
            refine qt_valE (v := .pointer (some ⟨s, 3, none⟩)) rfl (fun wq hq => rf_fieldAddr Tryz.underlying61 rfl ti59 rfl rfl) rfl ?_
            refine qt_valE (v := .map (some h.vr)) rfl (fun wq hq => rf_load Tryz.underlying59 rfl rfl rfl ((hb_w2.keep hq).cell rfl)) rfl ?_
            refine qt_valE (v := .int .i64 ((h.m.length : Nat) : Int)) rfl (fun wq hq => rf_lenM Tryz.underlying59 rfl rfl (hvm_w2.keep hq)) rfl ?_
            refine qt_valE (v := .pointer (some ⟨s, 0, none⟩)) rfl (fun wq hq => rf_move rfl) rfl ?_
            refine qt_valE (v := .pointer (some ⟨s, 0, none⟩)) rfl (fun wq hq => rf_nilCheckP rfl rfl) rfl ?_
            refine qt_valE (v := .pointer (some ⟨s, 0, none⟩)) rfl (fun wq hq => rf_fieldAddr Tryz.underlying61 rfl ti3 rfl rfl) rfl ?_
            refine qt_valE (v := .int .i64 st.room) rfl (fun wq hq => rf_load Tryz.underlying3 rfl rfl rfl ((hb_w2.keep hq).cell rfl)) rfl ?_
            refine qt_valE (v := .bool (decide (st.room ≤ ((h.m.length : Nat) : Int)))) rfl (fun wq hq => rf_geq rfl rfl rfl rfl) rfl ?_
            refine qt_valE (v := .bool (decide (st.room ≤ ((h.m.length : Nat) : Int)))) rfl (fun wq hq => rf_assign rfl) rfl ?_
            refine qt_nil ?_
            intro w3 hk3
            have hb_w3 := hb_w2.keep hk3
            have hvm_w3 := hvm_w2.keep hk3
            have hdd_w3 := hdd_w2.keep hk3
            have hkw_w3 := hkw_w2.comp hk3 (fun _ _ e => e.elim)
            have hch_w3 := hch_w2.keep hk3
            have hkT_w3 := hkT_w2.comp hk3 (fun _ _ e => e.elim)
            have hb1_w3 := hb1_w2.keep hk3
            have hs3 := hk3.size
            refine thn ?_
            refine cond_ (t := decide (st.room ≤ ((h.m.length : Nat) : Int))) rfl rfl (fun c32 => ?_) (fun c32 => ?_)
            · have c32p := of_decide_eq_true c32
              refine seq_ ?_
              refine region_ ?_
              refine wl_valE (v := .int .i64 ((0 : Nat) : Int)) rfl (rf_assign rfl) rfl ?_
              refine wl_valE (v := .int .i64 ((92 : Nat) : Int)) rfl (rf_assign rfl) rfl ?_
              refine wl_nil ?_
              refine thn ?_
              refine ret_ ?_
              refine blr (thr ?_)
              refine fin2 (v1 := .int .i64 ((0 : Nat) : Int)) (v2 := .int .i64 ((92 : Nat) : Int)) Tryz.results12 rfl rfl rfl rfl ?_
              exact ins_bad hs hkw_w3 (by unfold insErr; rw [if_neg (by simp [hgood]), if_neg (by omega), if_neg (by omega), if_pos (by omega)]; rfl) (by decide)
            · have c32p := of_decide_eq_false c32
              refine skip_ ?_
              refine bln ?_
              refine thn ?_
              refine seq_ ?_
              refine region_q mixedP (by kernel_rfl) ?_
              refine qt_valE (v := .pointer (some ⟨s, 0, none⟩)) rfl (fun wq hq => rf_move rfl) rfl ?_
              refine qt_valE (v := .pointer (some ⟨s, 0, none⟩)) rfl (fun wq hq => rf_nilCheckP rfl rfl) rfl ?_
              refine qt_valE (v := .pointer (some ⟨s, 4, none⟩)) rfl (fun wq hq => rf_fieldAddr Tryz.underlying61 rfl ti54 rfl rfl) rfl ?_
              refine qt_valE (v := .pointer (some ⟨h.bd, 0, none⟩)) rfl (fun wq hq => rf_load Tryz.underlying54 rfl rfl rfl ((hb_w3.keep hq).cell rfl)) rfl ?_
              refine qt_valE (v := .agg #[.int .i64 k.table, .int .i64 k.row]) rfl (fun wq hq => rf_loadBlk Tryz.underlying41 rfl ti41 rfl rfl (hb1_w3.keep hq) (Nat.le_of_ble_eq_true rfl)) rfl ?_
              refine qt_ret (v := .tuple #[.slice ca ((st.ch k).length) cc, .bool ((dgetC h.ls k).isSome)]) rfl (fun wq hq => (getC_ret k h.bd h.bp h.rs h.ls h.came h.n wq (hdd_w3.keep hq)).mono (fun _ _ h => ⟨by rw [h.1]; exact congrArg (fun q : Sv => Value.tuple #[.slice q.a q.n q.c, .bool _]) hsv.symm, hq.trans h.2⟩)) (fun wq hq => rf_call Tryz.call45 rfl rfl) ?_
              refine qt_valE (v := .tuple #[.slice ca ((st.ch k).length) cc, .bool ((dgetC h.ls k).isSome)]) rfl (fun wq hq => rf_move rfl) rfl ?_
              refine qt_valE (v := .slice ca ((st.ch k).length) cc) rfl (fun wq hq => rf_extract rfl rfl rfl) rfl ?_
              refine qt_valE (v := .bool ((dgetC h.ls k).isSome)) rfl (fun wq hq => rf_extract rfl rfl rfl) rfl ?_
              refine qt_valE (v := .slice ca ((st.ch k).length) cc) rfl (fun wq hq => rf_assign rfl) rfl ?_
              refine qt_valE (v := .bool ((dgetC h.ls k).isSome)) rfl (fun wq hq => rf_assign rfl) rfl ?_
              refine qt_nil ?_
              intro w4 hk4
              have hb_w4 := hb_w3.keep hk4
              have hvm_w4 := hvm_w3.keep hk4
              have hdd_w4 := hdd_w3.keep hk4
              have hkw_w4 := hkw_w3.comp hk4 (fun _ _ e => e.elim)
              have hch_w4 := hch_w3.keep hk4
              have hkT_w4 := hkT_w3.comp hk4 (fun _ _ e => e.elim)
              have hb1_w4 := hb1_w3.keep hk4
              have hs4 := hk4.size
              refine thn ?_
              refine seq_ ?_
              refine seq_ ?_
              refine region_ ?_
              refine wl_valE (v := .slice ca ((st.ch k).length) cc) rfl (rf_move rfl) rfl ?_
              refine wl_valE (v := .int .i64 (((st.ch k).length : Nat) : Int)) rfl (rf_len_slice Tryz.underlying57 rfl rfl) rfl ?_
              refine wl_valE (v := .int .i64 (((st.ch k).length : Nat) : Int)) rfl (rf_assign rfl) rfl ?_
              refine wl_nil ?_
              refine thn ?_
              refine seq_ ?_
              refine region_ ?_
              refine wl_valE (v := .int .i64 (((st.ch k).length : Nat) : Int)) rfl (rf_move rfl) rfl ?_
              refine wl_valE (v := .bool (decide (((0 : Nat) : Int) < (((st.ch k).length : Nat) : Int)))) rfl (rf_gtr rfl rfl rfl rfl) rfl ?_
              refine wl_nil ?_
              refine thn ?_
              have hkc0 : Kp none_ w4 w4 := Kp.refl _
              refine cut_ (fun lf lw => ∃ (g : Nat → Value) , lf = upds g [(0, .pointer (some ⟨s, 0, none⟩)), (2, .int .i64 b), (3, .int .i64 i), (5, .pointer (some ⟨b1, 0, none⟩)), (10, .slice ca ((st.ch k).length) cc), (12, .int .i64 (((st.ch k).length : Nat) : Int)), (55, .bool (decide (((0 : Nat) : Int) < (((st.ch k).length : Nat) : Int))))] ∧ staleB st k b i = false ∧ Kp (none_) w4 lw) ?_ ?_
              · refine cond_ (t := decide (((0 : Nat) : Int) < (((st.ch k).length : Nat) : Int))) rfl rfl (fun c55 => ?_) (fun c55 => ?_)
                · have c55p := of_decide_eq_true c55
                  obtain ⟨v0, hv0⟩ : ∃ v, (st.ch k)[(st.ch k).length - 1]? = some v := ⟨_, List.getElem?_eq_getElem (by omega)⟩
                  have hlast : (st.ch k).getLast? = some v0 := by rw [List.getLast?_eq_getElem?]; exact hv0
                  obtain ⟨r0, hr0, _⟩ := hs.inv.chv k v0 (List.mem_of_getElem? hv0)
                  obtain ⟨vb, hgv, hvb, _⟩ := hs.get hr0
                  have hvb2 := hvb.keep hkw_w4
                  obtain ⟨cb, co, cc2, e2, hown, hC⟩ := hch_w4.at (by omega)
                  simp only [slv, Value.slice.injEq] at e2
                  obtain ⟨rfl, _, rfl⟩ := e2
                  refine seq_ ?_
                  refine region_q mixedP (by kernel_rfl) ?_
                  refine qt_valE (v := .pointer (some ⟨s, 0, none⟩)) rfl (fun wq hq => rf_move rfl) rfl ?_
                  refine qt_valE (v := .pointer (some ⟨s, 0, none⟩)) rfl (fun wq hq => rf_nilCheckP rfl rfl) rfl ?_
                  refine qt_valE (v := .pointer (some ⟨s, 3, none⟩)) rfl (fun wq hq => rf_fieldAddr Tryz.underlying61 rfl ti59 rfl rfl) rfl ?_
                  refine qt_valE (v := .map (some h.vr)) rfl (fun wq hq => rf_load Tryz.underlying59 rfl rfl rfl ((hb_w4.keep hq).cell rfl)) rfl ?_
                  refine qt_valE (v := .slice (some ⟨cb, co, none⟩) ((st.ch k).length) cc) rfl (fun wq hq => rf_move rfl) rfl ?_
                  refine qt_valE (v := .int .i64 (((st.ch k).length : Nat) : Int)) rfl (fun wq hq => rf_move rfl) rfl ?_
                  refine qt_valE (v := .int .i64 (((st.ch k).length - 1 : Nat) : Int)) rfl (fun wq hq => rf_sub rfl rfl rfl rfl (by rw [IntWalk.i64_in _ (by omega)]; omega)) rfl ?_
                  refine qt_valE (v := .pointer (some ⟨cb, co + ((st.ch k).length - 1), none⟩)) rfl (fun wq hq => rf_indexAddr Tryz.underlying57 ti3 rfl rfl rfl rfl (by omega) (by omega)) (by simp) ?_
                  refine qt_valE (v := .int .i64 v0) rfl (fun wq hq => rf_load Tryz.underlying3 rfl rfl rfl (hq.cell (el1 (hC.cell hv0 0 _ rfl)) (fun h => h))) rfl ?_
                  refine qt_valE (v := .pointer (some ⟨vb, 0, none⟩)) rfl (fun wq hq => rf_lookup (a := v0) klI3 Tryz.underlying59 ti100 rfl rfl rfl rfl (hvm_w4.keep hq)) (by rw [hgv]; rfl) ?_
                  refine qt_valE (v := .pointer (some ⟨vb, 0, none⟩)) rfl (fun wq hq => rf_assign rfl) rfl ?_
                  refine qt_nil ?_
                  intro w5 hk5
                  have hb_w5 := hb_w4.keep hk5
                  have hvm_w5 := hvm_w4.keep hk5
                  have hdd_w5 := hdd_w4.keep hk5
                  have hkw_w5 := hkw_w4.comp hk5 (fun _ _ e => e.elim)
                  have hch_w5 := hch_w4.keep hk5
                  have hkT_w5 := hkT_w4.comp hk5 (fun _ _ e => e.elim)
                  have hb1_w5 := hb1_w4.keep hk5
                  have hkc0_w5 := hkc0.comp hk5 (fun _ _ e => e.elim)
                  have hvb2_w5 := hvb2.keep hk5
                  have hC_w5 := hC.keep hk5
                  have hs5 := hk5.size
                  refine thn ?_
                  refine seq_ ?_
                  refine region_ ?_
                  refine wl_valE (v := .int .i64 b) rfl (rf_move rfl) rfl ?_
                  refine wl_valE (v := .pointer (some ⟨vb, 0, none⟩)) rfl (rf_move rfl) rfl ?_
                  refine wl_valE (v := .pointer (some ⟨vb, 0, none⟩)) rfl (rf_nilCheckP rfl rfl) rfl ?_
                  refine wl_valE (v := .pointer (some ⟨vb, 0, none⟩)) rfl (rf_fieldAddr Tryz.underlying104 rfl ti102 rfl rfl) rfl ?_
                  refine wl_valE (v := .pointer (some ⟨vb, 0, none⟩)) rfl (rf_fieldAddr Tryz.underlying102 rfl ti3 rfl rfl) rfl ?_
                  refine wl_valE (v := .int .i64 r0.batch) rfl (rf_load Tryz.underlying3 rfl rfl rfl (hvb2_w5.cell rfl)) rfl ?_
                  refine wl_valE (v := .bool (decide (b < r0.batch))) rfl (rf_lss rfl rfl rfl rfl) rfl ?_
                  refine wl_valE (v := .bool (decide (b < r0.batch))) rfl (rf_move rfl) rfl ?_
                  refine wl_split (decide (b < r0.batch)) (fun u13_7 => ?_) (fun u13_7 => ?_)
                  · have u13_7p := of_decide_eq_true u13_7
                    refine wl_guardF rfl rfl rfl u13_7 ?_
                    refine wl_guardF rfl rfl rfl u13_7 ?_
                    refine wl_guardF rfl rfl rfl u13_7 ?_
                    refine wl_guardF rfl rfl rfl u13_7 ?_
                    refine wl_guardF rfl rfl rfl u13_7 ?_
                    refine wl_guardF rfl rfl rfl u13_7 ?_
                    refine wl_guardF rfl rfl rfl u13_7 ?_
                    refine wl_guardF rfl rfl rfl u13_7 ?_
                    refine wl_guardS rfl rfl rfl ?_
                    refine wl_guardS rfl rfl rfl ?_
                    refine wl_guardS rfl rfl rfl ?_
                    refine wl_guardS rfl rfl rfl ?_
                    refine wl_guardS rfl rfl rfl ?_
                    refine wl_guardS rfl rfl rfl ?_
                    refine wl_guardS rfl rfl rfl ?_
                    refine wl_guardF rfl rfl rfl u13_7 ?_
                    refine wl_valE (v := .bool true) rfl (rf_pickT rfl rfl rfl u13_7) rfl ?_
                    refine wl_nil ?_
                    refine thn ?_
                    refine condT rfl rfl ?_
                    refine seq_ ?_
                    refine region_ ?_
                    refine wl_valE (v := .int .i64 ((0 : Nat) : Int)) rfl (rf_assign rfl) rfl ?_
                    refine wl_valE (v := .int .i64 ((94 : Nat) : Int)) rfl (rf_assign rfl) rfl ?_
                    refine wl_nil ?_
                    refine thn ?_
                    refine ret_ ?_
                    refine cxr (thr ?_)
                    refine fin2 (v1 := .int .i64 ((0 : Nat) : Int)) (v2 := .int .i64 ((94 : Nat) : Int)) Tryz.results12 rfl rfl rfl rfl ?_
                    exact ins_bad hs hkw_w5 (by unfold insErr; rw [if_neg (by simp [hgood]), if_neg (by omega), if_neg (by omega), if_neg (by omega), if_pos (by unfold staleB; rw [hlast]; simp [hr0]; omega)]; rfl) (by decide)
                  · have u13_7p := of_decide_eq_false u13_7
                    refine wl_guardT rfl rfl rfl u13_7 ?_
                    refine wl_valE (v := .int .i64 b) rfl (rf_move rfl) rfl ?_
                    refine wl_guardT rfl rfl rfl u13_7 ?_
                    refine wl_valE (v := .pointer (some ⟨vb, 0, none⟩)) rfl (rf_move rfl) rfl ?_
                    refine wl_guardT rfl rfl rfl u13_7 ?_
                    refine wl_valE (v := .pointer (some ⟨vb, 0, none⟩)) rfl (rf_nilCheckP rfl rfl) rfl ?_
                    refine wl_guardT rfl rfl rfl u13_7 ?_
                    refine wl_valE (v := .pointer (some ⟨vb, 0, none⟩)) rfl (rf_fieldAddr Tryz.underlying104 rfl ti102 rfl rfl) rfl ?_
                    refine wl_guardT rfl rfl rfl u13_7 ?_
                    refine wl_valE (v := .pointer (some ⟨vb, 0, none⟩)) rfl (rf_fieldAddr Tryz.underlying102 rfl ti3 rfl rfl) rfl ?_
                    refine wl_guardT rfl rfl rfl u13_7 ?_
                    refine wl_valE (v := .int .i64 r0.batch) rfl (rf_load Tryz.underlying3 rfl rfl rfl (hvb2_w5.cell rfl)) rfl ?_
                    refine wl_guardT rfl rfl rfl u13_7 ?_
                    refine wl_valE (v := .bool (decide (b = r0.batch))) rfl (rf_eql rfl rfl rfl rfl) rfl ?_
                    refine wl_guardT rfl rfl rfl u13_7 ?_
                    refine wl_valE (v := .bool (decide (b = r0.batch))) rfl (rf_move rfl) rfl ?_
                    refine wl_split (decide (b = r0.batch)) (fun u13_15 => ?_) (fun u13_15 => ?_)
                    · have u13_15p := of_decide_eq_true u13_15
                      refine wl_guardT rfl rfl rfl u13_15 ?_
                      refine wl_valE (v := .int .i64 i) rfl (rf_move rfl) rfl ?_
                      refine wl_guardT rfl rfl rfl u13_15 ?_
                      refine wl_valE (v := .pointer (some ⟨vb, 0, none⟩)) rfl (rf_move rfl) rfl ?_
                      refine wl_guardT rfl rfl rfl u13_15 ?_
                      refine wl_valE (v := .pointer (some ⟨vb, 0, none⟩)) rfl (rf_nilCheckP rfl rfl) rfl ?_
                      refine wl_guardT rfl rfl rfl u13_15 ?_
                      refine wl_valE (v := .pointer (some ⟨vb, 0, none⟩)) rfl (rf_fieldAddr Tryz.underlying104 rfl ti102 rfl rfl) rfl ?_
                      refine wl_guardT rfl rfl rfl u13_15 ?_
                      refine wl_valE (v := .pointer (some ⟨vb, 1, none⟩)) rfl (rf_fieldAddr Tryz.underlying102 rfl ti3 rfl rfl) rfl ?_
                      refine wl_guardT rfl rfl rfl u13_15 ?_
                      refine wl_valE (v := .int .i64 r0.index) rfl (rf_load Tryz.underlying3 rfl rfl rfl (hvb2_w5.cell rfl)) rfl ?_
                      refine wl_guardT rfl rfl rfl u13_15 ?_
                      refine wl_valE (v := .bool (decide (i ≤ r0.index))) rfl (rf_leq rfl rfl rfl rfl) rfl ?_
                      refine wl_guardT rfl rfl rfl u13_7 ?_
                      refine wl_valE (v := .bool (decide (i ≤ r0.index))) rfl (rf_pickT rfl rfl rfl u13_15) rfl ?_
                      refine wl_valE (v := .bool (decide (i ≤ r0.index))) rfl (rf_pickF rfl rfl rfl u13_7) rfl ?_
                      refine wl_nil ?_
                      refine thn ?_
                      refine cond_ (t := decide (i ≤ r0.index)) rfl rfl (fun c90 => ?_) (fun c90 => ?_)
                      · have c90p := of_decide_eq_true c90
                        refine seq_ ?_
                        refine region_ ?_
                        refine wl_valE (v := .int .i64 ((0 : Nat) : Int)) rfl (rf_assign rfl) rfl ?_
                        refine wl_valE (v := .int .i64 ((94 : Nat) : Int)) rfl (rf_assign rfl) rfl ?_
                        refine wl_nil ?_
                        refine thn ?_
                        refine ret_ ?_
                        refine cxr (thr ?_)
                        refine fin2 (v1 := .int .i64 ((0 : Nat) : Int)) (v2 := .int .i64 ((94 : Nat) : Int)) Tryz.results12 rfl rfl rfl rfl ?_
                        exact ins_bad hs hkw_w5 (by unfold insErr; rw [if_neg (by simp [hgood]), if_neg (by omega), if_neg (by omega), if_neg (by omega), if_pos (by unfold staleB; rw [hlast]; simp [hr0]; omega)]; rfl) (by decide)
                      · have c90p := of_decide_eq_false c90
                        refine skip_ ?_
                        refine cxn ⟨_, upds_self ⟨rfl, rfl, rfl, rfl, rfl, rfl, rfl, trivial⟩, ?_⟩
                        exact ⟨by unfold staleB; rw [hlast]; simp [hr0]; omega, hkc0_w5⟩
                    · have u13_15p := of_decide_eq_false u13_15
                      refine wl_guardF rfl rfl rfl u13_15 ?_
                      refine wl_guardF rfl rfl rfl u13_15 ?_
                      refine wl_guardF rfl rfl rfl u13_15 ?_
                      refine wl_guardF rfl rfl rfl u13_15 ?_
                      refine wl_guardF rfl rfl rfl u13_15 ?_
                      refine wl_guardF rfl rfl rfl u13_15 ?_
                      refine wl_guardF rfl rfl rfl u13_15 ?_
                      refine wl_guardT rfl rfl rfl u13_7 ?_
                      refine wl_valE (v := .bool false) rfl (rf_pickF rfl rfl rfl u13_15) rfl ?_
                      refine wl_valE (v := .bool false) rfl (rf_pickF rfl rfl rfl u13_7) rfl ?_
                      refine wl_nil ?_
                      refine thn ?_
                      refine condF rfl rfl ?_
                      refine skip_ ?_
                      refine cxn ⟨_, upds_self ⟨rfl, rfl, rfl, rfl, rfl, rfl, rfl, trivial⟩, ?_⟩
                      exact ⟨by unfold staleB; rw [hlast]; simp [hr0]; omega, hkc0_w5⟩
                · have c55p := of_decide_eq_false c55
                  refine skip_ ?_
                  refine cxn ⟨_, upds_self ⟨rfl, rfl, rfl, rfl, rfl, rfl, rfl, trivial⟩, ?_⟩
                  exact ⟨by unfold staleB; rw [List.eq_nil_of_length_eq_zero (by omega : (st.ch k).length = 0)]; rfl, Kp.refl _⟩
              · intro lfcutc55 wc hIcutc55
                obtain ⟨glcutc55, rfl, hns, hkcut⟩ := hIcutc55
                have hb_wc := hb_w4.keep hkcut
                have hvm_wc := hvm_w4.keep hkcut
                have hdd_wc := hdd_w4.keep hkcut
                have hkw_wc := hkw_w4.comp hkcut (fun _ _ e => e.elim)
                have hch_wc := hch_w4.keep hkcut
                have hkT_wc := hkT_w4.comp hkcut (fun _ _ e => e.elim)
                have hb1_wc := hb1_w4.keep hkcut
                have hsc := hkcut.size
                refine thn ?_
                refine seq_ ?_
                refine region_ ?_
                refine wl_valE (v := .pointer (some ⟨s, 0, none⟩)) rfl (rf_move rfl) rfl ?_
                refine wl_valE (v := .pointer (some ⟨s, 0, none⟩)) rfl (rf_nilCheckP rfl rfl) rfl ?_
                refine wl_valE (v := .pointer (some ⟨s, 2, none⟩)) rfl (rf_fieldAddr Tryz.underlying61 rfl ti3 rfl rfl) rfl ?_
                refine wl_valE (v := .int .i64 st.last) rfl (rf_load Tryz.underlying3 rfl rfl rfl (hb_wc.cell rfl)) rfl ?_
                refine wl_valE (v := .int .i64 (st.last + ((1 : Nat) : Int))) rfl (rf_add rfl rfl rfl rfl (IntWalk.i64_in _ (by omega))) rfl ?_
                refine wl_valE (v := .pointer (some ⟨s, 0, none⟩)) rfl (rf_nilCheckP rfl rfl) rfl ?_
                refine wl_valE (v := .pointer (some ⟨s, 2, none⟩)) rfl (rf_fieldAddr Tryz.underlying61 rfl ti3 rfl rfl) rfl ?_
                refine wl_store (b := s) (o := 2) (v := .int .i64 (st.last + ((1 : Nat) : Int))) ti3 rfl rfl rfl rfl rfl hb_wc (by first | decide | exact Nat.le_of_ble_eq_true rfl | simp) ?_
                intro w6 hk6 hb6
                have hvm_w6 := hvm_wc.kp hk6 (by omega)
                have hdd_w6 := hdd_wc.kp hk6 (fun x hx e => hs.s_fp (e ▸ hx))
                have hch_w6 := hch_wc.kp hk6 (fun x hx e => hneS (.inl (e ▸ hx)))
                have hkT_w6 := hkT_wc.comp hk6 (fun x _ e => .inl e)
                have hb1_w6 := hb1_wc.kp hk6 (Ne.symm ne1_s)
                have hs6 := hk6.size
                replace hb6 : Blk w6 s (.cells #[.int .i64 st.room, .int .i64 st.parts, .int .i64 (st.last + ((1 : Nat) : Int)), .map (some h.vr), .pointer (some ⟨h.bd, 0, none⟩)] _ (0, 0)) := hb6
                refine wl_nil ?_
                refine thn ?_
                refine seq_ ?_
                refine region_h (S := fun wq => Kp (fun x => x = h.vr) w6 wq) mixedP ?_
                intro w7 hk7
                have hvm_w7 := hvm_w6.keep hk7
                have hdd_w7 := hdd_w6.keep hk7
                have hch_w7 := hch_w6.keep hk7
                have hkT_w7 := hkT_w6.comp hk7 (fun _ _ e => e.elim)
                have hb1_w7 := hb1_w6.keep hk7
                have hb_w7 := hb6.keep hk7
                have hs7 := hk7.size
                have hS7 : Kp (fun x => x = h.vr) w6 w7 := hk7.of_none
                refine wh_take (i := 0) (v := .pointer (some ⟨s, 0, none⟩)) rfl (by kernel_rfl) (by kernel_rfl) (by kernel_rfl) hS7 rfl (fun wq hq => rf_move rfl) rfl ?_
                refine wh_take (i := 1) (v := .pointer (some ⟨s, 0, none⟩)) rfl (by kernel_rfl) (by kernel_rfl) (by kernel_rfl) hS7 rfl (fun wq hq => rf_nilCheckP rfl rfl) rfl ?_
                refine wh_take (i := 2) (v := .pointer (some ⟨s, 3, none⟩)) rfl (by kernel_rfl) (by kernel_rfl) (by kernel_rfl) hS7 rfl (fun wq hq => rf_fieldAddr Tryz.underlying61 rfl ti59 rfl rfl) rfl ?_
                refine wh_take (i := 3) (v := .map (some h.vr)) rfl (by kernel_rfl) (by kernel_rfl) (by kernel_rfl) hS7 rfl (fun wq hq => rf_load Tryz.underlying59 rfl rfl rfl ((hb6.kp hq (by omega)).cell rfl)) rfl ?_
                refine wh_take (i := 4) (v := .pointer (some ⟨s, 0, none⟩)) rfl (by kernel_rfl) (by kernel_rfl) (by kernel_rfl) hS7 rfl (fun wq hq => rf_move rfl) rfl ?_
                refine wh_take (i := 5) (v := .pointer (some ⟨s, 0, none⟩)) rfl (by kernel_rfl) (by kernel_rfl) (by kernel_rfl) hS7 rfl (fun wq hq => rf_nilCheckP rfl rfl) rfl ?_
                refine wh_take (i := 6) (v := .pointer (some ⟨s, 2, none⟩)) rfl (by kernel_rfl) (by kernel_rfl) (by kernel_rfl) hS7 rfl (fun wq hq => rf_fieldAddr Tryz.underlying61 rfl ti3 rfl rfl) rfl ?_
                refine wh_take (i := 7) (v := .int .i64 (st.last + ((1 : Nat) : Int))) rfl (by kernel_rfl) (by kernel_rfl) (by kernel_rfl) hS7 rfl (fun wq hq => rf_load Tryz.underlying3 rfl rfl rfl ((hb6.kp hq (by omega)).cell rfl)) rfl ?_
                refine wh_take (i := 8) (v := .int .i64 b) rfl (by kernel_rfl) (by kernel_rfl) (by kernel_rfl) hS7 rfl (fun wq hq => rf_move rfl) rfl ?_
                refine wh_take (i := 9) (v := .int .i64 i) rfl (by kernel_rfl) (by kernel_rfl) (by kernel_rfl) hS7 rfl (fun wq hq => rf_move rfl) rfl ?_
                refine wh_take (i := 10) (v := .agg #[.int .i64 b, .int .i64 i]) rfl (by kernel_rfl) (by kernel_rfl) (by kernel_rfl) hS7 rfl (fun wq hq => rf_build (offs := [(0, [.int .i64 b]), (1, [.int .i64 i])]) (places := #[(0, 1), (1, 1)]) Tryz.underlying102 ti102 (fun w => by kernel_rfl) (.cons rfl rfl rfl rfl rfl rfl (.cons rfl rfl rfl rfl rfl rfl .nil))) rfl ?_
                refine wh_take (i := 11) (v := .agg #[.int .i64 k.table, .int .i64 k.row]) rfl (by kernel_rfl) (by kernel_rfl) (by kernel_rfl) hS7 rfl (fun wq hq => rf_loadBlk Tryz.underlying41 rfl ti41 rfl rfl (hb1_w6.kp hq (by omega)) (Nat.le_of_ble_eq_true rfl)) rfl ?_
                refine wh_take (i := 12) (v := .agg #[.int .i64 b, .int .i64 i, .int .i64 k.table, .int .i64 k.row, .bool false, .bool false, .int .i64 ((0 : Nat) : Int)]) rfl (by kernel_rfl) (by kernel_rfl) (by kernel_rfl) hS7 rfl (fun wq hq => rf_build (offs := [(0, [.int .i64 b, .int .i64 i]), (2, [.int .i64 k.table, .int .i64 k.row])]) (places := #[(0, 2), (2, 2), (4, 1), (5, 2)]) Tryz.underlying104 ti104 (fun w => by kernel_rfl) (.cons rfl rfl rfl rfl rfl rfl (.cons rfl rfl rfl rfl rfl rfl .nil))) rfl ?_
                refine wh_one (i := 13) (by kernel_rfl) rfl ?_
                refine wl_box (v := .agg #[.int .i64 b, .int .i64 i, .int .i64 k.table, .int .i64 k.row, .bool false, .bool false, .int .i64 ((0 : Nat) : Int)]) rfl rfl ?_
                intro b8 w8 hg8 hk8 hb8
                have ne8_hvr : h.vr ≠ b8 := Nat.ne_of_lt (Nat.lt_of_lt_of_le hvm_w7.lt hg8)
                have ne8_b1 : b1 ≠ b8 := Nat.ne_of_lt (Nat.lt_of_lt_of_le hb1_w7.lt hg8)
                have ne8_s : s ≠ b8 := Nat.ne_of_lt (Nat.lt_of_lt_of_le hb_w7.lt hg8)
                have hvm_w8 := hvm_w7.keep hk8
                have hdd_w8 := hdd_w7.keep hk8
                have hch_w8 := hch_w7.keep hk8
                have hkT_w8 := hkT_w7.comp hk8 (fun _ _ e => e.elim)
                have hb1_w8 := hb1_w7.keep hk8
                have hb_w8 := hb_w7.keep hk8
                have hS_w8 := hS7.comp hk8 (fun _ _ e => e.elim)
                have hs8 := hk8.size
                refine wl_nil ?_
                refine wh_back hS_w8 ?_
                refine wh_one (i := 14) (by kernel_rfl) rfl ?_
                refine wl_mapUpdate (a := st.last + ((1 : Nat) : Int)) (u := b8) klI3 Tryz.underlying59 rfl rfl rfl rfl rfl rfl hvm_w8 ?_
                intro w9 hk9 hm9
                have hdd_w9 := hdd_w8.kp hk9 (fun x hx e => hs.vr_fp (e ▸ hx))
                have hch_w9 := hch_w8.kp hk9 (fun x hx e => hneV.1 (e ▸ hx))
                have hkT_w9 := hkT_w8.comp hk9 (fun x _ e => .inr (.inl e))
                have hb1_w9 := hb1_w8.kp hk9 (Ne.symm ne1_hvr)
                have hb_w9 := hb_w8.kp hk9 (by omega)
                have hS_w9 := hS_w8.comp hk9 (fun b h e => by first | exact e | omega)
                have hb8_w9 := hb8.kp hk9 (Ne.symm ne8_hvr)
                have hs9 := hk9.size
                refine wl_nil ?_
                refine wh_back hS_w9 ?_
                refine wh_done (by kernel_rfl) ?_
                refine thn ?_
                refine seq_ ?_
                refine region_h (S := fun wq => Kp (fun x => h.own x = some k ∨ x = h.bd ∨ x ∈ h.rs) w9 wq) mixedP ?_
                intro w10 hk10
                have hdd_w10 := hdd_w9.keep hk10
                have hch_w10 := hch_w9.keep hk10
                have hkT_w10 := hkT_w9.comp hk10 (fun _ _ e => e.elim)
                have hb1_w10 := hb1_w9.keep hk10
                have hb_w10 := hb_w9.keep hk10
                have hb8_w10 := hb8_w9.keep hk10
                have hvm_w10 := hm9.keep hk10
                have hs10 := hk10.size
                have hS10 : Kp (fun x => h.own x = some k ∨ x = h.bd ∨ x ∈ h.rs) w9 w10 := hk10.of_none
                refine wh_take (i := 0) (v := .pointer (some ⟨s, 0, none⟩)) rfl (by kernel_rfl) (by kernel_rfl) (by kernel_rfl) hS10 rfl (fun wq hq => rf_move rfl) rfl ?_
                refine wh_take (i := 1) (v := .pointer (some ⟨s, 0, none⟩)) rfl (by kernel_rfl) (by kernel_rfl) (by kernel_rfl) hS10 rfl (fun wq hq => rf_nilCheckP rfl rfl) rfl ?_
                refine wh_take (i := 2) (v := .pointer (some ⟨s, 4, none⟩)) rfl (by kernel_rfl) (by kernel_rfl) (by kernel_rfl) hS10 rfl (fun wq hq => rf_fieldAddr Tryz.underlying61 rfl ti54 rfl rfl) rfl ?_
                refine wh_take (i := 3) (v := .pointer (some ⟨h.bd, 0, none⟩)) rfl (by kernel_rfl) (by kernel_rfl) (by kernel_rfl) hS10 rfl (fun wq hq => rf_load Tryz.underlying54 rfl rfl rfl ((hb_w9.kp hq hneS).cell rfl)) rfl ?_
                refine wh_take (i := 4) (v := .agg #[.int .i64 k.table, .int .i64 k.row]) rfl (by kernel_rfl) (by kernel_rfl) (by kernel_rfl) hS10 rfl (fun wq hq => rf_loadBlk Tryz.underlying41 rfl ti41 rfl rfl (hb1_w9.kp hq (fun e => e.elim (fun e => hs.new_own e (by omega)) (fun e => hs.new_put e (by omega)))) (Nat.le_of_ble_eq_true rfl)) rfl ?_
                refine wh_take (i := 5) (v := .slice ca ((st.ch k).length) cc) rfl (by kernel_rfl) (by kernel_rfl) (by kernel_rfl) hS10 rfl (fun wq hq => rf_move rfl) rfl ?_
                refine wh_take (i := 6) (v := .pointer (some ⟨s, 0, none⟩)) rfl (by kernel_rfl) (by kernel_rfl) (by kernel_rfl) hS10 rfl (fun wq hq => rf_move rfl) rfl ?_
                refine wh_take (i := 7) (v := .pointer (some ⟨s, 0, none⟩)) rfl (by kernel_rfl) (by kernel_rfl) (by kernel_rfl) hS10 rfl (fun wq hq => rf_nilCheckP rfl rfl) rfl ?_
                refine wh_take (i := 8) (v := .pointer (some ⟨s, 2, none⟩)) rfl (by kernel_rfl) (by kernel_rfl) (by kernel_rfl) hS10 rfl (fun wq hq => rf_fieldAddr Tryz.underlying61 rfl ti3 rfl rfl) rfl ?_
                refine wh_take (i := 9) (v := .int .i64 (st.last + ((1 : Nat) : Int))) rfl (by kernel_rfl) (by kernel_rfl) (by kernel_rfl) hS10 rfl (fun wq hq => rf_load Tryz.underlying3 rfl rfl rfl ((hb_w9.kp hq hneS).cell rfl)) rfl ?_
                refine wh_one (i := 10) (by kernel_rfl) rfl ?_
                refine wl_buildSlice (css := [[.int .i64 (st.last + ((1 : Nat) : Int))]]) Tryz.underlying57 ti3 rfl rfl rfl (.cons rfl rfl rfl rfl rfl rfl .nil) (by simp) ?_
                intro b11 w11 hg11 hk11 hb11
                have ne11_b1 : b1 ≠ b11 := Nat.ne_of_lt (Nat.lt_of_lt_of_le hb1_w10.lt hg11)
                have ne11_s : s ≠ b11 := Nat.ne_of_lt (Nat.lt_of_lt_of_le hb_w10.lt hg11)
                have ne11_b8 : b8 ≠ b11 := Nat.ne_of_lt (Nat.lt_of_lt_of_le hb8_w10.lt hg11)
                have ne11_hvr : h.vr ≠ b11 := Nat.ne_of_lt (Nat.lt_of_lt_of_le hvm_w10.lt hg11)
                have hdd_w11 := hdd_w10.keep hk11
                have hch_w11 := hch_w10.keep hk11
                have hkT_w11 := hkT_w10.comp hk11 (fun _ _ e => e.elim)
                have hb1_w11 := hb1_w10.keep hk11
                have hb_w11 := hb_w10.keep hk11
                have hb8_w11 := hb8_w10.keep hk11
                have hvm_w11 := hvm_w10.keep hk11
                have hS_w11 := hS10.comp hk11 (fun _ _ e => e.elim)
                have hs11 := hk11.size
                refine wl_nil ?_
                refine wh_back hS_w11 ?_
                refine wh_one (i := 11) (by kernel_rfl) rfl ?_
                refine wl_append encI_len encI_one Tryz.underlying57 ti3 rfl rfl rfl rfl rfl (hch_w11) ((SlAt.of_blk (l := [st.last + 1]) encI_len (by simp) hb11).rd (F := fun b => b = b11) rfl) (by simp; omega) (by simp; omega) ?_
                intro v12 w12 hk12 ha12
                have hdd_w12 := hdd_w11.kp hk12 (fun x hx e => (hs.disj x (by rw [e]; simp)).2.2.1 hx)
                have hkT_w12 := hkT_w11.comp hk12 (fun x _ e => .inr (.inr (.inl e)))
                have hb1_w12 := hb1_w11.kp hk12 (fun e => hs.new_own e (by omega))
                have hb_w12 := hb_w11.kp hk12 (fun e => hneS (.inl e))
                have hb8_w12 := hb8_w11.kp hk12 (fun e => hs.new_own e (by omega))
                have hvm_w12 := hvm_w11.kp hk12 hneV.1
                have hS_w12 := hS_w11.comp hk12 (fun x _ e => .inl e)
                have hs12 := hk12.size
                obtain ⟨na, nc, en, hnc⟩ := ha12.form
                rw [List.length_append, List.length_singleton] at en hnc
                subst en
                replace ha12 := ha12.tight
                refine wl_nil ?_
                refine wh_back hS_w12 ?_
                refine wh_one (i := 12) (by kernel_rfl) rfl ?_
                refine wl_ret rfl (putC_ret ⟨na, (st.ch k).length + 1, nc⟩ k h.bd h.bp h.rs h.ls h.came h.n w12 hdd_w12) (rf_call Tryz.call46 rfl rfl) ?_
                rintro vq w13 ⟨_, hdn, hk13⟩
                have hkT_w13 := hkT_w12.comp hk13 (fun x _ e => .inr (.inr (.inr e)))
                have hb1_w13 := hb1_w12.kp hk13 (fun e => hs.new_put e (by omega))
                have hb_w13 := hb_w12.kp hk13 (fun e => hneS (.inr e))
                have hb8_w13 := hb8_w12.kp hk13 (fun e => hs.new_put e (by omega))
                have hvm_w13 := hvm_w12.kp hk13 hneV.2
                have hS_w13 := hS_w12.comp hk13 (fun x _ e => .inr e)
                have hcn_w13 := ha12.kp hk13 (fun x hx e => hx.1.elim (fun q => (hs.disj x (by rw [q]; simp)).2.2.1 (e.elim .inl (fun q => .inr (.inr q)))) (fun q => hs.new_put e (by omega)))
                have hs13 := hk13.size
                refine wl_nil ?_
                refine wh_back hS_w13 ?_
                refine wh_done (by kernel_rfl) ?_
                refine thn ?_
                refine seq_ ?_
                refine region_ ?_
                refine wl_valE (v := .pointer (some ⟨s, 0, none⟩)) rfl (rf_move rfl) rfl ?_
                refine wl_valE (v := .pointer (some ⟨s, 0, none⟩)) rfl (rf_nilCheckP rfl rfl) rfl ?_
                refine wl_valE (v := .pointer (some ⟨s, 2, none⟩)) rfl (rf_fieldAddr Tryz.underlying61 rfl ti3 rfl rfl) rfl ?_
                refine wl_valE (v := .int .i64 (st.last + ((1 : Nat) : Int))) rfl (rf_load Tryz.underlying3 rfl rfl rfl (hb_w13.cell rfl)) rfl ?_
                refine wl_valE (v := .int .i64 (st.last + ((1 : Nat) : Int))) rfl (rf_assign rfl) rfl ?_
                refine wl_valE (v := .int .i64 ((0 : Nat) : Int)) rfl (rf_assign rfl) rfl ?_
                refine wl_nil ?_
                refine thn ?_
                refine ret_ ?_
                refine fin2 (v1 := .int .i64 (st.last + ((1 : Nat) : Int))) (v2 := .int .i64 ((0 : Nat) : Int)) Tryz.results12 rfl rfl rfl rfl ?_
                exact ins_done hs (by unfold insErr; rw [if_neg (by simp [hgood]), if_neg (by omega), if_neg (by omega), if_neg (by omega), if_neg (by rw [hns]; simp)]) hb_w13 hvm_w13 hb8_w13 (by omega) (by have := hb8.lt; omega) (by omega) (by omega) hdn hcn_w13 hkT_w13 (by omega) (by have hq := hs.came.1.put (by have := hs.dict.len; have := hs.dict.pos; omega) (by have := hs.came.2; omega) k ⟨na, (st.ch k).length + 1, nc⟩; exact ⟨hq.1, by have := hq.2.1; have := hs.came.2; omega⟩)
theorem removeN_ret (s : Nat) (st : StS) (h : StH) (w : World) (hs : StoreR w s st h) (x : Int) (hv : st.ver x = none) : Ret Tryz.prog 16 [.pointer (some ⟨s, 0, none⟩), .int .i64 x] w fun v w' => v = .int .i64 93 ∧ Kp none_ w w' := by
  have hkw : Kp none_ w w := Kp.refl w
  have hb := hs.blk
  have hvm := hs.vers
  have hdd := hs.dict
  have hgn := hs.getN hv
  refine enterR Tryz.func16 rfl Tryz.ntmps16 rfl ?_
  intro g0
  refine seq_ ?_
  refine region_ ?_
  refine wl_box (v := .int .i64 x) rfl rfl ?_
  intro b1 w1 hg1 hk1 hb1
  have ne1_s : s ≠ b1 := Nat.ne_of_lt (Nat.lt_of_lt_of_le hb.lt hg1)
  have ne1_hvr : h.vr ≠ b1 := Nat.ne_of_lt (Nat.lt_of_lt_of_le hvm.lt hg1)
  have hb_w1 := hb.keep hk1
  have hvm_w1 := hvm.keep hk1
  have hdd_w1 := hdd.keep hk1
  have hkw_w1 := hkw.comp hk1 (fun _ _ e => e.elim)
  have hs1 := hk1.size
  refine wl_valE (v := .int .i64 ((0 : Nat) : Int)) rfl (rf_assign rfl) rfl ?_
  refine wl_nil ?_
  refine thn ?_
  refine seq_ ?_
  refine region_q mixedP (by kernel_rfl) ?_
  refine qt_valE (v := .pointer (some ⟨s, 0, none⟩)) rfl (fun wq hq => rf_move rfl) rfl ?_
  refine qt_valE (v := .pointer (some ⟨s, 0, none⟩)) rfl (fun wq hq => rf_nilCheckP rfl rfl) rfl ?_
  refine qt_valE (v := .pointer (some ⟨s, 3, none⟩)) rfl (fun wq hq => rf_fieldAddr Tryz.underlying61 rfl ti59 rfl rfl) rfl ?_
  refine qt_valE (v := .map (some h.vr)) rfl (fun wq hq => rf_load Tryz.underlying59 rfl rfl rfl ((hb_w1.keep hq).cell rfl)) rfl ?_
  refine qt_valE (v := .int .i64 x) rfl (fun wq hq => rf_load Tryz.underlying3 rfl rfl rfl ((hb1.keep hq).cell rfl)) rfl ?_
  refine qt_valE (v := .tuple #[.pointer none, .bool false]) rfl (fun wq hq => rf_lookup2 (a := x) klI3 Tryz.underlying59 ti100 rfl rfl rfl rfl (hvm_w1.keep hq)) (by rw [hgn]; rfl) ?_
  refine qt_valE (v := .tuple #[.pointer none, .bool false]) rfl (fun wq hq => rf_move rfl) rfl ?_
  refine qt_valE (v := .pointer none) rfl (fun wq hq => rf_extract rfl rfl rfl) rfl ?_
  refine qt_valE (v := .bool false) rfl (fun wq hq => rf_extract rfl rfl rfl) rfl ?_
  refine qt_valE (v := .pointer none) rfl (fun wq hq => rf_assign rfl) rfl ?_
  refine qt_valE (v := .bool false) rfl (fun wq hq => rf_assign rfl) rfl ?_
  refine qt_nil ?_
  intro w2 hk2
  have hb_w2 := hb_w1.keep hk2
  have hvm_w2 := hvm_w1.keep hk2
  have hdd_w2 := hdd_w1.keep hk2
  have hkw_w2 := hkw_w1.comp hk2 (fun _ _ e => e.elim)
  have hb1_w2 := hb1.keep hk2
  have hs2 := hk2.size
  refine thn ?_
  refine seq_ ?_
  refine seq_ ?_
  refine region_ ?_
  refine wl_valE (v := .bool false) rfl (rf_move rfl) rfl ?_
  refine wl_valE (v := .bool true) rfl (rf_not rfl rfl) rfl ?_
  refine wl_nil ?_
  refine thn ?_
  refine condT rfl rfl ?_
  refine seq_ ?_
  refine region_ ?_
  refine wl_valE (v := .int .i64 ((93 : Nat) : Int)) rfl (rf_assign rfl) rfl ?_
  refine wl_nil ?_
  refine thn ?_
  refine ret_ ?_
  refine thr ?_
  refine fin1 (v := .int .i64 ((93 : Nat) : Int)) Tryz.results16 rfl rfl ?_
  exact ⟨rfl, hkw_w2⟩
theorem remove_ret (s : Nat) (st : StS) (h : StH) (w : World) (hs : StoreR w s st h) (x : Int) (r : VerR) (hv : st.ver x = some r) (hl : st.last ≤ 17592186044415) : Ret Tryz.prog 16 [.pointer (some ⟨s, 0, none⟩), .int .i64 x] w fun v w' => v = .int .i64 0 ∧ ∃ h', StoreR w' s (remSt st x r) h' ∧ (∀ y, fpS s h' y → fpS s h y ∨ w.heap.size ≤ y) ∧ Kp (fpS s h) w w' := by
  have hkw : Kp none_ w w := Kp.refl w
  have hb := hs.blk
  have hvm := hs.vers
  have hdd := hs.dict
  obtain ⟨vb, hgv, hvb, hvbm⟩ := hs.get hv
  have hvbT := hs.rec_ne r.key hvbm hvb
  obtain ⟨⟨ca, cn, cc⟩, hsv⟩ : ∃ sv : Sv, sv = chainV h.ls r.key := ⟨_, rfl⟩
  have hch := hs.chain r.key
  rw [← hsv] at hch
  have hchlen := hs.inv.len r.key
  obtain ⟨_, _, e, hcc⟩ := hch.form
  simp only [slv] at e
  cases e
  have hneS := hs.s_ne r.key
  have hneV := hs.vr_ne r.key
  have hsv_ne := hvm.ne_cells hb
  have hl0 := hs.inv.last0
  obtain ⟨j, hj, hjno⟩ := hs.inv.at hv
  have hjl := (List.getElem?_eq_some_iff.1 hj).1
  have hkT : Kp (fun y => y = h.vr ∨ y = h.bd ∨ y ∈ h.rs) w w := Kp.refl w
  refine enterR Tryz.func16 rfl Tryz.ntmps16 rfl ?_
  intro g0
  refine seq_ ?_
  refine region_ ?_
  refine wl_box (v := .int .i64 x) rfl rfl ?_
  intro b1 w1 hg1 hk1 hb1
  have ne1_s : s ≠ b1 := Nat.ne_of_lt (Nat.lt_of_lt_of_le hb.lt hg1)
  have ne1_hvr : h.vr ≠ b1 := Nat.ne_of_lt (Nat.lt_of_lt_of_le hvm.lt hg1)
  have ne1_vb : vb ≠ b1 := Nat.ne_of_lt (Nat.lt_of_lt_of_le hvb.lt hg1)
  have hb_w1 := hb.keep hk1
  have hvm_w1 := hvm.keep hk1
  have hdd_w1 := hdd.keep hk1
  have hkw_w1 := hkw.comp hk1 (fun _ _ e => e.elim)
  have hch_w1 := hch.keep hk1
  have hkT_w1 := hkT.comp hk1 (fun _ _ e => e.elim)
  have hvb_w1 := hvb.keep hk1
  have hs1 := hk1.size
  refine wl_valE (v := .int .i64 ((0 : Nat) : Int)) rfl (rf_assign rfl) rfl ?_
  refine wl_nil ?_
  refine thn ?_
  refine seq_ ?_
  refine region_q mixedP (by kernel_rfl) ?_
  refine qt_valE (v := .pointer (some ⟨s, 0, none⟩)) rfl (fun wq hq => rf_move rfl) rfl ?_
  refine qt_valE (v := .pointer (some ⟨s, 0, none⟩)) rfl (fun wq hq => rf_nilCheckP rfl rfl) rfl ?_
  refine qt_valE (v := .pointer (some ⟨s, 3, none⟩)) rfl (fun wq hq => rf_fieldAddr Tryz.underlying61 rfl ti59 rfl rfl) rfl ?_
  refine qt_valE (v := .map (some h.vr)) rfl (fun wq hq => rf_load Tryz.underlying59 rfl rfl rfl ((hb_w1.keep hq).cell rfl)) rfl ?_
  refine qt_valE (v := .int .i64 x) rfl (fun wq hq => rf_load Tryz.underlying3 rfl rfl rfl ((hb1.keep hq).cell rfl)) rfl ?_
  refine qt_valE (v := .tuple #[.pointer (some ⟨vb, 0, none⟩), .bool true]) rfl (fun wq hq => rf_lookup2 (a := x) klI3 Tryz.underlying59 ti100 rfl rfl rfl rfl (hvm_w1.keep hq)) (by rw [hgv]; rfl) ?_
  refine qt_valE (v := .tuple #[.pointer (some ⟨vb, 0, none⟩), .bool true]) rfl (fun wq hq => rf_move rfl) rfl ?_
  refine qt_valE (v := .pointer (some ⟨vb, 0, none⟩)) rfl (fun wq hq => rf_extract rfl rfl rfl) rfl ?_
  refine qt_valE (v := .bool true) rfl (fun wq hq => rf_extract rfl rfl rfl) rfl ?_
  refine qt_valE (v := .pointer (some ⟨vb, 0, none⟩)) rfl (fun wq hq => rf_assign rfl) rfl ?_
  refine qt_valE (v := .bool true) rfl (fun wq hq => rf_assign rfl) rfl ?_
  refine qt_nil ?_
  intro w2 hk2
  have hb_w2 := hb_w1.keep hk2
  have hvm_w2 := hvm_w1.keep hk2
  have hdd_w2 := hdd_w1.keep hk2
  have hkw_w2 := hkw_w1.comp hk2 (fun _ _ e => e.elim)
  have hch_w2 := hch_w1.keep hk2
  have hkT_w2 := hkT_w1.comp hk2 (fun _ _ e => e.elim)
  have hvb_w2 := hvb_w1.keep hk2
  have hb1_w2 := hb1.keep hk2
  have hs2 := hk2.size
  refine thn ?_
  refine seq_ ?_
  refine seq_ ?_
  refine region_ ?_
  refine wl_valE (v := .bool true) rfl (rf_move rfl) rfl ?_
  refine wl_valE (v := .bool false) rfl (rf_not rfl rfl) rfl ?_
  refine wl_nil ?_
  refine thn ?_
  refine condF rfl rfl ?_
  refine skip_ ?_
  refine thn ?_
  refine seq_ ?_
  refine region_q mixedP (by kernel_rfl) ?_
  refine qt_valE (v := .pointer (some ⟨s, 0, none⟩)) rfl (fun wq hq => rf_move rfl) rfl ?_
  refine qt_valE (v := .pointer (some ⟨s, 0, none⟩)) rfl (fun wq hq => rf_nilCheckP rfl rfl) rfl ?_
  refine qt_valE (v := .pointer (some ⟨s, 4, none⟩)) rfl (fun wq hq => rf_fieldAddr Tryz.underlying61 rfl ti54 rfl rfl) rfl ?_
  refine qt_valE (v := .pointer (some ⟨h.bd, 0, none⟩)) rfl (fun wq hq => rf_load Tryz.underlying54 rfl rfl rfl ((hb_w2.keep hq).cell rfl)) rfl ?_
  refine qt_valE (v := .pointer (some ⟨vb, 0, none⟩)) rfl (fun wq hq => rf_move rfl) rfl ?_
  refine qt_valE (v := .pointer (some ⟨vb, 0, none⟩)) rfl (fun wq hq => rf_nilCheckP rfl rfl) rfl ?_
  refine qt_valE (v := .pointer (some ⟨vb, 2, none⟩)) rfl (fun wq hq => rf_fieldAddr Tryz.underlying104 rfl ti41 rfl rfl) rfl ?_
  refine qt_valE (v := .agg #[.int .i64 r.key.table, .int .i64 r.key.row]) rfl (fun wq hq => rf_loadBlk Tryz.underlying41 rfl ti41 rfl rfl (hvb_w2.keep hq) (Nat.le_of_ble_eq_true rfl)) rfl ?_
  refine qt_ret (v := .tuple #[.slice ca ((st.ch r.key).length) cc, .bool ((dgetC h.ls r.key).isSome)]) rfl (fun wq hq => (getC_ret r.key h.bd h.bp h.rs h.ls h.came h.n wq (hdd_w2.keep hq)).mono (fun _ _ h => ⟨by rw [h.1]; exact congrArg (fun q : Sv => Value.tuple #[.slice q.a q.n q.c, .bool _]) hsv.symm, hq.trans h.2⟩)) (fun wq hq => rf_call Tryz.call45 rfl rfl) ?_
  refine qt_valE (v := .tuple #[.slice ca ((st.ch r.key).length) cc, .bool ((dgetC h.ls r.key).isSome)]) rfl (fun wq hq => rf_move rfl) rfl ?_
  refine qt_valE (v := .slice ca ((st.ch r.key).length) cc) rfl (fun wq hq => rf_extract rfl rfl rfl) rfl ?_
  refine qt_valE (v := .bool ((dgetC h.ls r.key).isSome)) rfl (fun wq hq => rf_extract rfl rfl rfl) rfl ?_
  refine qt_valE (v := .slice ca ((st.ch r.key).length) cc) rfl (fun wq hq => rf_assign rfl) rfl ?_
  refine qt_valE (v := .bool ((dgetC h.ls r.key).isSome)) rfl (fun wq hq => rf_assign rfl) rfl ?_
  refine qt_nil ?_
  intro w3 hk3
  have hb_w3 := hb_w2.keep hk3
  have hvm_w3 := hvm_w2.keep hk3
  have hdd_w3 := hdd_w2.keep hk3
  have hkw_w3 := hkw_w2.comp hk3 (fun _ _ e => e.elim)
  have hch_w3 := hch_w2.keep hk3
  have hkT_w3 := hkT_w2.comp hk3 (fun _ _ e => e.elim)
  have hvb_w3 := hvb_w2.keep hk3
  have hb1_w3 := hb1_w2.keep hk3
  have hs3 := hk3.size
  refine thn ?_
  refine seq_ ?_
  refine region_ ?_
  refine wl_valE (v := .slice ca ((st.ch r.key).length) cc) rfl (rf_move rfl) rfl ?_
  refine wl_ret rfl (clone_ret _ _ (st.ch r.key) w3 hch_w3.rd (by omega) (by omega)) (rf_call Tryz.call52 rfl rfl) ?_
  rintro vq w4 ⟨⟨cb, co, cap2, rfl, hcl, hcb⟩, hk4⟩
  have hq1 := hb_w3.lt
  have hq2 := hvm_w3.lt
  have hq3 := hvb_w3.lt
  have hq4 := hb1_w3.lt
  have hb_w4 := hb_w3.keep hk4
  have hvm_w4 := hvm_w3.keep hk4
  have hdd_w4 := hdd_w3.keep hk4
  have hkw_w4 := hkw_w3.comp hk4 (fun _ _ e => e.elim)
  have hch_w4 := hch_w3.keep hk4
  have hkT_w4 := hkT_w3.comp hk4 (fun _ _ e => e.elim)
  have hvb_w4 := hvb_w3.keep hk4
  have hb1_w4 := hb1_w3.keep hk4
  have hs4 := hk4.size
  refine wl_valE (v := .func (.func 53) #[] #[.pointer (some ⟨b1, 0, none⟩)]) rfl (rf_makeFunc (vfs := []) (vcs := [.pointer (some ⟨b1, 0, none⟩)]) rfl rfl rfl rfl) rfl ?_
  refine wl_ret rfl (delete_ret x b1 j cb co cap2 (st.ch r.key) w4 hcl (by omega) hb1_w4 (by omega) hj hjno) (rf_call Tryz.call51 rfl rfl) ?_
  rintro vq w5 ⟨rfl, hcl2, hk5⟩
  have hb_w5 := hb_w4.kp hk5 (by omega)
  have hvm_w5 := hvm_w4.kp hk5 (by omega)
  have hdd_w5 := hdd_w4.kp hk5 (fun x hx e => by have := hs.dict.lt x hx; omega)
  have hkw_w5 := hkw_w4.comp hk5 (fun b h e => by omega)
  have hch_w5 := hch_w4.kp hk5 (fun x hx e => by have := hs.ownlt x (by rw [hx]; simp); omega)
  have hkT_w5 := hkT_w4.comp hk5 (fun x hx e => by omega)
  have hvb_w5 := hvb_w4.kp hk5 (by omega)
  have hb1_w5 := hb1_w4.kp hk5 (by omega)
  have hs5 := hk5.size
  refine wl_valE (v := .slice (some ⟨cb, co, none⟩) ((st.ch r.key).length - 1) cap2) rfl (rf_assign rfl) rfl ?_
  refine wl_nil ?_
  refine thn ?_
  refine seq_ ?_
  refine seq_ ?_
  refine region_ ?_
  refine wl_valE (v := .slice (some ⟨cb, co, none⟩) ((st.ch r.key).length - 1) cap2) rfl (rf_move rfl) rfl ?_
  refine wl_valE (v := .int .i64 ((((st.ch r.key).length - 1) : Nat) : Int)) rfl (rf_len_slice Tryz.underlying57 rfl rfl) rfl ?_
  refine wl_valE (v := .bool (decide (((((st.ch r.key).length - 1) : Nat) : Int) = ((0 : Nat) : Int)))) rfl (rf_eql rfl rfl rfl rfl) rfl ?_
  refine wl_nil ?_
  refine thn ?_
  refine cond_ (t := decide (((((st.ch r.key).length - 1) : Nat) : Int) = ((0 : Nat) : Int))) rfl rfl (fun c39 => ?_) (fun c39 => ?_)
  · have c39p := of_decide_eq_true c39
    refine region_h (S := fun wq => Kp (fun y => y = h.bd ∨ y ∈ h.rs) w5 wq) mixedP ?_
    intro w6 hk6
    have hb_w6 := hb_w5.keep hk6
    have hvm_w6 := hvm_w5.keep hk6
    have hdd_w6 := hdd_w5.keep hk6
    have hkw_w6 := hkw_w5.comp hk6 (fun _ _ e => e.elim)
    have hch_w6 := hch_w5.keep hk6
    have hkT_w6 := hkT_w5.comp hk6 (fun _ _ e => e.elim)
    have hvb_w6 := hvb_w5.keep hk6
    have hb1_w6 := hb1_w5.keep hk6
    have hcl2_w6 := hcl2.keep hk6
    have hs6 := hk6.size
    have hS6 : Kp (fun y => y = h.bd ∨ y ∈ h.rs) w5 w6 := hk6.of_none
    refine wh_take (i := 0) (v := .pointer (some ⟨s, 0, none⟩)) rfl (by kernel_rfl) (by kernel_rfl) (by kernel_rfl) hS6 rfl (fun wq hq => rf_move rfl) rfl ?_
    refine wh_take (i := 1) (v := .pointer (some ⟨s, 0, none⟩)) rfl (by kernel_rfl) (by kernel_rfl) (by kernel_rfl) hS6 rfl (fun wq hq => rf_nilCheckP rfl rfl) rfl ?_
    refine wh_take (i := 2) (v := .pointer (some ⟨s, 4, none⟩)) rfl (by kernel_rfl) (by kernel_rfl) (by kernel_rfl) hS6 rfl (fun wq hq => rf_fieldAddr Tryz.underlying61 rfl ti54 rfl rfl) rfl ?_
    refine wh_take (i := 3) (v := .pointer (some ⟨h.bd, 0, none⟩)) rfl (by kernel_rfl) (by kernel_rfl) (by kernel_rfl) hS6 rfl (fun wq hq => rf_load Tryz.underlying54 rfl rfl rfl ((hb_w5.kp hq (fun e => hneS (.inr e))).cell rfl)) rfl ?_
    refine wh_take (i := 4) (v := .pointer (some ⟨vb, 0, none⟩)) rfl (by kernel_rfl) (by kernel_rfl) (by kernel_rfl) hS6 rfl (fun wq hq => rf_move rfl) rfl ?_
    refine wh_take (i := 5) (v := .pointer (some ⟨vb, 0, none⟩)) rfl (by kernel_rfl) (by kernel_rfl) (by kernel_rfl) hS6 rfl (fun wq hq => rf_nilCheckP rfl rfl) rfl ?_
    refine wh_take (i := 6) (v := .pointer (some ⟨vb, 2, none⟩)) rfl (by kernel_rfl) (by kernel_rfl) (by kernel_rfl) hS6 rfl (fun wq hq => rf_fieldAddr Tryz.underlying104 rfl ti41 rfl rfl) rfl ?_
    refine wh_take (i := 7) (v := .agg #[.int .i64 r.key.table, .int .i64 r.key.row]) rfl (by kernel_rfl) (by kernel_rfl) (by kernel_rfl) hS6 rfl (fun wq hq => rf_loadBlk Tryz.underlying41 rfl ti41 rfl rfl (hvb_w5.kp hq (fun e => hvbT (.inr (.inr (.inr e))))) (Nat.le_of_ble_eq_true rfl)) rfl ?_
    refine wh_one (i := 8) (by kernel_rfl) rfl ?_
    refine wl_ret rfl (takeC_ret r.key h.bd h.bp h.rs h.ls h.came h.n w6 hdd_w6) (rf_call Tryz.call54 rfl rfl) ?_
    rintro vq w7 ⟨_, hdn, hk7⟩
    have hb_w7 := hb_w6.kp hk7 (fun e => hneS (.inr e))
    have hvm_w7 := hvm_w6.kp hk7 hneV.2
    have hkT_w7 := hkT_w6.comp hk7 (fun x _ e => .inr e)
    have hvb_w7 := hvb_w6.kp hk7 (fun e => hvbT (e.elim (fun q => .inr (.inr (.inr (.inl q)))) (fun q => .inr (.inr (.inr (.inr q))))))
    have hb1_w7 := hb1_w6.kp hk7 (fun e => hs.new_put e (by omega))
    have hcl2_w7 := hcl2_w6.kp hk7 (fun e => hs.new_put e (by omega))
    have hS_w7 := hS6.comp hk7 (fun x _ e => e)
    have hs7 := hk7.size
    refine wl_nil ?_
    refine wh_back hS_w7 ?_
    refine wh_done (by kernel_rfl) ?_
    refine thn ?_
    refine seq_ ?_
    refine region_h (S := fun wq => Kp (fun y => y = h.vr) w7 wq) mixedP ?_
    intro w8 hk8
    have hb_w8 := hb_w7.keep hk8
    have hvm_w8 := hvm_w7.keep hk8
    have hkT_w8 := hkT_w7.comp hk8 (fun _ _ e => e.elim)
    have hvb_w8 := hvb_w7.keep hk8
    have hb1_w8 := hb1_w7.keep hk8
    have hcl2_w8 := hcl2_w7.keep hk8
    have hdn_w8 := hdn.keep hk8
    have hs8 := hk8.size
    have hS8 : Kp (fun y => y = h.vr) w7 w8 := hk8.of_none
    refine wh_take (i := 0) (v := .pointer (some ⟨s, 0, none⟩)) rfl (by kernel_rfl) (by kernel_rfl) (by kernel_rfl) hS8 rfl (fun wq hq => rf_move rfl) rfl ?_
    refine wh_take (i := 1) (v := .pointer (some ⟨s, 0, none⟩)) rfl (by kernel_rfl) (by kernel_rfl) (by kernel_rfl) hS8 rfl (fun wq hq => rf_nilCheckP rfl rfl) rfl ?_
    refine wh_take (i := 2) (v := .pointer (some ⟨s, 3, none⟩)) rfl (by kernel_rfl) (by kernel_rfl) (by kernel_rfl) hS8 rfl (fun wq hq => rf_fieldAddr Tryz.underlying61 rfl ti59 rfl rfl) rfl ?_
    refine wh_take (i := 3) (v := .map (some h.vr)) rfl (by kernel_rfl) (by kernel_rfl) (by kernel_rfl) hS8 rfl (fun wq hq => rf_load Tryz.underlying59 rfl rfl rfl ((hb_w7.kp hq (by omega)).cell rfl)) rfl ?_
    refine wh_take (i := 4) (v := .int .i64 x) rfl (by kernel_rfl) (by kernel_rfl) (by kernel_rfl) hS8 rfl (fun wq hq => rf_load Tryz.underlying3 rfl rfl rfl ((hb1_w7.kp hq (by omega)).cell rfl)) rfl ?_
    refine wh_one (i := 5) (by kernel_rfl) rfl ?_
    refine wl_delete (a := x) klI3 Tryz.underlying59 rfl rfl rfl rfl hvm_w8 ?_
    intro w9 hk9 hm9
    have hb_w9 := hb_w8.kp hk9 hsv_ne
    have hkT_w9 := hkT_w8.comp hk9 (fun x _ e => .inl e)
    have hvb_w9 := hvb_w8.kp hk9 (fun e => hvbT (.inr (.inl e)))
    have hb1_w9 := hb1_w8.kp hk9 (Ne.symm ne1_hvr)
    have hcl2_w9 := hcl2_w8.kp hk9 (by omega)
    have hdn_w9 := hdn_w8.kp hk9 (fun x hx e => hs.vr_fp (e ▸ hx))
    have hS_w9 := hS8.comp hk9 (fun b h e => by first | exact e | omega)
    have hs9 := hk9.size
    refine wl_nil ?_
    refine wh_back hS_w9 ?_
    refine wh_done (by kernel_rfl) ?_
    refine thn ?_
    refine seq_ ?_
    refine region_ ?_
    refine wl_valE (v := .int .i64 ((0 : Nat) : Int)) rfl (rf_assign rfl) rfl ?_
    refine wl_nil ?_
    refine thn ?_
    refine ret_ ?_
    refine fin1 (v := .int .i64 ((0 : Nat) : Int)) Tryz.results16 rfl rfl ?_
    have hdl : 0 < h.ls.length := by have := hs.dict.len; have := hs.dict.pos; omega
    have hfl := filter_len hj hjno
    have hnil : (st.ch r.key).filter (fun y => decide (y ≠ x)) = [] := List.eq_nil_of_length_eq_zero (by omega)
    have hdg := fun k' => dgetC_del hdl (fun l hl => (hs.dict.keys l hl).1) r.key k'
    refine ⟨rfl, rem_done (A := w.heap.size) (B := w.heap.size) hs hv hb_w9 hm9 hdn_w9 (fun k hk => by rw [hdg, if_neg hk]) ?_ ?_ (by omega) (by omega) hkT_w9 ⟨hs.came.1.del r.key, hs.came.2⟩ (hs.ptc.del r.key)⟩
    · rw [hnil, show chainV (ddelC h.ls r.key) r.key = ⟨none, 0, 0⟩ from by unfold chainV; rw [hdg, if_pos rfl]; rfl]
      exact Sl.nil _ _
    · rw [hnil, hdg, if_pos rfl]; simp
  · have c39p := of_decide_eq_false c39
    refine region_h (S := fun wq => Kp (fun y => y = h.bd ∨ y ∈ h.rs) w5 wq) mixedP ?_
    intro w10 hk10
    have hb_w10 := hb_w5.keep hk10
    have hvm_w10 := hvm_w5.keep hk10
    have hdd_w10 := hdd_w5.keep hk10
    have hkw_w10 := hkw_w5.comp hk10 (fun _ _ e => e.elim)
    have hch_w10 := hch_w5.keep hk10
    have hkT_w10 := hkT_w5.comp hk10 (fun _ _ e => e.elim)
    have hvb_w10 := hvb_w5.keep hk10
    have hb1_w10 := hb1_w5.keep hk10
    have hcl2_w10 := hcl2.keep hk10
    have hs10 := hk10.size
    have hS10 : Kp (fun y => y = h.bd ∨ y ∈ h.rs) w5 w10 := hk10.of_none
    refine wh_take (i := 0) (v := .pointer (some ⟨s, 0, none⟩)) rfl (by kernel_rfl) (by kernel_rfl) (by kernel_rfl) hS10 rfl (fun wq hq => rf_move rfl) rfl ?_
    refine wh_take (i := 1) (v := .pointer (some ⟨s, 0, none⟩)) rfl (by kernel_rfl) (by kernel_rfl) (by kernel_rfl) hS10 rfl (fun wq hq => rf_nilCheckP rfl rfl) rfl ?_
    refine wh_take (i := 2) (v := .pointer (some ⟨s, 4, none⟩)) rfl (by kernel_rfl) (by kernel_rfl) (by kernel_rfl) hS10 rfl (fun wq hq => rf_fieldAddr Tryz.underlying61 rfl ti54 rfl rfl) rfl ?_
    refine wh_take (i := 3) (v := .pointer (some ⟨h.bd, 0, none⟩)) rfl (by kernel_rfl) (by kernel_rfl) (by kernel_rfl) hS10 rfl (fun wq hq => rf_load Tryz.underlying54 rfl rfl rfl ((hb_w5.kp hq (fun e => hneS (.inr e))).cell rfl)) rfl ?_
    refine wh_take (i := 4) (v := .pointer (some ⟨vb, 0, none⟩)) rfl (by kernel_rfl) (by kernel_rfl) (by kernel_rfl) hS10 rfl (fun wq hq => rf_move rfl) rfl ?_
    refine wh_take (i := 5) (v := .pointer (some ⟨vb, 0, none⟩)) rfl (by kernel_rfl) (by kernel_rfl) (by kernel_rfl) hS10 rfl (fun wq hq => rf_nilCheckP rfl rfl) rfl ?_
    refine wh_take (i := 6) (v := .pointer (some ⟨vb, 2, none⟩)) rfl (by kernel_rfl) (by kernel_rfl) (by kernel_rfl) hS10 rfl (fun wq hq => rf_fieldAddr Tryz.underlying104 rfl ti41 rfl rfl) rfl ?_
    refine wh_take (i := 7) (v := .agg #[.int .i64 r.key.table, .int .i64 r.key.row]) rfl (by kernel_rfl) (by kernel_rfl) (by kernel_rfl) hS10 rfl (fun wq hq => rf_loadBlk Tryz.underlying41 rfl ti41 rfl rfl (hvb_w5.kp hq (fun e => hvbT (.inr (.inr (.inr e))))) (Nat.le_of_ble_eq_true rfl)) rfl ?_
    refine wh_take (i := 8) (v := .slice (some ⟨cb, co, none⟩) ((st.ch r.key).length - 1) cap2) rfl (by kernel_rfl) (by kernel_rfl) (by kernel_rfl) hS10 rfl (fun wq hq => rf_move rfl) rfl ?_
    refine wh_one (i := 9) (by kernel_rfl) rfl ?_
    refine wl_ret rfl (putC_ret ⟨some ⟨cb, co, none⟩, (st.ch r.key).length - 1, cap2⟩ r.key h.bd h.bp h.rs h.ls h.came h.n w10 hdd_w10) (rf_call Tryz.call46 rfl rfl) ?_
    rintro vq w11 ⟨_, hdn, hk11⟩
    have hb_w11 := hb_w10.kp hk11 (fun e => hneS (.inr e))
    have hvm_w11 := hvm_w10.kp hk11 hneV.2
    have hkT_w11 := hkT_w10.comp hk11 (fun x _ e => .inr e)
    have hvb_w11 := hvb_w10.kp hk11 (fun e => hvbT (e.elim (fun q => .inr (.inr (.inr (.inl q)))) (fun q => .inr (.inr (.inr (.inr q))))))
    have hb1_w11 := hb1_w10.kp hk11 (fun e => hs.new_put e (by omega))
    have hcl2_w11 := hcl2_w10.kp hk11 (fun e => hs.new_put e (by omega))
    have hS_w11 := hS10.comp hk11 (fun x _ e => e)
    have hs11 := hk11.size
    refine wl_nil ?_
    refine wh_back hS_w11 ?_
    refine wh_done (by kernel_rfl) ?_
    refine thn ?_
    refine seq_ ?_
    refine region_h (S := fun wq => Kp (fun y => y = h.vr) w11 wq) mixedP ?_
    intro w12 hk12
    have hb_w12 := hb_w11.keep hk12
    have hvm_w12 := hvm_w11.keep hk12
    have hkT_w12 := hkT_w11.comp hk12 (fun _ _ e => e.elim)
    have hvb_w12 := hvb_w11.keep hk12
    have hb1_w12 := hb1_w11.keep hk12
    have hcl2_w12 := hcl2_w11.keep hk12
    have hdn_w12 := hdn.keep hk12
    have hs12 := hk12.size
    have hS12 : Kp (fun y => y = h.vr) w11 w12 := hk12.of_none
    refine wh_take (i := 0) (v := .pointer (some ⟨s, 0, none⟩)) rfl (by kernel_rfl) (by kernel_rfl) (by kernel_rfl) hS12 rfl (fun wq hq => rf_move rfl) rfl ?_
    refine wh_take (i := 1) (v := .pointer (some ⟨s, 0, none⟩)) rfl (by kernel_rfl) (by kernel_rfl) (by kernel_rfl) hS12 rfl (fun wq hq => rf_nilCheckP rfl rfl) rfl ?_
    refine wh_take (i := 2) (v := .pointer (some ⟨s, 3, none⟩)) rfl (by kernel_rfl) (by kernel_rfl) (by kernel_rfl) hS12 rfl (fun wq hq => rf_fieldAddr Tryz.underlying61 rfl ti59 rfl rfl) rfl ?_
    refine wh_take (i := 3) (v := .map (some h.vr)) rfl (by kernel_rfl) (by kernel_rfl) (by kernel_rfl) hS12 rfl (fun wq hq => rf_load Tryz.underlying59 rfl rfl rfl ((hb_w11.kp hq (by omega)).cell rfl)) rfl ?_
    refine wh_take (i := 4) (v := .int .i64 x) rfl (by kernel_rfl) (by kernel_rfl) (by kernel_rfl) hS12 rfl (fun wq hq => rf_load Tryz.underlying3 rfl rfl rfl ((hb1_w11.kp hq (by omega)).cell rfl)) rfl ?_
    refine wh_one (i := 5) (by kernel_rfl) rfl ?_
    refine wl_delete (a := x) klI3 Tryz.underlying59 rfl rfl rfl rfl hvm_w12 ?_
    intro w13 hk13 hm13
    have hb_w13 := hb_w12.kp hk13 hsv_ne
    have hkT_w13 := hkT_w12.comp hk13 (fun x _ e => .inl e)
    have hvb_w13 := hvb_w12.kp hk13 (fun e => hvbT (.inr (.inl e)))
    have hb1_w13 := hb1_w12.kp hk13 (Ne.symm ne1_hvr)
    have hcl2_w13 := hcl2_w12.kp hk13 (by omega)
    have hdn_w13 := hdn_w12.kp hk13 (fun x hx e => hs.vr_fp (e ▸ hx))
    have hS_w13 := hS12.comp hk13 (fun b h e => by first | exact e | omega)
    have hs13 := hk13.size
    refine wl_nil ?_
    refine wh_back hS_w13 ?_
    refine wh_done (by kernel_rfl) ?_
    refine thn ?_
    refine seq_ ?_
    refine region_ ?_
    refine wl_valE (v := .int .i64 ((0 : Nat) : Int)) rfl (rf_assign rfl) rfl ?_
    refine wl_nil ?_
    refine thn ?_
    refine ret_ ?_
    refine fin1 (v := .int .i64 ((0 : Nat) : Int)) Tryz.results16 rfl rfl ?_
    have hdl : 0 < h.ls.length := by have := hs.dict.len; have := hs.dict.pos; omega
    have hfl := filter_len hj hjno
    have hq9 := hcl2.lt
    refine ⟨rfl, rem_done (A := w.heap.size) (B := w13.heap.size) hs hv hb_w13 hm13 hdn_w13 (fun k hk => by rw [dgetC_put hdl, if_neg hk]) ?_ ?_ (by omega) (by omega) hkT_w13 (by have hq := hs.came.1.put hdl (by have := hs.came.2; omega) r.key ⟨some ⟨cb, co, none⟩, (st.ch r.key).length - 1, cap2⟩; exact ⟨hq.1, by have := hq.2.2 (fun e => by have := (hs.chnone r.key).1 e; rw [this] at hjl; simp at hjl); have := hs.came.2; omega⟩) (hs.ptc.put hdl _ _)⟩
    · have e := hcl2_w13.sl (F := fun y => w.heap.size ≤ y ∧ y < w13.heap.size) ⟨by omega, hcl2_w13.lt⟩
      rw [hfl] at e
      rw [show chainV (dputC h.ls r.key ⟨r.key, ⟨some ⟨cb, co, none⟩, (st.ch r.key).length - 1, cap2⟩, _⟩) r.key = ⟨some ⟨cb, co, none⟩, (st.ch r.key).length - 1, cap2⟩ from by unfold chainV; rw [dgetC_put hdl, if_pos rfl]; rfl]
      exact e
    · rw [dgetC_put hdl, if_pos rfl]
      constructor
      · intro e; cases e
      · intro e; rw [e] at hfl; simp at hfl; omega
end Go.Proofs.YtojcddlpkfhodaaGreat.W
