import Derived.Test.YtbmhoopgdhajeaaD1
import Derived.Test.YtbmhoopgdhajeaaD2
import Derived.Test.YtbmhoopgdhajeaaD3
import Derived.KernelRfl
namespace Go.Proofs.Ytbmhoopgdhajeaa.W
open Go Go.Wk
set_option linter.unusedVariables false

theorem el01 {w : World} {b i : Nat} {u : Value} (h : w.cell? ⟨b, 0 + i * 1 + 0, none⟩ = some u) : w.cell? ⟨b, i, none⟩ = some u := by simpa using h
def flipTo (D : List Bool) (i : Nat) : List Bool := (D.take i).map (fun b => !b) ++ D.drop i
theorem flipTo_zero (D : List Bool) : flipTo D 0 = D := by simp [flipTo]
theorem flipTo_all (D : List Bool) : flipTo D D.length = D.map (fun b => !b) := by simp [flipTo]
theorem flipTo_length (D : List Bool) (i : Nat) : (flipTo D i).length = D.length := by simp [flipTo]; omega
theorem flipTo_get {D : List Bool} {i : Nat} {x : Bool} (h : D[i]? = some x) : (flipTo D i)[i]? = some x := by
  have hi : i < D.length := (List.getElem?_eq_some_iff.1 h).1
  unfold flipTo
  rw [List.getElem?_append_right (by simp; omega), List.getElem?_drop]
  simp
  rw [show i + (i - min i D.length) = i from by omega]
  exact h
theorem flipTo_succ {D : List Bool} {i : Nat} {x : Bool} (h : D[i]? = some x) : (flipTo D i).set i (!x) = flipTo D (i + 1) := by
  have hi : i < D.length := (List.getElem?_eq_some_iff.1 h).1
  unfold flipTo
  rw [List.set_append_right _ _ (by simp; omega), List.take_add_one, h]
  have e : i - ((D.take i).map (fun b => !b)).length = 0 := by simp; omega
  have e2 : D.drop i = x :: D.drop (i + 1) := by
    rw [List.drop_eq_getElem_cons hi, (List.getElem?_eq_some_iff.1 h).2]
  rw [e, e2]
  simp
theorem tail_lt {D r : List Bool} {i : Nat} {x : Bool} (h : D[i]? = some x) : (D ++ r)[i]? = some x := by
  rw [List.getElem?_append_left (List.getElem?_eq_some_iff.1 h).1, h]
theorem tail_ge {D : List Bool} {i k : Nat} {b : Bool} (h : D.length ≤ i) (h2 : i < D.length + k) : (D ++ List.replicate k b)[i]? = some b := by
  rw [List.getElem?_append_right h, List.getElem?_replicate, if_pos (by omega)]
theorem map_get {D : List Bool} {i : Nat} {x : Bool} (h : D[i]? = some x) : (D.map (fun b => !b))[i]? = some (!x) := by rw [List.getElem?_map, h]; rfl
theorem rep_succ (D : List Bool) (k : Nat) (b : Bool) : (D ++ List.replicate k b) ++ [b] = D ++ List.replicate (k + 1) b := by
  rw [List.append_assoc, List.replicate_succ']
def m9 : Ver := ⟨-9, 0, false, ⟨false, 0⟩⟩
theorem law_ret (vc vp : Value) (floor : Int) (F : Nat → Prop) (chain : List Ver) (pins : List Int) (w : World)
    (h40 : chain.length * 40 ≤ 140737488351232) (p8 : pins.length * 8 ≤ 140737488351232) (hv : Rd encVer 5 w F vc chain) (hp : Rd encI 1 w F vp pins) (hF : ∀ b, F b → b < w.heap.size) :
    Ret Try.prog 3 [vc, .int .i64 floor, vp] w fun v w' => v = .bool true ∧ Kp none_ w w' := by
  obtain ⟨va, vcap, rfl, hvcap⟩ := hv.form
  obtain ⟨pa, pcap, rfl, hpcap⟩ := hp.form
  have hkw : Kp none_ w w := Kp.refl w
  obtain ⟨D, hD⟩ : ∃ D, dropsF chain floor pins = D := ⟨_, rfl⟩
  have hDl : D.length = chain.length := by rw [← hD]; exact dropsTo_length _ _ _
  refine enterR Try.func3 rfl Try.ntmps3 rfl ?_
  intro g0
  refine seq_ ?_
  refine region_ ?_
  refine wl_valE (v := .bool false) rfl (rf_assign rfl) rfl ?_
  refine wl_nil ?_
  refine thn ?_
  refine seq_ ?_
  refine region_ ?_
  refine wl_buildSlice0 Try.underlying22 ti27 ?_
  intro b1 w1 hg1 hk1 hb1
  have hv_w1 := hv.keep hk1
  have hp_w1 := hp.keep hk1
  have hkw_w1 := hkw.comp hk1 (fun _ _ e => e.elim)
  have hs1 := hk1.size
  refine wl_valE (v := .slice va chain.length vcap) rfl (rf_move rfl) rfl ?_
  refine wl_append encVer_len encVer_one Try.underlying22 ti27 rfl rfl rfl rfl rfl ((SlAt.of_blk (l := []) encVer_len (by simp) hb1).sl (F := fun b => b = b1) rfl) (hv_w1) (by simp; omega) (by simp; omega) ?_
  intro v2 w2 hk2 ha2
  have hv_w2 := hv_w1.kp hk2 (fun b h e => by have := hF b h; omega)
  have hp_w2 := hp_w1.kp hk2 (fun b h e => by have := hF b h; omega)
  have hkw_w2 := hkw_w1.comp hk2 (fun b h e => by omega)
  have hs2 := hk2.size
  refine wl_valE (v := .agg #[.int .i64 (-9 : Int), .int .i64 ((0 : Nat) : Int), .bool false, .bool false, .int .i64 ((0 : Nat) : Int)]) rfl (rf_build (offs := [(0, [.int .i64 (-9 : Int)])]) (places := #[(0, 1), (1, 1), (2, 1), (3, 2)]) Try.underlying27 ti27 (fun w => by kernel_rfl) (.cons rfl rfl rfl rfl rfl rfl .nil)) rfl ?_
  refine wl_buildSlice (css := [[.int .i64 (-9 : Int), .int .i64 ((0 : Nat) : Int), .bool false, .bool false, .int .i64 ((0 : Nat) : Int)]]) Try.underlying22 ti27 rfl rfl rfl (.cons rfl rfl rfl rfl rfl rfl .nil) (by simp) ?_
  intro b3 w3 hg3 hk3 hb3
  have hv_w3 := hv_w2.keep hk3
  have hp_w3 := hp_w2.keep hk3
  have hkw_w3 := hkw_w2.comp hk3 (fun _ _ e => e.elim)
  have hc0_w3 := ha2.keep hk3
  have hs3 := hk3.size
  refine wl_append encVer_len encVer_one Try.underlying22 ti27 rfl rfl rfl rfl rfl (hc0_w3) ((SlAt.of_blk (l := [m9]) encVer_len (by simp) hb3).rd (F := fun b => b = b3) rfl) (by simp; omega) (by simp; omega) ?_
  intro v4 w4 hk4 ha4
  have hv_w4 := hv_w3.kp hk4 (fun b h e => by have := hF b h; omega)
  have hp_w4 := hp_w3.kp hk4 (fun b h e => by have := hF b h; omega)
  have hkw_w4 := hkw_w3.comp hk4 (fun b h e => by omega)
  have hs4 := hk4.size
  refine wl_valE (v := v4) rfl (rf_assign rfl) rfl ?_
  obtain ⟨bc, oc, capc, ec, hFc, hC⟩ := ha4.at (by simp)
  rw [List.nil_append] at hC ec
  rw [List.length_append, List.length_singleton] at ec
  subst ec
  have hbc : w.heap.size ≤ bc := by rcases hFc with (h | h) | h <;> omega
  clear hFc
  have hlc := hC.lt
  have hCle := hC.le
  rw [List.length_append, List.length_singleton] at hCle
  refine wl_nil ?_
  refine thn ?_
  refine seq_ ?_
  refine region_ ?_
  refine wl_buildSlice0 Try.underlying23 ti3 ?_
  intro b5 w5 hg5 hk5 hb5
  have ne5_bc : bc ≠ b5 := Nat.ne_of_lt (Nat.lt_of_lt_of_le hC.lt hg5)
  have hv_w5 := hv_w4.keep hk5
  have hp_w5 := hp_w4.keep hk5
  have hkw_w5 := hkw_w4.comp hk5 (fun _ _ e => e.elim)
  have hC_w5 := hC.keep hk5
  have hs5 := hk5.size
  refine wl_valE (v := .slice pa pins.length pcap) rfl (rf_move rfl) rfl ?_
  refine wl_append encI_len encI_one Try.underlying23 ti3 rfl rfl rfl rfl rfl ((SlAt.of_blk (l := []) encI_len (by simp) hb5).sl (F := fun b => b = b5) rfl) (hp_w5) (by simp; omega) (by simp; omega) ?_
  intro v6 w6 hk6 ha6
  have hv_w6 := hv_w5.kp hk6 (fun b h e => by have := hF b h; omega)
  have hp_w6 := hp_w5.kp hk6 (fun b h e => by have := hF b h; omega)
  have hkw_w6 := hkw_w5.comp hk6 (fun b h e => by omega)
  have hC_w6 := hC_w5.kp hk6 (fun e => by omega)
  have hs6 := hk6.size
  refine wl_buildSlice (css := [[.int .i64 (-8 : Int)]]) Try.underlying23 ti3 rfl rfl rfl (.cons rfl rfl rfl rfl rfl rfl .nil) (by simp) ?_
  intro b7 w7 hg7 hk7 hb7
  have ne7_bc : bc ≠ b7 := Nat.ne_of_lt (Nat.lt_of_lt_of_le hC_w6.lt hg7)
  have hv_w7 := hv_w6.keep hk7
  have hp_w7 := hp_w6.keep hk7
  have hkw_w7 := hkw_w6.comp hk7 (fun _ _ e => e.elim)
  have hC_w7 := hC_w6.keep hk7
  have hp0_w7 := ha6.keep hk7
  have hs7 := hk7.size
  refine wl_append encI_len encI_one Try.underlying23 ti3 rfl rfl rfl rfl rfl (hp0_w7) ((SlAt.of_blk (l := [(-8 : Int)]) encI_len (by simp) hb7).rd (F := fun b => b = b7) rfl) (by simp; omega) (by simp; omega) ?_
  intro v8 w8 hk8 ha8
  have hv_w8 := hv_w7.kp hk8 (fun b h e => by have := hF b h; omega)
  have hp_w8 := hp_w7.kp hk8 (fun b h e => by have := hF b h; omega)
  have hkw_w8 := hkw_w7.comp hk8 (fun b h e => by omega)
  have hC_w8 := hC_w7.kp hk8 (fun e => by omega)
  have hs8 := hk8.size
  refine wl_valE (v := v8) rfl (rf_assign rfl) rfl ?_
  obtain ⟨bp, op, capp, ep, hFp, hP⟩ := ha8.at (by simp)
  rw [List.nil_append] at hP ep
  rw [List.length_append, List.length_singleton] at ep
  subst ep
  have hbp : w4.heap.size ≤ bp := by rcases hFp with (h | h) | h <;> omega
  clear hFp
  have hlp := hP.lt
  have hPle := hP.le
  rw [List.length_append, List.length_singleton] at hPle
  refine wl_nil ?_
  refine thn ?_
  refine seq_ ?_
  refine region_ ?_
  refine wl_valE (v := .slice va chain.length vcap) rfl (rf_move rfl) rfl ?_
  refine wl_valE (v := .int .i64 floor) rfl (rf_move rfl) rfl ?_
  refine wl_valE (v := .slice pa pins.length pcap) rfl (rf_move rfl) rfl ?_
  refine wl_ret rfl (refDrops_ret _ _ floor F chain pins w8 (by omega) (by omega) hv_w8 hp_w8 (fun b h => by have := hF b h; omega)) (rf_call Try.call4 rfl rfl) ?_
  rintro vq w9 ⟨bw, eq3, hgw, hk9, hbw⟩
  rw [hD] at eq3 hbw
  subst eq3
  have hlw := hbw.lt
  have hv_w9 := hv_w8.keep hk9
  have hp_w9 := hp_w8.keep hk9
  have hkw_w9 := hkw_w8.comp hk9 (fun _ _ e => e.elim)
  have hC_w9 := hC_w8.keep hk9
  have hP_w9 := hP.keep hk9
  have hs9 := hk9.size
  refine wl_valE (v := .slice (some ⟨bw, 0, none⟩) D.length D.length) rfl (rf_assign rfl) rfl ?_
  refine wl_nil ?_
  refine thn ?_
  refine seq_ ?_
  refine region_t 9 mixedP (by kernel_rfl) ?_
  intro w10 hk10
  have hv_w10 := hv_w9.keep hk10
  have hp_w10 := hp_w9.keep hk10
  have hkw_w10 := hkw_w9.comp hk10 (fun _ _ e => e.elim)
  have hC_w10 := hC_w9.keep hk10
  have hP_w10 := hP_w9.keep hk10
  have hbw_w10 := hbw.keep hk10
  have hs10 := hk10.size
  refine ss_valE (v := .slice (some ⟨bc, oc, none⟩) (chain.length + 1) capc) rfl (rf_move rfl) rfl ?_
  refine ss_valE (v := .slice va chain.length vcap) rfl (rf_move rfl) rfl ?_
  refine ss_valE (v := .int .i64 ((chain.length : Nat) : Int)) rfl (rf_len_slice Try.underlying22 rfl rfl) rfl ?_
  refine ss_valE (v := .slice (some ⟨bc, oc, none⟩) chain.length capc) rfl (rf_sliceTo (h := chain.length) Try.underlying22 ti27 rfl rfl rfl rfl (by omega)) rfl ?_
  refine ss_valE (v := .int .i64 floor) rfl (rf_move rfl) rfl ?_
  refine ss_valE (v := .slice (some ⟨bp, op, none⟩) (pins.length + 1) capp) rfl (rf_move rfl) rfl ?_
  refine ss_valE (v := .slice pa pins.length pcap) rfl (rf_move rfl) rfl ?_
  refine ss_valE (v := .int .i64 ((pins.length : Nat) : Int)) rfl (rf_len_slice Try.underlying23 rfl rfl) rfl ?_
  refine ss_valE (v := .slice (some ⟨bp, op, none⟩) pins.length capp) rfl (rf_sliceTo (h := pins.length) Try.underlying23 ti3 rfl rfl rfl rfl (by omega)) rfl ?_
  refine ss_tail ?_
  refine wl_ret rfl (drops_ret _ _ floor (fun b => b = bc ∨ b = bp) chain pins w10 (by omega) (by omega) (hC_w10.rdTake (.inl rfl)) (hP_w10.rdTake (.inr rfl)) (fun b h => by rcases h with h | h <;> omega)) (rf_call Try.call5 rfl rfl) ?_
  rintro vq w11 ⟨ba, eq3, hga, hk11, hba⟩
  rw [hD] at eq3 hba
  subst eq3
  have hla := hba.lt
  have hv_w11 := hv_w10.keep hk11
  have hp_w11 := hp_w10.keep hk11
  have hkw_w11 := hkw_w10.comp hk11 (fun _ _ e => e.elim)
  have hC_w11 := hC_w10.keep hk11
  have hP_w11 := hP_w10.keep hk11
  have hbw_w11 := hbw_w10.keep hk11
  have hs11 := hk11.size
  refine wl_valE (v := .slice (some ⟨ba, 0, none⟩) D.length D.length) rfl (rf_assign rfl) rfl ?_
  refine wl_nil ?_
  refine thn ?_
  refine seq_ ?_
  refine region_t 9 mixedP (by kernel_rfl) ?_
  intro w12 hk12
  have hv_w12 := hv_w11.keep hk12
  have hp_w12 := hp_w11.keep hk12
  have hkw_w12 := hkw_w11.comp hk12 (fun _ _ e => e.elim)
  have hC_w12 := hC_w11.keep hk12
  have hP_w12 := hP_w11.keep hk12
  have hbw_w12 := hbw_w11.keep hk12
  have hba_w12 := hba.keep hk12
  have hs12 := hk12.size
  refine ss_valE (v := .slice (some ⟨bc, oc, none⟩) (chain.length + 1) capc) rfl (rf_move rfl) rfl ?_
  refine ss_valE (v := .slice va chain.length vcap) rfl (rf_move rfl) rfl ?_
  refine ss_valE (v := .int .i64 ((chain.length : Nat) : Int)) rfl (rf_len_slice Try.underlying22 rfl rfl) rfl ?_
  refine ss_valE (v := .slice (some ⟨bc, oc, none⟩) chain.length capc) rfl (rf_sliceTo (h := chain.length) Try.underlying22 ti27 rfl rfl rfl rfl (by omega)) rfl ?_
  refine ss_valE (v := .int .i64 floor) rfl (rf_move rfl) rfl ?_
  refine ss_valE (v := .slice (some ⟨bp, op, none⟩) (pins.length + 1) capp) rfl (rf_move rfl) rfl ?_
  refine ss_valE (v := .slice pa pins.length pcap) rfl (rf_move rfl) rfl ?_
  refine ss_valE (v := .int .i64 ((pins.length : Nat) : Int)) rfl (rf_len_slice Try.underlying23 rfl rfl) rfl ?_
  refine ss_valE (v := .slice (some ⟨bp, op, none⟩) pins.length capp) rfl (rf_sliceTo (h := pins.length) Try.underlying23 ti3 rfl rfl rfl rfl (by omega)) rfl ?_
  refine ss_tail ?_
  refine wl_ret rfl (drops_ret _ _ floor (fun b => b = bc ∨ b = bp) chain pins w12 (by omega) (by omega) (hC_w12.rdTake (.inl rfl)) (hP_w12.rdTake (.inr rfl)) (fun b h => by rcases h with h | h <;> omega)) (rf_call Try.call5 rfl rfl) ?_
  rintro vq w13 ⟨bb, eq3, hgb, hk13, hbb⟩
  rw [hD] at eq3 hbb
  subst eq3
  have hlb := hbb.lt
  have hv_w13 := hv_w12.keep hk13
  have hp_w13 := hp_w12.keep hk13
  have hkw_w13 := hkw_w12.comp hk13 (fun _ _ e => e.elim)
  have hC_w13 := hC_w12.keep hk13
  have hP_w13 := hP_w12.keep hk13
  have hbw_w13 := hbw_w12.keep hk13
  have hba_w13 := hba_w12.keep hk13
  have hs13 := hk13.size
  refine wl_valE (v := .slice (some ⟨bb, 0, none⟩) D.length D.length) rfl (rf_assign rfl) rfl ?_
  refine wl_nil ?_
  refine thn ?_
  refine seq_ ?_
  refine seq_ ?_
  refine region_ ?_
  refine wl_valE (v := .slice (some ⟨ba, 0, none⟩) D.length D.length) rfl (rf_move rfl) rfl ?_
  refine wl_valE (v := .slice (some ⟨bw, 0, none⟩) D.length D.length) rfl (rf_move rfl) rfl ?_
  refine wl_ret rfl (sameBools_ret _ _ true (fun b => b = ba) (fun b => b = bw) D D w13 ((SlAt.bools (f := encB) (fun x => rfl) (by omega) hba_w13).rd (F := fun b => b = ba) rfl) ((SlAt.bools (f := encB) (fun x => rfl) (by omega) hbw_w13).rd (F := fun b => b = bw) rfl) (by omega) (by simp)) (rf_call Try.call6 rfl rfl) ?_
  rintro _ w14 ⟨rfl, hk14⟩
  have hv_w14 := hv_w13.keep hk14
  have hp_w14 := hp_w13.keep hk14
  have hkw_w14 := hkw_w13.comp hk14 (fun _ _ e => e.elim)
  have hC_w14 := hC_w13.keep hk14
  have hP_w14 := hP_w13.keep hk14
  have hbw_w14 := hbw_w13.keep hk14
  have hba_w14 := hba_w13.keep hk14
  have hbb_w14 := hbb.keep hk14
  have hs14 := hk14.size
  refine wl_valE (v := .bool false) rfl (rf_not rfl rfl) rfl ?_
  refine wl_valE (v := .bool false) rfl (rf_move rfl) rfl ?_
  refine wl_guardT rfl rfl rfl rfl ?_
  refine wl_valE (v := .slice (some ⟨bb, 0, none⟩) D.length D.length) rfl (rf_move rfl) rfl ?_
  refine wl_guardT rfl rfl rfl rfl ?_
  refine wl_valE (v := .slice (some ⟨bw, 0, none⟩) D.length D.length) rfl (rf_move rfl) rfl ?_
  refine wl_guardT rfl rfl rfl rfl ?_
  refine wl_ret rfl (sameBools_ret _ _ true (fun b => b = bb) (fun b => b = bw) D D w14 ((SlAt.bools (f := encB) (fun x => rfl) (by omega) hbb_w14).rd (F := fun b => b = bb) rfl) ((SlAt.bools (f := encB) (fun x => rfl) (by omega) hbw_w14).rd (F := fun b => b = bw) rfl) (by omega) (by simp)) (rf_call Try.call6 rfl rfl) ?_
  rintro _ w15 ⟨rfl, hk15⟩
  have hv_w15 := hv_w14.keep hk15
  have hp_w15 := hp_w14.keep hk15
  have hkw_w15 := hkw_w14.comp hk15 (fun _ _ e => e.elim)
  have hC_w15 := hC_w14.keep hk15
  have hP_w15 := hP_w14.keep hk15
  have hbw_w15 := hbw_w14.keep hk15
  have hba_w15 := hba_w14.keep hk15
  have hbb_w15 := hbb_w14.keep hk15
  have hs15 := hk15.size
  refine wl_guardT rfl rfl rfl rfl ?_
  refine wl_valE (v := .bool false) rfl (rf_not rfl rfl) rfl ?_
  refine wl_valE (v := .bool false) rfl (rf_pickF rfl rfl rfl rfl) rfl ?_
  refine wl_valE (v := .bool false) rfl (rf_move rfl) rfl ?_
  refine wl_guardT rfl rfl rfl rfl ?_
  refine wl_valE (v := .slice (some ⟨bc, oc, none⟩) (chain.length + 1) capc) rfl (rf_move rfl) rfl ?_
  refine wl_guardT rfl rfl rfl rfl ?_
  refine wl_valE (v := .slice va chain.length vcap) rfl (rf_move rfl) rfl ?_
  refine wl_guardT rfl rfl rfl rfl ?_
  refine wl_valE (v := .int .i64 ((chain.length : Nat) : Int)) rfl (rf_len_slice Try.underlying22 rfl rfl) rfl ?_
  refine wl_guardT rfl rfl rfl rfl ?_
  refine wl_valE (v := .slice (some ⟨bc, oc, none⟩) chain.length capc) rfl (rf_sliceTo (h := chain.length) Try.underlying22 ti27 rfl rfl rfl rfl (by omega)) rfl ?_
  refine wl_guardT rfl rfl rfl rfl ?_
  refine wl_valE (v := .slice va chain.length vcap) rfl (rf_move rfl) rfl ?_
  refine wl_guardT rfl rfl rfl rfl ?_
  refine wl_ret rfl (sameChain_ret _ _ true (fun b => b = bc) F chain chain w15 (hC_w15.rdTake rfl) hv_w15 (by omega) (by simp)) (rf_call Try.call7 rfl rfl) ?_
  rintro _ w16 ⟨rfl, hk16⟩
  have hv_w16 := hv_w15.keep hk16
  have hp_w16 := hp_w15.keep hk16
  have hkw_w16 := hkw_w15.comp hk16 (fun _ _ e => e.elim)
  have hC_w16 := hC_w15.keep hk16
  have hP_w16 := hP_w15.keep hk16
  have hbw_w16 := hbw_w15.keep hk16
  have hba_w16 := hba_w15.keep hk16
  have hbb_w16 := hbb_w15.keep hk16
  have hs16 := hk16.size
  refine wl_guardT rfl rfl rfl rfl ?_
  refine wl_valE (v := .bool false) rfl (rf_not rfl rfl) rfl ?_
  refine wl_valE (v := .bool false) rfl (rf_pickF rfl rfl rfl rfl) rfl ?_
  refine wl_valE (v := .bool false) rfl (rf_move rfl) rfl ?_
  refine wl_guardT rfl rfl rfl rfl ?_
  refine wl_valE (v := .slice (some ⟨bp, op, none⟩) (pins.length + 1) capp) rfl (rf_move rfl) rfl ?_
  refine wl_guardT rfl rfl rfl rfl ?_
  refine wl_valE (v := .slice pa pins.length pcap) rfl (rf_move rfl) rfl ?_
  refine wl_guardT rfl rfl rfl rfl ?_
  refine wl_valE (v := .int .i64 ((pins.length : Nat) : Int)) rfl (rf_len_slice Try.underlying23 rfl rfl) rfl ?_
  refine wl_guardT rfl rfl rfl rfl ?_
  refine wl_valE (v := .slice (some ⟨bp, op, none⟩) pins.length capp) rfl (rf_sliceTo (h := pins.length) Try.underlying23 ti3 rfl rfl rfl rfl (by omega)) rfl ?_
  refine wl_guardT rfl rfl rfl rfl ?_
  refine wl_valE (v := .slice pa pins.length pcap) rfl (rf_move rfl) rfl ?_
  refine wl_guardT rfl rfl rfl rfl ?_
  refine wl_ret rfl (sameInts_ret _ _ true (fun b => b = bp) F pins pins w16 (hP_w16.rdTake rfl) hp_w16 (by omega) (by simp)) (rf_call Try.call8 rfl rfl) ?_
  rintro _ w17 ⟨rfl, hk17⟩
  have hv_w17 := hv_w16.keep hk17
  have hp_w17 := hp_w16.keep hk17
  have hkw_w17 := hkw_w16.comp hk17 (fun _ _ e => e.elim)
  have hC_w17 := hC_w16.keep hk17
  have hP_w17 := hP_w16.keep hk17
  have hbw_w17 := hbw_w16.keep hk17
  have hba_w17 := hba_w16.keep hk17
  have hbb_w17 := hbb_w16.keep hk17
  have hs17 := hk17.size
  refine wl_guardT rfl rfl rfl rfl ?_
  refine wl_valE (v := .bool false) rfl (rf_not rfl rfl) rfl ?_
  refine wl_valE (v := .bool false) rfl (rf_pickF rfl rfl rfl rfl) rfl ?_
  refine wl_valE (v := .bool false) rfl (rf_move rfl) rfl ?_
  refine wl_guardT rfl rfl rfl rfl ?_
  refine wl_valE (v := .slice (some ⟨bc, oc, none⟩) (chain.length + 1) capc) rfl (rf_move rfl) rfl ?_
  refine wl_guardT rfl rfl rfl rfl ?_
  refine wl_valE (v := .slice va chain.length vcap) rfl (rf_move rfl) rfl ?_
  refine wl_guardT rfl rfl rfl rfl ?_
  refine wl_valE (v := .int .i64 ((chain.length : Nat) : Int)) rfl (rf_len_slice Try.underlying22 rfl rfl) rfl ?_
  refine wl_guardT rfl rfl rfl rfl ?_
  refine wl_valE (v := .pointer (some ⟨bc, oc + chain.length * 5, none⟩)) rfl (rf_indexAddr Try.underlying22 ti27 rfl rfl rfl rfl (by omega) (by omega)) rfl ?_
  refine wl_guardT rfl rfl rfl rfl ?_
  refine wl_valE (v := .pointer (some ⟨bc, oc + chain.length * 5, none⟩)) rfl (rf_fieldAddr Try.underlying27 rfl ti3 rfl rfl) rfl ?_
  refine wl_guardT rfl rfl rfl rfl ?_
  refine wl_valE (v := .int .i64 (-9)) rfl (rf_load Try.underlying3 rfl rfl rfl (hC_w17.cell (i := chain.length) (x := m9) (by simp) 0 _ rfl)) rfl ?_
  refine wl_guardT rfl rfl rfl rfl ?_
  refine wl_valE (v := .bool false) rfl (rf_neq rfl rfl rfl rfl) (congrArg Value.bool (by decide)) ?_
  refine wl_valE (v := .bool false) rfl (rf_pickF rfl rfl rfl rfl) rfl ?_
  refine wl_valE (v := .bool false) rfl (rf_move rfl) rfl ?_
  refine wl_guardT rfl rfl rfl rfl ?_
  refine wl_valE (v := .slice (some ⟨bp, op, none⟩) (pins.length + 1) capp) rfl (rf_move rfl) rfl ?_
  refine wl_guardT rfl rfl rfl rfl ?_
  refine wl_valE (v := .slice pa pins.length pcap) rfl (rf_move rfl) rfl ?_
  refine wl_guardT rfl rfl rfl rfl ?_
  refine wl_valE (v := .int .i64 ((pins.length : Nat) : Int)) rfl (rf_len_slice Try.underlying23 rfl rfl) rfl ?_
  refine wl_guardT rfl rfl rfl rfl ?_
  refine wl_valE (v := .pointer (some ⟨bp, op + pins.length, none⟩)) rfl (rf_indexAddr Try.underlying23 ti3 rfl rfl rfl rfl (by omega) (by omega)) (by simp) ?_
  refine wl_guardT rfl rfl rfl rfl ?_
  refine wl_valE (v := .int .i64 (-8)) rfl (rf_load Try.underlying3 rfl rfl rfl (el1 (hP_w17.cell (i := pins.length) (x := -8) (by simp) 0 _ rfl))) rfl ?_
  refine wl_guardT rfl rfl rfl rfl ?_
  refine wl_valE (v := .bool false) rfl (rf_neq rfl rfl rfl rfl) (congrArg Value.bool (by decide)) ?_
  refine wl_valE (v := .bool false) rfl (rf_pickF rfl rfl rfl rfl) rfl ?_
  refine wl_nil ?_
  refine thn ?_
  refine condF rfl rfl ?_
  refine skip_ ?_
  refine thn ?_
  refine seq_ ?_
  refine seq_ ?_
  refine region_ ?_
  refine wl_valE (v := .int .i64 ((0 : Nat) : Int)) rfl (rf_assign rfl) rfl ?_
  refine wl_nil ?_
  refine thn ?_
  refine block_ ?_
  refine loop_ (fun lk lf lw => ∃ (g : Nat → Value) (i : Nat), lf = upds g [(6, .bool false), (9, .slice (some ⟨bw, 0, none⟩) D.length D.length), (10, .slice (some ⟨ba, 0, none⟩) D.length D.length), (11, .slice (some ⟨bb, 0, none⟩) D.length D.length), (12, .int .i64 ((i : Nat) : Int))] ∧ i + lk = D.length ∧ Blk lw ba (.cells ((flipTo D i).map Value.bool).toArray 4 (0, 0)) ∧ Kp (fun b => b = ba) w17 lw) (D.length) ?_ ?_
  · refine ⟨_, 0, upds_self ⟨rfl, rfl, rfl, rfl, rfl, trivial⟩, ?_⟩
    exact ⟨by omega, by rw [flipTo_zero]; exact hba_w17, Kp.refl _⟩
  · intro lk0 lf0 wl hI0
    obtain ⟨gl0, i, rfl, hik, hA, hkl0⟩ := hI0
    have hv_wl := hv_w17.kp hkl0 (fun b h e => by have := hF b h; omega)
    have hp_wl := hp_w17.kp hkl0 (fun b h e => by have := hF b h; omega)
    have hkw_wl := hkw_w17.comp hkl0 (fun b h e => by omega)
    have hC_wl := hC_w17.kp hkl0 (fun e => by omega)
    have hP_wl := hP_w17.kp hkl0 (fun e => by omega)
    have hbw_wl := hbw_w17.kp hkl0 (fun e => by omega)
    have hbb_wl := hbb_w17.kp hkl0 (fun e => by omega)
    have hsl := hkl0.size
    refine seq_ ?_
    refine seq_ ?_
    refine region_ ?_
    refine wl_valE (v := .int .i64 ((i : Nat) : Int)) rfl (rf_move rfl) rfl ?_
    refine wl_valE (v := .slice (some ⟨ba, 0, none⟩) D.length D.length) rfl (rf_move rfl) rfl ?_
    refine wl_valE (v := .int .i64 ((D.length : Nat) : Int)) rfl (rf_len_slice Try.underlying28 rfl rfl) rfl ?_
    refine wl_valE (v := .bool (decide (((i : Nat) : Int) < ((D.length : Nat) : Int)))) rfl (rf_lss rfl rfl rfl rfl) rfl ?_
    refine wl_nil ?_
    refine thn ?_
    refine cond_ (t := decide (((i : Nat) : Int) < ((D.length : Nat) : Int))) rfl rfl (fun c100 => ?_) (fun c100 => ?_)
    · have c100p := of_decide_eq_true c100
      obtain ⟨x, hx⟩ : ∃ x, D[i]? = some x := ⟨_, List.getElem?_eq_getElem (by omega)⟩
      refine skip_ ?_
      refine thn ?_
      refine seq_ ?_
      refine block_ ?_
      refine region_ ?_
      refine wl_valE (v := .slice (some ⟨ba, 0, none⟩) D.length D.length) rfl (rf_move rfl) rfl ?_
      refine wl_valE (v := .int .i64 ((i : Nat) : Int)) rfl (rf_move rfl) rfl ?_
      refine wl_valE (v := .slice (some ⟨ba, 0, none⟩) D.length D.length) rfl (rf_move rfl) rfl ?_
      refine wl_valE (v := .int .i64 ((i : Nat) : Int)) rfl (rf_move rfl) rfl ?_
      refine wl_valE (v := .pointer (some ⟨ba, i, none⟩)) rfl (rf_indexAddr Try.underlying28 ti4 rfl rfl rfl rfl (by omega) (by omega)) (by simp) ?_
      refine wl_valE (v := .bool x) rfl (rf_load Try.underlying4 rfl rfl rfl (hA.cell (show _[i]? = some (.bool x) from by simp [flipTo_get hx]))) rfl ?_
      refine wl_valE (v := .bool (!x)) rfl (rf_not rfl rfl) rfl ?_
      refine wl_valE (v := .pointer (some ⟨ba, i, none⟩)) rfl (rf_indexAddr Try.underlying28 ti4 rfl rfl rfl rfl (by omega) (by omega)) (by simp) ?_
      refine wl_store (b := ba) (o := i) (v := .bool (!x)) ti4 rfl rfl rfl rfl rfl hA (by simp [flipTo_length]; omega) ?_
      intro w18 hk18 hb18
      have hv_w18 := hv_wl.kp hk18 (fun b h e => by have := hF b h; omega)
      have hp_w18 := hp_wl.kp hk18 (fun b h e => by have := hF b h; omega)
      have hkw_w18 := hkw_wl.comp hk18 (fun b h e => by first | exact e | omega)
      have hC_w18 := hC_wl.kp hk18 (by omega)
      have hP_w18 := hP_wl.kp hk18 (by omega)
      have hbw_w18 := hbw_wl.kp hk18 (by omega)
      have hbb_w18 := hbb_wl.kp hk18 (by omega)
      have hkl0_w18 := hkl0.comp hk18 (fun b h e => by first | exact e | omega)
      have hs18 := hk18.size
      replace hb18 : Blk w18 ba (.cells ((flipTo D (i + 1)).map Value.bool).toArray 4 (0, 0)) := by rw [← flipTo_succ hx, List.map_set]; simpa using hb18
      refine wl_nil ?_
      refine bln ?_
      refine thn ?_
      refine region_ ?_
      refine wl_valE (v := .int .i64 ((i : Nat) : Int)) rfl (rf_move rfl) rfl ?_
      refine wl_valE (v := .int .i64 ((i + 1 : Nat) : Int)) rfl (rf_add rfl rfl rfl rfl (IntWalk.i64_in _ (by omega))) rfl ?_
      refine wl_valE (v := .int .i64 ((i + 1 : Nat) : Int)) rfl (rf_assign rfl) rfl ?_
      refine wl_nil ?_
      refine thn ?_
      refine ⟨lk0 - 1, _, rfl, (by omega), _, i + 1, upds_self ⟨rfl, rfl, rfl, rfl, rfl, trivial⟩, ?_⟩
      exact ⟨by omega, hb18, hkl0_w18⟩
    · have c100p := of_decide_eq_false c100
      obtain rfl : i = D.length := by omega
      rw [flipTo_all] at hA
      refine exit_ ?_
      refine thx (thx (blx ?_))
      refine thn ?_
      refine seq_ ?_
      refine region_ ?_
      refine wl_valE (v := .slice (some ⟨ba, 0, none⟩) D.length D.length) rfl (rf_move rfl) rfl ?_
      refine wl_valE (v := .slice (some ⟨bb, 0, none⟩) D.length D.length) rfl (rf_move rfl) rfl ?_
      refine wl_valE (v := .slice (some ⟨ba, 0, none⟩) D.length D.length) rfl (rf_assign rfl) rfl ?_
      refine wl_valE (v := .slice (some ⟨bb, 0, none⟩) D.length D.length) rfl (rf_assign rfl) rfl ?_
      refine wl_nil ?_
      refine thn ?_
      refine seq_ ?_
      refine seq_ ?_
      refine region_ ?_
      refine wl_valE (v := .int .i64 ((0 : Nat) : Int)) rfl (rf_assign rfl) rfl ?_
      refine wl_nil ?_
      refine thn ?_
      refine block_ ?_
      have hltA := hA.lt
      have hax0 : Ap encB 1 4 wl (fun _ => False) (fun b => b = ba) (.slice (some ⟨ba, 0, none⟩) D.length D.length) (D.map (fun b => !b) ++ List.replicate 0 true) := by
        have h := SlAt.bools (f := encB) (fun x => rfl) (by simp; omega) hA
        have h2 := h.apFull (F := fun _ => False) (G := fun b => b = ba) rfl
        rw [List.length_map] at h2
        rw [List.replicate_zero, List.append_nil]
        exact h2
      have hay0 : Ap encB 1 4 wl (fun _ => False) (fun b => b = bb) (.slice (some ⟨bb, 0, none⟩) D.length D.length) (D ++ List.replicate 0 false) := by
        have h := SlAt.bools (f := encB) (fun x => rfl) (by omega) hbb_wl
        rw [List.replicate_zero, List.append_nil]
        exact h.apFull (F := fun _ => False) (G := fun b => b = bb) rfl
      refine loop_ (fun lk lf lw => ∃ (g : Nat → Value) (k : Nat) (vx vy : Value) (Fx Fy : Nat → Prop), lf = upds g [(6, .bool false), (9, .slice (some ⟨bw, 0, none⟩) D.length D.length), (11, .slice (some ⟨bb, 0, none⟩) D.length D.length), (13, vx), (14, vy), (15, .int .i64 ((k : Nat) : Int))] ∧ k + lk = 40 ∧ Ap encB 1 4 lw Fx (fun b => b = ba) vx (D.map (fun b => !b) ++ List.replicate k true) ∧ Ap encB 1 4 lw Fy (fun b => b = bb) vy (D ++ List.replicate k false) ∧ (∀ b, Fx b → wl.heap.size ≤ b ∧ b < lw.heap.size) ∧ (∀ b, Fy b → wl.heap.size ≤ b ∧ b < lw.heap.size) ∧ (∀ b, Fx b → ¬ Fy b) ∧ Kp (none_) wl lw) (40) ?_ ?_
      · refine ⟨_, 0, (.slice (some ⟨ba, 0, none⟩) D.length D.length), (.slice (some ⟨bb, 0, none⟩) D.length D.length), (fun _ => False), (fun _ => False), upds_self ⟨rfl, rfl, rfl, rfl, rfl, rfl, trivial⟩, ?_⟩
        exact ⟨by omega, hax0, hay0, fun b h => h.elim, fun b h => h.elim, fun b h => h.elim, Kp.refl _⟩
      · intro lk1 lf1 wm hI1
        obtain ⟨gl1, k, vx, vy, Fx, Fy, rfl, hkk, hax, hay, hFx, hFy, hxy, hkl1⟩ := hI1
        have hv_wm := hv_wl.keep hkl1
        have hp_wm := hp_wl.keep hkl1
        have hkw_wm := hkw_wl.comp hkl1 (fun _ _ e => e.elim)
        have hC_wm := hC_wl.keep hkl1
        have hP_wm := hP_wl.keep hkl1
        have hbw_wm := hbw_wl.keep hkl1
        have hbb_wm := hbb_wl.keep hkl1
        have hkl0_wm := hkl0.comp hkl1 (fun _ _ e => e.elim)
        have hsm := hkl1.size
        refine seq_ ?_
        refine seq_ ?_
        refine region_ ?_
        refine wl_valE (v := .int .i64 ((k : Nat) : Int)) rfl (rf_move rfl) rfl ?_
        refine wl_valE (v := .bool (decide (((k : Nat) : Int) < ((40 : Nat) : Int)))) rfl (rf_lss rfl rfl rfl rfl) rfl ?_
        refine wl_nil ?_
        refine thn ?_
        refine cond_ (t := decide (((k : Nat) : Int) < ((40 : Nat) : Int))) rfl rfl (fun c114 => ?_) (fun c114 => ?_)
        · have c114p := of_decide_eq_true c114
          refine skip_ ?_
          refine thn ?_
          refine seq_ ?_
          refine block_ ?_
          refine seq_ ?_
          refine region_ ?_
          refine wl_valE (v := vx) rfl (rf_move rfl) rfl ?_
          refine wl_buildSlice (css := [[.bool true]]) Try.underlying28 ti4 rfl rfl rfl (.cons rfl rfl rfl rfl rfl rfl .nil) (by simp) ?_
          intro b19 w19 hg19 hk19 hb19
          have ne19_bc : bc ≠ b19 := Nat.ne_of_lt (Nat.lt_of_lt_of_le hC_wm.lt hg19)
          have ne19_bp : bp ≠ b19 := Nat.ne_of_lt (Nat.lt_of_lt_of_le hP_wm.lt hg19)
          have ne19_bw : bw ≠ b19 := Nat.ne_of_lt (Nat.lt_of_lt_of_le hbw_wm.lt hg19)
          have ne19_bb : bb ≠ b19 := Nat.ne_of_lt (Nat.lt_of_lt_of_le hbb_wm.lt hg19)
          have hv_w19 := hv_wm.keep hk19
          have hp_w19 := hp_wm.keep hk19
          have hkw_w19 := hkw_wm.comp hk19 (fun _ _ e => e.elim)
          have hC_w19 := hC_wm.keep hk19
          have hP_w19 := hP_wm.keep hk19
          have hbw_w19 := hbw_wm.keep hk19
          have hbb_w19 := hbb_wm.keep hk19
          have hkl0_w19 := hkl0_wm.comp hk19 (fun _ _ e => e.elim)
          have hkl1_w19 := hkl1.comp hk19 (fun _ _ e => e.elim)
          have hax_w19 := hax.keep hk19
          have hay_w19 := hay.keep hk19
          have hs19 := hk19.size
          refine wl_appendAp encB_len encB_one Try.underlying28 ti4 rfl rfl rfl rfl rfl (hax_w19) ((SlAt.of_blk (l := [true]) encB_len (by simp) hb19).rd (F := fun b => b = b19) rfl) (by simp) (by simp; omega) (by simp; omega) ?_
          intro v20 w20 hk20 ha20
          have hv_w20 := hv_w19.kp hk20 (fun b h e => by have := hF b h; first | (have := (hFx _ e).1; omega) | (have := (hFy _ e).1; omega))
          have hp_w20 := hp_w19.kp hk20 (fun b h e => by have := hF b h; first | (have := (hFx _ e).1; omega) | (have := (hFy _ e).1; omega))
          have hkw_w20 := hkw_w19.comp hk20 (fun b h e => by first | (have := (hFx _ e).1; omega) | (have := (hFy _ e).1; omega))
          have hC_w20 := hC_w19.kp hk20 (fun e => by first | (have := (hFx _ e).1; omega) | (have := (hFy _ e).1; omega))
          have hP_w20 := hP_w19.kp hk20 (fun e => by first | (have := (hFx _ e).1; omega) | (have := (hFy _ e).1; omega))
          have hbw_w20 := hbw_w19.kp hk20 (fun e => by first | (have := (hFx _ e).1; omega) | (have := (hFy _ e).1; omega))
          have hbb_w20 := hbb_w19.kp hk20 (fun e => by first | (have := (hFx _ e).1; omega) | (have := (hFy _ e).1; omega))
          have hkl0_w20 := hkl0_w19.comp hk20 (fun b h e => by first | (have := (hFx _ e).1; omega) | (have := (hFy _ e).1; omega))
          have hkl1_w20 := hkl1_w19.comp hk20 (fun b h e => by first | (have := (hFx _ e).1; omega) | (have := (hFy _ e).1; omega))
          have hay_w20 := hay_w19.kp hk20 (fun b h e => hxy b e h) (fun b h e => by have := (hFx b e).1; omega)
          have hs20 := hk20.size
          replace ha20 := ha20.tight
          refine wl_valE (v := v20) rfl (rf_assign rfl) rfl ?_
          refine wl_nil ?_
          refine thn ?_
          refine region_ ?_
          refine wl_valE (v := vy) rfl (rf_move rfl) rfl ?_
          refine wl_buildSlice (css := [[.bool false]]) Try.underlying28 ti4 rfl rfl rfl (.cons rfl rfl rfl rfl rfl rfl .nil) (by simp) ?_
          intro b21 w21 hg21 hk21 hb21
          have ne21_bc : bc ≠ b21 := Nat.ne_of_lt (Nat.lt_of_lt_of_le hC_w20.lt hg21)
          have ne21_bp : bp ≠ b21 := Nat.ne_of_lt (Nat.lt_of_lt_of_le hP_w20.lt hg21)
          have ne21_bw : bw ≠ b21 := Nat.ne_of_lt (Nat.lt_of_lt_of_le hbw_w20.lt hg21)
          have ne21_bb : bb ≠ b21 := Nat.ne_of_lt (Nat.lt_of_lt_of_le hbb_w20.lt hg21)
          have hv_w21 := hv_w20.keep hk21
          have hp_w21 := hp_w20.keep hk21
          have hkw_w21 := hkw_w20.comp hk21 (fun _ _ e => e.elim)
          have hC_w21 := hC_w20.keep hk21
          have hP_w21 := hP_w20.keep hk21
          have hbw_w21 := hbw_w20.keep hk21
          have hbb_w21 := hbb_w20.keep hk21
          have hkl0_w21 := hkl0_w20.comp hk21 (fun _ _ e => e.elim)
          have hkl1_w21 := hkl1_w20.comp hk21 (fun _ _ e => e.elim)
          have hay_w21 := hay_w20.keep hk21
          have hax_w21 := ha20.keep hk21
          have hs21 := hk21.size
          refine wl_appendAp encB_len encB_one Try.underlying28 ti4 rfl rfl rfl rfl rfl (hay_w21) ((SlAt.of_blk (l := [false]) encB_len (by simp) hb21).rd (F := fun b => b = b21) rfl) (by simp) (by simp; omega) (by simp; omega) ?_
          intro v22 w22 hk22 ha22
          have hv_w22 := hv_w21.kp hk22 (fun b h e => by have := hF b h; first | (have := (hFx _ e).1; omega) | (have := (hFy _ e).1; omega))
          have hp_w22 := hp_w21.kp hk22 (fun b h e => by have := hF b h; first | (have := (hFx _ e).1; omega) | (have := (hFy _ e).1; omega))
          have hkw_w22 := hkw_w21.comp hk22 (fun b h e => by first | (have := (hFx _ e).1; omega) | (have := (hFy _ e).1; omega))
          have hC_w22 := hC_w21.kp hk22 (fun e => by first | (have := (hFx _ e).1; omega) | (have := (hFy _ e).1; omega))
          have hP_w22 := hP_w21.kp hk22 (fun e => by first | (have := (hFx _ e).1; omega) | (have := (hFy _ e).1; omega))
          have hbw_w22 := hbw_w21.kp hk22 (fun e => by first | (have := (hFx _ e).1; omega) | (have := (hFy _ e).1; omega))
          have hbb_w22 := hbb_w21.kp hk22 (fun e => by first | (have := (hFx _ e).1; omega) | (have := (hFy _ e).1; omega))
          have hkl0_w22 := hkl0_w21.comp hk22 (fun b h e => by first | (have := (hFx _ e).1; omega) | (have := (hFy _ e).1; omega))
          have hkl1_w22 := hkl1_w21.comp hk22 (fun b h e => by first | (have := (hFx _ e).1; omega) | (have := (hFy _ e).1; omega))
          have hax_w22 := hax_w21.kp hk22 (fun b h e => h.1.elim (fun h => hxy b h e) (fun h => by have := (hFy b e).2; omega))
          have hs22 := hk22.size
          replace ha22 := ha22.tight
          refine wl_valE (v := v22) rfl (rf_assign rfl) rfl ?_
          refine wl_nil ?_
          refine bln ?_
          refine thn ?_
          refine region_ ?_
          refine wl_valE (v := .int .i64 ((k : Nat) : Int)) rfl (rf_move rfl) rfl ?_
          refine wl_valE (v := .int .i64 ((k + 1 : Nat) : Int)) rfl (rf_add rfl rfl rfl rfl (IntWalk.i64_in _ (by omega))) rfl ?_
          refine wl_valE (v := .int .i64 ((k + 1 : Nat) : Int)) rfl (rf_assign rfl) rfl ?_
          refine wl_nil ?_
          refine thn ?_
          refine ⟨lk1 - 1, _, rfl, (by omega), _, k + 1, (v20), (v22), (fun b => (Fx b ∨ w19.heap.size ≤ b) ∧ b < w20.heap.size), (fun b => (Fy b ∨ w21.heap.size ≤ b) ∧ b < w22.heap.size), upds_self ⟨rfl, rfl, rfl, rfl, rfl, rfl, trivial⟩, ?_⟩
          refine ⟨by omega, by rw [← rep_succ]; exact .inl hax_w22, by rw [← rep_succ]; exact .inl ha22, fun b h => ?_, fun b h => ?_, fun b h1 h2 => ?_, hkl1_w22⟩
          · rcases h with ⟨h | h, h2⟩
            · have := hFx b h; exact ⟨by omega, by omega⟩
            · exact ⟨by omega, by omega⟩
          · rcases h with ⟨h | h, h2⟩
            · have := hFy b h; exact ⟨by omega, by omega⟩
            · exact ⟨by omega, by omega⟩
          · rcases h1 with ⟨h1 | h1, h3⟩ <;> rcases h2 with ⟨h2 | h2, h4⟩
            · exact hxy b h1 h2
            · have := hFx b h1; omega
            · have := hFy b h2; omega
            · omega
        · have c114p := of_decide_eq_false c114
          obtain rfl : k = 40 := by omega
          obtain ⟨bx, ox, xcap, ex, hxcap, hGx, hltx, hcx⟩ := hax.rd.get (by simp)
          obtain ⟨by_, oy, ycap, ey, hycap, hGy, hlty, hcy⟩ := hay.rd.get (by simp)
          rw [show (D.map (fun b => !b) ++ List.replicate 40 true).length = D.length + 40 from by simp] at ex hxcap
          rw [show (D ++ List.replicate 40 false).length = D.length + 40 from by simp] at ey hycap
          subst ex ey
          refine exit_ ?_
          refine thx (thx (blx ?_))
          refine thn ?_
          refine seq_ ?_
          refine seq_ ?_
          refine region_ ?_
          refine wl_valE (v := .int .i64 ((0 : Nat) : Int)) rfl (rf_assign rfl) rfl ?_
          refine wl_nil ?_
          refine thn ?_
          refine block_ ?_
          refine loop_ (fun lk lf lw => ∃ (g : Nat → Value) (i : Nat), lf = upds g [(9, .slice (some ⟨bw, 0, none⟩) D.length D.length), (11, .slice (some ⟨bb, 0, none⟩) D.length D.length), (13, .slice (some ⟨bx, ox, none⟩) (D.length + 40) xcap), (14, .slice (some ⟨by_, oy, none⟩) (D.length + 40) ycap), (16, .int .i64 ((i : Nat) : Int))] ∧ i + lk = D.length + 40 ∧ Kp (none_) wm lw) (D.length + 40) ?_ ?_
          · refine ⟨_, 0, upds_self ⟨rfl, rfl, rfl, rfl, rfl, trivial⟩, ?_⟩
            exact ⟨by omega, Kp.refl _⟩
          · intro lk2 lf2 wo hI2
            obtain ⟨gl2, i, rfl, hio, hkl2⟩ := hI2
            have hv_wo := hv_wm.keep hkl2
            have hp_wo := hp_wm.keep hkl2
            have hkw_wo := hkw_wm.comp hkl2 (fun _ _ e => e.elim)
            have hC_wo := hC_wm.keep hkl2
            have hP_wo := hP_wm.keep hkl2
            have hbw_wo := hbw_wm.keep hkl2
            have hbb_wo := hbb_wm.keep hkl2
            have hkl0_wo := hkl0_wm.comp hkl2 (fun _ _ e => e.elim)
            have hkl1_wo := hkl1.comp hkl2 (fun _ _ e => e.elim)
            have hso := hkl2.size
            refine seq_ ?_
            refine seq_ ?_
            refine region_ ?_
            refine wl_valE (v := .int .i64 ((i : Nat) : Int)) rfl (rf_move rfl) rfl ?_
            refine wl_valE (v := .slice (some ⟨bx, ox, none⟩) (D.length + 40) xcap) rfl (rf_move rfl) rfl ?_
            refine wl_valE (v := .int .i64 (((D.length + 40) : Nat) : Int)) rfl (rf_len_slice Try.underlying28 rfl rfl) rfl ?_
            refine wl_valE (v := .bool (decide (((i : Nat) : Int) < (((D.length + 40) : Nat) : Int)))) rfl (rf_lss rfl rfl rfl rfl) rfl ?_
            refine wl_nil ?_
            refine thn ?_
            refine cond_ (t := decide (((i : Nat) : Int) < (((D.length + 40) : Nat) : Int))) rfl rfl (fun c126 => ?_) (fun c126 => ?_)
            · have c126p := of_decide_eq_true c126
              refine skip_ ?_
              refine thn ?_
              refine seq_ ?_
              refine block_ ?_
              refine seq_ ?_
              refine region_q mixedP (by kernel_rfl) ?_
              refine qt_valE (v := .int .i64 ((i : Nat) : Int)) rfl (fun wq hq => rf_move rfl) rfl ?_
              refine qt_valE (v := .slice (some ⟨bw, 0, none⟩) D.length D.length) rfl (fun wq hq => rf_move rfl) rfl ?_
              refine qt_valE (v := .int .i64 ((D.length : Nat) : Int)) rfl (fun wq hq => rf_len_slice Try.underlying28 rfl rfl) rfl ?_
              refine qt_valE (v := .bool (decide (((i : Nat) : Int) < ((D.length : Nat) : Int)))) rfl (fun wq hq => rf_lss rfl rfl rfl rfl) rfl ?_
              refine qt_valE (v := .bool (decide (((i : Nat) : Int) < ((D.length : Nat) : Int)))) rfl (fun wq hq => rf_move rfl) rfl ?_
              refine qt_split (decide (((i : Nat) : Int) < ((D.length : Nat) : Int))) (fun u21_4 => ?_) (fun u21_4 => ?_)
              · have u21_4p := of_decide_eq_true u21_4
                obtain ⟨x, hx⟩ : ∃ x, D[i]? = some x := ⟨_, List.getElem?_eq_getElem (by omega)⟩
                refine qt_guardT rfl rfl rfl u21_4 ?_
                refine qt_valE (v := .slice (some ⟨bx, ox, none⟩) (D.length + 40) xcap) rfl (fun wq hq => rf_move rfl) rfl ?_
                refine qt_guardT rfl rfl rfl u21_4 ?_
                refine qt_valE (v := .int .i64 ((i : Nat) : Int)) rfl (fun wq hq => rf_move rfl) rfl ?_
                refine qt_guardT rfl rfl rfl u21_4 ?_
                refine qt_valE (v := .pointer (some ⟨bx, ox + i, none⟩)) rfl (fun wq hq => rf_indexAddr Try.underlying28 ti4 rfl rfl rfl rfl (by omega) (by omega)) (by simp) ?_
                refine qt_guardT rfl rfl rfl u21_4 ?_
                refine qt_valE (v := .bool (!x)) rfl (fun wq hq => rf_load Try.underlying4 rfl rfl rfl (hq.cell (hkl2.cell (el1 (hcx i (!x) (tail_lt (map_get hx)) 0 _ rfl)) (fun h => h)) (fun h => h))) rfl ?_
                refine qt_guardT rfl rfl rfl u21_4 ?_
                refine qt_valE (v := .slice (some ⟨bw, 0, none⟩) D.length D.length) rfl (fun wq hq => rf_move rfl) rfl ?_
                refine qt_guardT rfl rfl rfl u21_4 ?_
                refine qt_valE (v := .int .i64 ((i : Nat) : Int)) rfl (fun wq hq => rf_move rfl) rfl ?_
                refine qt_guardT rfl rfl rfl u21_4 ?_
                refine qt_valE (v := .pointer (some ⟨bw, i, none⟩)) rfl (fun wq hq => rf_indexAddr Try.underlying28 ti4 rfl rfl rfl rfl (by omega) (by omega)) (by simp) ?_
                refine qt_guardT rfl rfl rfl u21_4 ?_
                refine qt_valE (v := .bool x) rfl (fun wq hq => rf_load Try.underlying4 rfl rfl rfl (hq.cell (hbw_wo.cell (i := i) (v := .bool x) (by simp [hx])) (fun h => h))) rfl ?_
                refine qt_guardT rfl rfl rfl u21_4 ?_
                refine qt_valE (v := .bool false) rfl (fun wq hq => rf_eqlB Try.underlying4 rfl rfl rfl rfl) (congrArg Value.bool (by cases x <;> decide)) ?_
                refine qt_guardT rfl rfl rfl u21_4 ?_
                refine qt_valE (v := .bool false) rfl (fun wq hq => rf_move rfl) rfl ?_
                refine qt_guardT rfl rfl rfl rfl ?_
                refine qt_valE (v := .slice (some ⟨by_, oy, none⟩) (D.length + 40) ycap) rfl (fun wq hq => rf_move rfl) rfl ?_
                refine qt_guardT rfl rfl rfl rfl ?_
                refine qt_valE (v := .int .i64 ((i : Nat) : Int)) rfl (fun wq hq => rf_move rfl) rfl ?_
                refine qt_guardT rfl rfl rfl rfl ?_
                refine qt_valE (v := .pointer (some ⟨by_, oy + i, none⟩)) rfl (fun wq hq => rf_indexAddr Try.underlying28 ti4 rfl rfl rfl rfl (by omega) (by omega)) (by simp) ?_
                refine qt_guardT rfl rfl rfl rfl ?_
                refine qt_valE (v := .bool x) rfl (fun wq hq => rf_load Try.underlying4 rfl rfl rfl (hq.cell (hkl2.cell (el1 (hcy i x (tail_lt hx) 0 _ rfl)) (fun h => h)) (fun h => h))) rfl ?_
                refine qt_guardT rfl rfl rfl rfl ?_
                refine qt_valE (v := .slice (some ⟨bw, 0, none⟩) D.length D.length) rfl (fun wq hq => rf_move rfl) rfl ?_
                refine qt_guardT rfl rfl rfl rfl ?_
                refine qt_valE (v := .int .i64 ((i : Nat) : Int)) rfl (fun wq hq => rf_move rfl) rfl ?_
                refine qt_guardT rfl rfl rfl rfl ?_
                refine qt_valE (v := .pointer (some ⟨bw, i, none⟩)) rfl (fun wq hq => rf_indexAddr Try.underlying28 ti4 rfl rfl rfl rfl (by omega) (by omega)) (by simp) ?_
                refine qt_guardT rfl rfl rfl rfl ?_
                refine qt_valE (v := .bool x) rfl (fun wq hq => rf_load Try.underlying4 rfl rfl rfl (hq.cell (hbw_wo.cell (i := i) (v := .bool x) (by simp [hx])) (fun h => h))) rfl ?_
                refine qt_guardT rfl rfl rfl rfl ?_
                refine qt_valE (v := .bool false) rfl (fun wq hq => rf_neqB Try.underlying4 rfl rfl rfl rfl) (congrArg Value.bool (by simp)) ?_
                refine qt_guardT rfl rfl rfl u21_4 ?_
                refine qt_valE (v := .bool false) rfl (fun wq hq => rf_pickF rfl rfl rfl rfl) rfl ?_
                refine qt_valE (v := .bool false) rfl (fun wq hq => rf_pickT rfl rfl rfl u21_4) rfl ?_
                refine qt_valE (v := .bool false) rfl (fun wq hq => rf_move rfl) rfl ?_
                refine qt_guardT rfl rfl rfl rfl ?_
                refine qt_valE (v := .int .i64 ((i : Nat) : Int)) rfl (fun wq hq => rf_move rfl) rfl ?_
                refine qt_guardT rfl rfl rfl rfl ?_
                refine qt_valE (v := .slice (some ⟨bw, 0, none⟩) D.length D.length) rfl (fun wq hq => rf_move rfl) rfl ?_
                refine qt_guardT rfl rfl rfl rfl ?_
                refine qt_valE (v := .int .i64 ((D.length : Nat) : Int)) rfl (fun wq hq => rf_len_slice Try.underlying28 rfl rfl) rfl ?_
                refine qt_guardT rfl rfl rfl rfl ?_
                refine qt_valE (v := .bool false) rfl (fun wq hq => rf_geq rfl rfl rfl rfl) (congrArg Value.bool (by simp; omega)) ?_
                refine qt_guardT rfl rfl rfl rfl ?_
                refine qt_valE (v := .bool false) rfl (fun wq hq => rf_move rfl) rfl ?_
                refine qt_guardF rfl rfl rfl rfl ?_
                refine qt_guardF rfl rfl rfl rfl ?_
                refine qt_guardF rfl rfl rfl rfl ?_
                refine qt_guardF rfl rfl rfl rfl ?_
                refine qt_guardF rfl rfl rfl rfl ?_
                refine qt_guardF rfl rfl rfl rfl ?_
                refine qt_guardS rfl rfl rfl ?_
                refine qt_guardS rfl rfl rfl ?_
                refine qt_guardS rfl rfl rfl ?_
                refine qt_guardS rfl rfl rfl ?_
                refine qt_guardF rfl rfl rfl rfl ?_
                refine qt_guardT rfl rfl rfl rfl ?_
                refine qt_valE (v := .bool false) rfl (fun wq hq => rf_pickF rfl rfl rfl rfl) rfl ?_
                refine qt_valE (v := .bool false) rfl (fun wq hq => rf_pickF rfl rfl rfl rfl) rfl ?_
                refine qt_nil ?_
                intro w23 hk23
                have hv_w23 := hv_wo.keep hk23
                have hp_w23 := hp_wo.keep hk23
                have hkw_w23 := hkw_wo.comp hk23 (fun _ _ e => e.elim)
                have hC_w23 := hC_wo.keep hk23
                have hP_w23 := hP_wo.keep hk23
                have hbw_w23 := hbw_wo.keep hk23
                have hbb_w23 := hbb_wo.keep hk23
                have hkl0_w23 := hkl0_wo.comp hk23 (fun _ _ e => e.elim)
                have hkl1_w23 := hkl1_wo.comp hk23 (fun _ _ e => e.elim)
                have hkl2_w23 := hkl2.comp hk23 (fun _ _ e => e.elim)
                have hs23 := hk23.size
                refine thn ?_
                refine condF rfl rfl ?_
                refine skip_ ?_
                refine bln ?_
                refine thn ?_
                refine region_ ?_
                refine wl_valE (v := .int .i64 ((i : Nat) : Int)) rfl (rf_move rfl) rfl ?_
                refine wl_valE (v := .int .i64 ((i + 1 : Nat) : Int)) rfl (rf_add rfl rfl rfl rfl (IntWalk.i64_in _ (by omega))) rfl ?_
                refine wl_valE (v := .int .i64 ((i + 1 : Nat) : Int)) rfl (rf_assign rfl) rfl ?_
                refine wl_nil ?_
                refine thn ?_
                refine ⟨lk2 - 1, _, rfl, (by omega), _, i + 1, upds_self ⟨rfl, rfl, rfl, rfl, rfl, trivial⟩, ?_⟩
                exact ⟨by omega, hkl2_w23⟩
              · have u21_4p := of_decide_eq_false u21_4
                refine qt_guardF rfl rfl rfl u21_4 ?_
                refine qt_guardF rfl rfl rfl u21_4 ?_
                refine qt_guardF rfl rfl rfl u21_4 ?_
                refine qt_guardF rfl rfl rfl u21_4 ?_
                refine qt_guardF rfl rfl rfl u21_4 ?_
                refine qt_guardF rfl rfl rfl u21_4 ?_
                refine qt_guardF rfl rfl rfl u21_4 ?_
                refine qt_guardF rfl rfl rfl u21_4 ?_
                refine qt_guardF rfl rfl rfl u21_4 ?_
                refine qt_guardF rfl rfl rfl u21_4 ?_
                refine qt_guardS rfl rfl rfl ?_
                refine qt_guardS rfl rfl rfl ?_
                refine qt_guardS rfl rfl rfl ?_
                refine qt_guardS rfl rfl rfl ?_
                refine qt_guardS rfl rfl rfl ?_
                refine qt_guardS rfl rfl rfl ?_
                refine qt_guardS rfl rfl rfl ?_
                refine qt_guardS rfl rfl rfl ?_
                refine qt_guardS rfl rfl rfl ?_
                refine qt_guardF rfl rfl rfl u21_4 ?_
                refine qt_valE (v := .bool false) rfl (fun wq hq => rf_pickF rfl rfl rfl u21_4) rfl ?_
                refine qt_valE (v := .bool false) rfl (fun wq hq => rf_move rfl) rfl ?_
                refine qt_guardT rfl rfl rfl rfl ?_
                refine qt_valE (v := .int .i64 ((i : Nat) : Int)) rfl (fun wq hq => rf_move rfl) rfl ?_
                refine qt_guardT rfl rfl rfl rfl ?_
                refine qt_valE (v := .slice (some ⟨bw, 0, none⟩) D.length D.length) rfl (fun wq hq => rf_move rfl) rfl ?_
                refine qt_guardT rfl rfl rfl rfl ?_
                refine qt_valE (v := .int .i64 ((D.length : Nat) : Int)) rfl (fun wq hq => rf_len_slice Try.underlying28 rfl rfl) rfl ?_
                refine qt_guardT rfl rfl rfl rfl ?_
                refine qt_valE (v := .bool true) rfl (fun wq hq => rf_geq rfl rfl rfl rfl) (congrArg Value.bool (by simp; omega)) ?_
                refine qt_guardT rfl rfl rfl rfl ?_
                refine qt_valE (v := .bool true) rfl (fun wq hq => rf_move rfl) rfl ?_
                refine qt_guardT rfl rfl rfl rfl ?_
                refine qt_valE (v := .slice (some ⟨bx, ox, none⟩) (D.length + 40) xcap) rfl (fun wq hq => rf_move rfl) rfl ?_
                refine qt_guardT rfl rfl rfl rfl ?_
                refine qt_valE (v := .int .i64 ((i : Nat) : Int)) rfl (fun wq hq => rf_move rfl) rfl ?_
                refine qt_guardT rfl rfl rfl rfl ?_
                refine qt_valE (v := .pointer (some ⟨bx, ox + i, none⟩)) rfl (fun wq hq => rf_indexAddr Try.underlying28 ti4 rfl rfl rfl rfl (by omega) (by omega)) (by simp) ?_
                refine qt_guardT rfl rfl rfl rfl ?_
                refine qt_valE (v := .bool true) rfl (fun wq hq => rf_load Try.underlying4 rfl rfl rfl (hq.cell (hkl2.cell (el1 (hcx i true (tail_ge (by simp; omega) (by simp; omega)) 0 _ rfl)) (fun h => h)) (fun h => h))) rfl ?_
                refine qt_guardT rfl rfl rfl rfl ?_
                refine qt_valE (v := .bool false) rfl (fun wq hq => rf_not rfl rfl) rfl ?_
                refine qt_guardT rfl rfl rfl rfl ?_
                refine qt_valE (v := .bool false) rfl (fun wq hq => rf_move rfl) rfl ?_
                refine qt_guardT rfl rfl rfl rfl ?_
                refine qt_valE (v := .slice (some ⟨by_, oy, none⟩) (D.length + 40) ycap) rfl (fun wq hq => rf_move rfl) rfl ?_
                refine qt_guardT rfl rfl rfl rfl ?_
                refine qt_valE (v := .int .i64 ((i : Nat) : Int)) rfl (fun wq hq => rf_move rfl) rfl ?_
                refine qt_guardT rfl rfl rfl rfl ?_
                refine qt_valE (v := .pointer (some ⟨by_, oy + i, none⟩)) rfl (fun wq hq => rf_indexAddr Try.underlying28 ti4 rfl rfl rfl rfl (by omega) (by omega)) (by simp) ?_
                refine qt_guardT rfl rfl rfl rfl ?_
                refine qt_valE (v := .bool false) rfl (fun wq hq => rf_load Try.underlying4 rfl rfl rfl (hq.cell (hkl2.cell (el1 (hcy i false (tail_ge (by omega) (by omega)) 0 _ rfl)) (fun h => h)) (fun h => h))) rfl ?_
                refine qt_guardT rfl rfl rfl rfl ?_
                refine qt_valE (v := .bool false) rfl (fun wq hq => rf_pickF rfl rfl rfl rfl) rfl ?_
                refine qt_guardT rfl rfl rfl rfl ?_
                refine qt_valE (v := .bool false) rfl (fun wq hq => rf_pickT rfl rfl rfl rfl) rfl ?_
                refine qt_valE (v := .bool false) rfl (fun wq hq => rf_pickF rfl rfl rfl rfl) rfl ?_
                refine qt_nil ?_
                intro w24 hk24
                have hv_w24 := hv_wo.keep hk24
                have hp_w24 := hp_wo.keep hk24
                have hkw_w24 := hkw_wo.comp hk24 (fun _ _ e => e.elim)
                have hC_w24 := hC_wo.keep hk24
                have hP_w24 := hP_wo.keep hk24
                have hbw_w24 := hbw_wo.keep hk24
                have hbb_w24 := hbb_wo.keep hk24
                have hkl0_w24 := hkl0_wo.comp hk24 (fun _ _ e => e.elim)
                have hkl1_w24 := hkl1_wo.comp hk24 (fun _ _ e => e.elim)
                have hkl2_w24 := hkl2.comp hk24 (fun _ _ e => e.elim)
                have hs24 := hk24.size
                refine thn ?_
                refine condF rfl rfl ?_
                refine skip_ ?_
                refine bln ?_
                refine thn ?_
                refine region_ ?_
                refine wl_valE (v := .int .i64 ((i : Nat) : Int)) rfl (rf_move rfl) rfl ?_
                refine wl_valE (v := .int .i64 ((i + 1 : Nat) : Int)) rfl (rf_add rfl rfl rfl rfl (IntWalk.i64_in _ (by omega))) rfl ?_
                refine wl_valE (v := .int .i64 ((i + 1 : Nat) : Int)) rfl (rf_assign rfl) rfl ?_
                refine wl_nil ?_
                refine thn ?_
                refine ⟨lk2 - 1, _, rfl, (by omega), _, i + 1, upds_self ⟨rfl, rfl, rfl, rfl, rfl, trivial⟩, ?_⟩
                exact ⟨by omega, hkl2_w24⟩
            · have c126p := of_decide_eq_false c126
              refine exit_ ?_
              refine thx (thx (blx ?_))
              refine thn ?_
              refine seq_ ?_
              refine region_ ?_
              refine wl_valE (v := .slice (some ⟨bb, 0, none⟩) D.length D.length) rfl (rf_move rfl) rfl ?_
              refine wl_valE (v := .slice (some ⟨bw, 0, none⟩) D.length D.length) rfl (rf_move rfl) rfl ?_
              refine wl_ret rfl (sameBools_ret _ _ true (fun b => b = bb) (fun b => b = bw) D D wo ((SlAt.bools (f := encB) (fun x => rfl) (by omega) hbb_wo).rd (F := fun b => b = bb) rfl) ((SlAt.bools (f := encB) (fun x => rfl) (by omega) hbw_wo).rd (F := fun b => b = bw) rfl) (by omega) (by simp)) (rf_call Try.call6 rfl rfl) ?_
              rintro _ w25 ⟨rfl, hk25⟩
              have hv_w25 := hv_wo.keep hk25
              have hp_w25 := hp_wo.keep hk25
              have hkw_w25 := hkw_wo.comp hk25 (fun _ _ e => e.elim)
              have hC_w25 := hC_wo.keep hk25
              have hP_w25 := hP_wo.keep hk25
              have hbw_w25 := hbw_wo.keep hk25
              have hbb_w25 := hbb_wo.keep hk25
              have hkl0_w25 := hkl0_wo.comp hk25 (fun _ _ e => e.elim)
              have hkl1_w25 := hkl1_wo.comp hk25 (fun _ _ e => e.elim)
              have hkl2_w25 := hkl2.comp hk25 (fun _ _ e => e.elim)
              have hs25 := hk25.size
              refine wl_valE (v := .bool true) rfl (rf_assign rfl) rfl ?_
              refine wl_nil ?_
              refine thn ?_
              refine ret_ ?_
              refine fin1 (v := .bool true) Try.results3 rfl rfl ?_
              exact ⟨rfl, hkw_w25⟩
end Go.Proofs.Ytbmhoopgdhajeaa.W
