import Derived.Test.YtngpghddmehmhaaL1Z
import Derived.KernelRfl
namespace Go.Proofs.Ytngpghddmehmhaa.W
open Go Go.Wk
set_option linter.unusedVariables false
theorem fndZ_mem {S : List SlotZ} (hn : (S.map (·.key)).Nodup) {s : SlotZ} (hs : s ∈ S) : fndZ S s.key = some s := by
  unfold fndZ
  cases hf : S.find? (fun q => decide (q.key = s.key)) with
  | none => rw [List.find?_eq_none] at hf; simpa using hf s hs
  | some q => rw [nodup_keyZ hn (List.mem_of_find?_eq_some hf) hs (by simpa using List.find?_some hf)]
theorem inpZ_el {S : List SlotZ} {m q : Nat} {R : List SlotZ} (hR : R = S.filter (inPZ m (q : Int))) {j : Nat} {s : SlotZ} (hs : R[j]? = some s) : nilF s.key % m = q ∧ s ∈ S := by
  have h1 := List.mem_of_getElem? hs
  rw [hR, List.mem_filter] at h1
  have h2 : ((nilF s.key % m : Nat) : Int) = (q : Int) := by simpa [inPZ] using h1.2
  exact ⟨by omega, h1.1⟩
theorem rowZ_ne {S : List SlotZ} (hn : (S.map (·.key)).Nodup) {m : Nat} {p : Int} {R : List SlotZ} (hR : R = S.filter (inPZ m p)) {i j : Nat} {a b : SlotZ} (hi : R[i]? = some a) (hj : R[j]? = some b) (hij : i ≠ j) : a.key ≠ b.key := fun e => by
  have h1 : (R.map (·.key)).Nodup := by rw [hR]; exact hn.sublist (List.filter_sublist.map _)
  exact hij (nodup_inj h1 (i := i) (j := j) (x := a.key) (by rw [List.getElem?_map, hi]; rfl) (by rw [List.getElem?_map, hj, Option.map_some, e]))
set_option maxRecDepth 100000 in
set_option maxHeartbeats 4000000 in
theorem listedZ_ret (b bp : Nat) (rs : List Nat) (ls : List (List (ByteArray × SlotZ))) (S : List SlotZ) (came n : Int) (w : World) (hd : DictZ w b bp rs ls came n) (hI : DIZ ls S came n) (K : List ByteArray) (A : List PairV) (hO : OdZ S K A) (hK : ∀ k ∈ K, k.size ≤ 9223372036854775807) (v1 v2 : Value) (F1 F2 : Nat → Prop) (h1 : Rd encStr 1 w F1 v1 K) (h2 : Rd encPV 2 w F2 v2 A) (hF1 : ∀ y, F1 y → y < w.heap.size) (hF2 : ∀ y, F2 y → y < w.heap.size) (hc : came ≤ 4611686018427387903) (hS : S.length ≤ 2932031007400) (hm : ls.length ≤ 256) : Ret Try.prog 10 [.pointer (some ⟨b, 0, none⟩), v1, v2] w fun v w' => v = .bool true ∧ Kp none_ w w' := by
  have hkw : Kp none_ w w := Kp.refl w
  have hdd := hd
  have hll0 := hd.len
  have hpos := hI.pos
  have hcnt := hI.cnt
  have hOl := hO.len
  obtain ⟨a1, c1, rfl, hc1⟩ := h1.form
  obtain ⟨a2, c2, rfl, hc2⟩ := h2.form
  have hcm := hI.cameOk hc
  have hln : ∀ l ∈ ls, l.length ≤ 2932031007401 := fun l hl => Nat.le_trans (hI.lens l hl) (by omega)
  have hsS : ∀ s ∈ S, s.key.size ≤ 9223372036854775807 := fun s hs => hK _ (by rw [← hO.keys]; exact List.mem_map.2 ⟨s, hs, rfl⟩)
  refine enterR Try.func10 rfl Try.ntmps10 rfl ?_
  intro g0
  refine seq_ ?_
  refine region_ ?_
  refine wl_valE (v := .bool false) rfl (rf_assign rfl) rfl ?_
  refine wl_nil ?_
  refine thn ?_
  refine seq_ ?_
  refine region_ ?_
  refine wl_valE (v := .pointer (some ⟨b, 0, none⟩)) rfl (rf_move rfl) rfl ?_
  refine wl_ret rfl (keysZ_ret b bp rs ls came n w hdd 0 hcm hln) (rf_call Try.call14 rfl rfl) ?_
  rintro vq w1 ⟨R1, hR1, hka, hk1⟩
  obtain rfl : R1 = S := (hI.row hR1).trans (List.filter_eq_self.2 (fun s _ => by simp [inPZ, nilF]))
  obtain ⟨Aa, Ac, hAv, hAc⟩ := hka.form
  rw [List.length_map] at hAv hAc
  subst hAv
  skip
  have hdd_w1 := hdd.keep hk1
  have h1_w1 := h1.keep hk1
  have h2_w1 := h2.keep hk1
  have hkw_w1 := hkw.comp hk1 (fun _ _ e => e.elim)
  have hs1 := hk1.size
  refine wl_valE (v := .slice Aa R1.length Ac) rfl (rf_assign rfl) rfl ?_
  refine wl_nil ?_
  refine thn ?_
  refine seq_ ?_
  refine seq_ ?_
  refine region_ ?_
  refine wl_valE (v := .slice Aa R1.length Ac) rfl (rf_move rfl) rfl ?_
  refine wl_valE (v := .int .i64 ((R1.length : Nat) : Int)) rfl (rf_len_slice Try.underlying31 rfl rfl) rfl ?_
  refine wl_valE (v := .slice a1 K.length c1) rfl (rf_move rfl) rfl ?_
  refine wl_valE (v := .int .i64 ((K.length : Nat) : Int)) rfl (rf_len_slice Try.underlying31 rfl rfl) rfl ?_
  refine wl_valE (v := .bool false) rfl (rf_neq rfl rfl rfl rfl) (congrArg Value.bool (decide_eq_false (by omega))) ?_
  refine wl_nil ?_
  refine thn ?_
  refine condF rfl rfl ?_
  refine skip_ ?_
  refine thn ?_
  refine seq_ ?_
  refine seq_ ?_
  refine region_ ?_
  refine wl_valE (v := .int .i64 ((0 : Nat) : Int)) rfl (rf_assign rfl) rfl ?_
  refine wl_nil ?_
  refine thn ?_
  refine block_ ?_
  refine loop_ (fun lk lf lw => ∃ (g : Nat → Value) (j : Nat), lf = upds g [(0, .pointer (some ⟨b, 0, none⟩)), (1, .slice a1 K.length c1), (2, .slice a2 A.length c2), (7, .slice Aa R1.length Ac), (8, .int .i64 ((j : Nat) : Int))] ∧ j + lk = R1.length ∧ Kp (none_) w1 lw) (R1.length) ?_ ?_
  · refine ⟨_, 0, upds_self ⟨rfl, rfl, rfl, rfl, rfl, trivial⟩, ?_⟩
    exact ⟨by omega, Kp.refl _⟩
  · intro lk0 lf0 wl hI0
    obtain ⟨gl0, j, rfl, hjk, hkl0⟩ := hI0
    have hdd_wl := hdd_w1.keep hkl0
    have h1_wl := h1_w1.keep hkl0
    have h2_wl := h2_w1.keep hkl0
    have hkw_wl := hkw_w1.comp hkl0 (fun _ _ e => e.elim)
    have hka_wl := hka.keep hkl0
    have hsl := hkl0.size
    refine seq_ ?_
    refine seq_ ?_
    refine region_ ?_
    refine wl_valE (v := .int .i64 ((j : Nat) : Int)) rfl (rf_move rfl) rfl ?_
    refine wl_valE (v := .slice Aa R1.length Ac) rfl (rf_move rfl) rfl ?_
    refine wl_valE (v := .int .i64 ((R1.length : Nat) : Int)) rfl (rf_len_slice Try.underlying31 rfl rfl) rfl ?_
    refine wl_valE (v := .bool (decide (((j : Nat) : Int) < ((R1.length : Nat) : Int)))) rfl (rf_lss rfl rfl rfl rfl) rfl ?_
    refine wl_nil ?_
    refine thn ?_
    refine cond_ (t := decide (((j : Nat) : Int) < ((R1.length : Nat) : Int))) rfl rfl (fun c21 => ?_) (fun c21 => ?_)
    · have c21p := of_decide_eq_true c21
      obtain ⟨s, hs⟩ : ∃ s, R1[j]? = some s := ⟨_, List.getElem?_eq_getElem (by omega)⟩
      have hkj : (R1.map (·.key))[j]? = some s.key := by rw [List.getElem?_map, hs]; rfl
      obtain ⟨Ab, Ao, Ac2, et, hAF, hAt⟩ := hka_wl.at (by rw [List.length_map]; omega)
      simp only [Value.slice.injEq] at et
      obtain ⟨rfl, _, rfl⟩ := et
      have hAF2 := hAF.2
      have hsm := List.mem_of_getElem? hs
      have hkK : K[j]? = some s.key := by rw [← hO.keys]; exact hkj
      have hay : A[j]? = some s.val := by rw [← hO.vals, List.getElem?_map, hs]; rfl
      obtain ⟨bx1, ox1, capx1, ex1, hcapx1, hFx1, hltx1, hcellx1⟩ := h1_wl.get (by omega)
      cases ex1
      obtain ⟨bx2, ox2, capx2, ex2, hcapx2, hFx2, hltx2, hcellx2⟩ := h2_wl.get (by omega)
      cases ex2
      refine skip_ ?_
      refine thn ?_
      refine seq_ ?_
      refine block_ ?_
      refine seq_ ?_
      refine region_ ?_
      refine wl_valE (v := .pointer (some ⟨b, 0, none⟩)) rfl (rf_move rfl) rfl ?_
      refine wl_valE (v := .slice (some ⟨Ab, Ao, none⟩) R1.length Ac) rfl (rf_move rfl) rfl ?_
      refine wl_valE (v := .int .i64 ((j : Nat) : Int)) rfl (rf_move rfl) rfl ?_
      refine wl_valE (v := .pointer (some ⟨Ab, Ao + j, none⟩)) rfl (rf_indexAddr Try.underlying31 ti9 rfl rfl rfl rfl (by omega) (by omega)) (by simp) ?_
      refine wl_valE (v := .string s.key) rfl (rf_load Try.underlying9 rfl rfl rfl (el1 (hAt.cell hkj 0 _ rfl))) rfl ?_
      refine wl_ret rfl (dGetZ s.key (hsS s hsm) b bp rs ls R1 came n wl hdd_wl hI) (rf_call Try.call15 rfl rfl) ?_
      rintro vq w2 ⟨hv, hk2⟩
      unfold resZ at hv
      rw [fndZ_mem hI.keys hsm] at hv
      subst hv
      have hdd_w2 := hdd_wl.keep hk2
      have h1_w2 := h1_wl.keep hk2
      have h2_w2 := h2_wl.keep hk2
      have hkw_w2 := hkw_wl.comp hk2 (fun _ _ e => e.elim)
      have hka_w2 := hka_wl.keep hk2
      have hkl0_w2 := hkl0.comp hk2 (fun _ _ e => e.elim)
      have hAt_w2 := hAt.keep hk2
      have hs2 := hk2.size
      refine wl_valE (v := .tuple #[.agg #[.int .i64 s.val.a, .int .i64 s.val.b], .bool true]) rfl (rf_move rfl) rfl ?_
      refine wl_valE (v := .agg #[.int .i64 s.val.a, .int .i64 s.val.b]) rfl (rf_extract rfl rfl rfl) rfl ?_
      refine wl_valE (v := .bool true) rfl (rf_extract rfl rfl rfl) rfl ?_
      refine wl_alloc ti28 ?_
      intro b3 w3 hg3 hk3 hb3
      have ne3_Ab : Ab ≠ b3 := Nat.ne_of_lt (Nat.lt_of_lt_of_le hAt_w2.lt hg3)
      have hdd_w3 := hdd_w2.keep hk3
      have h1_w3 := h1_w2.keep hk3
      have h2_w3 := h2_w2.keep hk3
      have hkw_w3 := hkw_w2.comp hk3 (fun _ _ e => e.elim)
      have hka_w3 := hka_w2.keep hk3
      have hkl0_w3 := hkl0_w2.comp hk3 (fun _ _ e => e.elim)
      have hAt_w3 := hAt_w2.keep hk3
      have hs3 := hk3.size
      refine wl_storeAgg (b := b3) (o := 0) (cs := [.int .i64 s.val.a, .int .i64 s.val.b]) ti28 rfl rfl rfl rfl rfl (by simp [Value.oneCell']) hb3 (Nat.le_of_ble_eq_true rfl) ?_
      intro w4 hk4 hb4
      have hdd_w4 := hdd_w3.kp hk4 (fun y hy e => by have := hd.lt y hy; omega)
      have h1_w4 := h1_w3.kp hk4 (fun y hy e => by have := hF1 y hy; omega)
      have h2_w4 := h2_w3.kp hk4 (fun y hy e => by have := hF2 y hy; omega)
      have hkw_w4 := hkw_w3.comp hk4 (fun y hy e => by omega)
      have hka_w4 := hka_w3.kp hk4 (fun y hy e => by have := hy.2; omega)
      have hkl0_w4 := hkl0_w3.comp hk4 (fun y hy e => by omega)
      have hAt_w4 := hAt_w3.kp hk4 ne3_Ab
      have hs4 := hk4.size
      replace hb4 : Blk w4 b3 (.cells #[.int .i64 s.val.a, .int .i64 s.val.b] _ (0, 0)) := hb4
      refine wl_valE (v := .bool true) rfl (rf_assign rfl) rfl ?_
      refine wl_nil ?_
      refine thn ?_
      refine seq_ ?_
      obtain ⟨by_, oy, cy, ey, _, _, _, hcelly⟩ := h1_w4.get (by omega)
      cases ey
      obtain ⟨bz, oz, cz, ez, _, _, _, hcellz⟩ := h2_w4.get (by omega)
      cases ez
      refine region_q mixedP (by kernel_rfl) ?_
      refine qt_valE (v := .slice (some ⟨Ab, Ao, none⟩) R1.length Ac) rfl (fun wq hq => rf_move rfl) rfl ?_
      refine qt_valE (v := .int .i64 ((j : Nat) : Int)) rfl (fun wq hq => rf_move rfl) rfl ?_
      refine qt_valE (v := .pointer (some ⟨Ab, Ao + j, none⟩)) rfl (fun wq hq => rf_indexAddr Try.underlying31 ti9 rfl rfl rfl rfl (by omega) (by omega)) (by simp) ?_
      refine qt_valE (v := .string s.key) rfl (fun wq hq => rf_load Try.underlying9 rfl rfl rfl (hq.cell (el1 (hAt_w4.cell hkj 0 _ rfl)) (fun h => h))) rfl ?_
      refine qt_valE (v := .slice (some ⟨bx1, ox1, none⟩) K.length c1) rfl (fun wq hq => rf_move rfl) rfl ?_
      refine qt_valE (v := .int .i64 ((j : Nat) : Int)) rfl (fun wq hq => rf_move rfl) rfl ?_
      refine qt_valE (v := .pointer (some ⟨bx1, ox1 + j, none⟩)) rfl (fun wq hq => rf_indexAddr Try.underlying31 ti9 rfl rfl rfl rfl (by omega) (by omega)) (by simp) ?_
      refine qt_valE (v := .string s.key) rfl (fun wq hq => rf_load Try.underlying9 rfl rfl rfl (hq.cell (el1 (hcelly j _ hkK 0 _ rfl)) (fun h => h))) rfl ?_
      refine qt_valE (v := .bool false) rfl (fun wq hq => rf_neqStr rfl rfl rfl rfl) (congrArg Value.bool (decide_eq_false (fun h => h rfl))) ?_
      refine qt_valE (v := .bool false) rfl (fun wq hq => rf_move rfl) rfl ?_
      refine qt_guardT rfl rfl rfl rfl ?_
      refine qt_valE (v := .bool true) rfl (fun wq hq => rf_move rfl) rfl ?_
      refine qt_guardT rfl rfl rfl rfl ?_
      refine qt_valE (v := .bool false) rfl (fun wq hq => rf_not rfl rfl) rfl ?_
      refine qt_valE (v := .bool false) rfl (fun wq hq => rf_pickF rfl rfl rfl rfl) rfl ?_
      refine qt_valE (v := .bool false) rfl (fun wq hq => rf_move rfl) rfl ?_
      refine qt_guardT rfl rfl rfl rfl ?_
      refine qt_valE (v := .agg #[.int .i64 s.val.a, .int .i64 s.val.b]) rfl (fun wq hq => rf_loadBlk Try.underlying28 rfl ti28 rfl rfl (hb4.keep hq) (Nat.le_of_ble_eq_true rfl)) rfl ?_
      refine qt_guardT rfl rfl rfl rfl ?_
      refine qt_valE (v := .slice (some ⟨bx2, ox2, none⟩) A.length c2) rfl (fun wq hq => rf_move rfl) rfl ?_
      refine qt_guardT rfl rfl rfl rfl ?_
      refine qt_valE (v := .int .i64 ((j : Nat) : Int)) rfl (fun wq hq => rf_move rfl) rfl ?_
      refine qt_guardT rfl rfl rfl rfl ?_
      refine qt_valE (v := .pointer (some ⟨bx2, ox2 + j * 2, none⟩)) rfl (fun wq hq => rf_indexAddr Try.underlying32 ti28 rfl rfl rfl rfl (by omega) (by omega)) rfl ?_
      refine qt_guardT rfl rfl rfl rfl ?_
      refine qt_valE (v := .agg #[.int .i64 s.val.a, .int .i64 s.val.b]) rfl (fun wq hq => rf_loadAgg Try.underlying28 rfl ti28 rfl rfl (fun jq uq hjq => hq.cell ((el_cells (hcellz j _ hay)) jq uq hjq) (fun h => h)) rfl) rfl ?_
      refine qt_guardT rfl rfl rfl rfl ?_
      refine qt_valE (v := .bool false) rfl (fun wq hq => rf_neqS (by kernel_rfl) (eqPV s.val s.val _) rfl rfl rfl rfl) (congrArg Value.bool (by simp)) ?_
      refine qt_valE (v := .bool false) rfl (fun wq hq => rf_pickF rfl rfl rfl rfl) rfl ?_
      refine qt_nil ?_
      intro w5 hk5
      have hdd_w5 := hdd_w4.keep hk5
      have h1_w5 := h1_w4.keep hk5
      have h2_w5 := h2_w4.keep hk5
      have hkw_w5 := hkw_w4.comp hk5 (fun _ _ e => e.elim)
      have hka_w5 := hka_w4.keep hk5
      have hkl0_w5 := hkl0_w4.comp hk5 (fun _ _ e => e.elim)
      have hAt_w5 := hAt_w4.keep hk5
      have hb3_w5 := hb4.keep hk5
      have hs5 := hk5.size
      refine thn ?_
      refine condF rfl rfl ?_
      refine skip_ ?_
      refine bln ?_
      refine thn ?_
      refine region_ ?_
      refine wl_valE (v := .int .i64 ((j : Nat) : Int)) rfl (rf_move rfl) rfl ?_
      refine wl_valE (v := .int .i64 ((j + 1 : Nat) : Int)) rfl (rf_add rfl rfl rfl rfl (IntWalk.i64_in _ (by omega))) rfl ?_
      refine wl_valE (v := .int .i64 ((j + 1 : Nat) : Int)) rfl (rf_assign rfl) rfl ?_
      refine wl_nil ?_
      refine thn ?_
      refine ⟨lk0 - 1, _, rfl, (by omega), _, j + 1, upds_self ⟨rfl, rfl, rfl, rfl, rfl, trivial⟩, ?_⟩
      exact ⟨by omega, hkl0_w5⟩
    · have c21p := of_decide_eq_false c21
      refine exit_ ?_
      refine thx (thx (blx ?_))
      refine thn ?_
      refine seq_ ?_
      refine region_ ?_
      refine wl_valE (v := .pointer (some ⟨b, 0, none⟩)) rfl (rf_move rfl) rfl ?_
      refine wl_ret rfl (sizeZ_ret b bp rs ls came n wl hdd_wl 0) (rf_call Try.call16 rfl rfl) ?_
      rintro _ w6 ⟨rfl, hk6⟩
      have hdd_w6 := hdd_wl.keep hk6
      have h1_w6 := h1_wl.keep hk6
      have h2_w6 := h2_wl.keep hk6
      have hkw_w6 := hkw_wl.comp hk6 (fun _ _ e => e.elim)
      have hka_w6 := hka_wl.keep hk6
      have hkl0_w6 := hkl0.comp hk6 (fun _ _ e => e.elim)
      have hs6 := hk6.size
      refine wl_valE (v := .slice Aa R1.length Ac) rfl (rf_move rfl) rfl ?_
      refine wl_valE (v := .int .i64 ((R1.length : Nat) : Int)) rfl (rf_len_slice Try.underlying31 rfl rfl) rfl ?_
      refine wl_valE (v := .bool true) rfl (rf_eql rfl rfl rfl rfl) (congrArg Value.bool (decide_eq_true (by have h9 := (hI.perm 0).length_eq; rw [List.length_map, List.filter_eq_self.2 (fun s _ => by simp [inPZ, nilF])] at h9; rw [h9]))) ?_
      refine wl_valE (v := .bool true) rfl (rf_move rfl) rfl ?_
      refine wl_guardT rfl rfl rfl rfl ?_
      refine wl_valE (v := .pointer (some ⟨b, 0, none⟩)) rfl (rf_move rfl) rfl ?_
      refine wl_guardT rfl rfl rfl rfl ?_
      refine wl_ret rfl (sizeZ_ret b bp rs ls came n w6 hdd_w6 1) (rf_call Try.call16 rfl rfl) ?_
      rintro _ w7 ⟨rfl, hk7⟩
      have hdd_w7 := hdd_w6.keep hk7
      have h1_w7 := h1_w6.keep hk7
      have h2_w7 := h2_w6.keep hk7
      have hkw_w7 := hkw_w6.comp hk7 (fun _ _ e => e.elim)
      have hka_w7 := hka_w6.keep hk7
      have hkl0_w7 := hkl0_w6.comp hk7 (fun _ _ e => e.elim)
      have hs7 := hk7.size
      refine wl_guardT rfl rfl rfl rfl ?_
      refine wl_valE (v := .bool true) rfl (rf_eql rfl rfl rfl rfl) (congrArg Value.bool (decide_eq_true (by have h9 := (hI.perm 1).length_eq; rw [List.length_map, List.filter_eq_nil_iff.2 (fun s _ => by simp [inPZ, nilF])] at h9; rw [h9]; rfl))) ?_
      refine wl_valE (v := .bool true) rfl (rf_pickT rfl rfl rfl rfl) rfl ?_
      refine wl_valE (v := .bool true) rfl (rf_move rfl) rfl ?_
      refine wl_guardT rfl rfl rfl rfl ?_
      refine wl_valE (v := .pointer (some ⟨b, 0, none⟩)) rfl (rf_move rfl) rfl ?_
      refine wl_guardT rfl rfl rfl rfl ?_
      refine wl_ret rfl (keysZ_ret b bp rs ls came n w7 hdd_w7 1 hcm hln) (rf_call Try.call14 rfl rfl) ?_
      rintro vq2 w8 ⟨R3, hR3, hkc, hk8⟩
      obtain rfl : R3 = [] := (hI.row hR3).trans (List.filter_eq_nil_iff.2 (fun s _ => by simp [inPZ, nilF]))
      obtain ⟨Ca, Cc, hCv, hCc⟩ := hkc.form
      subst hCv
      have hdd_w8 := hdd_w7.keep hk8
      have h1_w8 := h1_w7.keep hk8
      have h2_w8 := h2_w7.keep hk8
      have hkw_w8 := hkw_w7.comp hk8 (fun _ _ e => e.elim)
      have hka_w8 := hka_w7.keep hk8
      have hkl0_w8 := hkl0_w7.comp hk8 (fun _ _ e => e.elim)
      have hs8 := hk8.size
      refine wl_guardT rfl rfl rfl rfl ?_
      refine wl_valE (v := .int .i64 ((0 : Nat) : Int)) rfl (rf_len_slice Try.underlying31 rfl rfl) rfl ?_
      refine wl_guardT rfl rfl rfl rfl ?_
      refine wl_valE (v := .bool true) rfl (rf_eql rfl rfl rfl rfl) (congrArg Value.bool (by decide)) ?_
      refine wl_valE (v := .bool true) rfl (rf_pickT rfl rfl rfl rfl) rfl ?_
      refine wl_valE (v := .bool true) rfl (rf_move rfl) rfl ?_
      refine wl_guardT rfl rfl rfl rfl ?_
      refine wl_valE (v := .pointer (some ⟨b, 0, none⟩)) rfl (rf_move rfl) rfl ?_
      refine wl_guardT rfl rfl rfl rfl ?_
      refine wl_ret rfl (partZ_ret ⟨#[120]⟩ (by decide) b bp rs ls came n w8 hdd_w8) (rf_call Try.call12 rfl rfl) ?_
      rintro _ w9 ⟨rfl, hk9⟩
      have hdd_w9 := hdd_w8.keep hk9
      have h1_w9 := h1_w8.keep hk9
      have h2_w9 := h2_w8.keep hk9
      have hkw_w9 := hkw_w8.comp hk9 (fun _ _ e => e.elim)
      have hka_w9 := hka_w8.keep hk9
      have hkl0_w9 := hkl0_w8.comp hk9 (fun _ _ e => e.elim)
      have hs9 := hk9.size
      refine wl_guardT rfl rfl rfl rfl ?_
      refine wl_valE (v := .bool true) rfl (rf_eql rfl rfl rfl rfl) (congrArg Value.bool (decide_eq_true (by simp [nilF]))) ?_
      refine wl_valE (v := .bool true) rfl (rf_pickT rfl rfl rfl rfl) rfl ?_
      refine wl_valE (v := .bool true) rfl (rf_assign rfl) rfl ?_
      refine wl_nil ?_
      refine thn ?_
      refine ret_ ?_
      refine fin1 (v := .bool true) Try.results10 rfl rfl ?_
      exact ⟨rfl, hkw_w9⟩

/-- A Dict and what it holds: K, the keys, A, their values, in the order in which they came; T: its blocks. -/
def HsZ (w : World) (b i : Nat) (K : List ByteArray) (A : List PairV) (T : Nat → Prop) : Prop :=
  ∃ (bp : Nat) (rs : List Nat) (ls : List (List (ByteArray × SlotZ))) (S : List SlotZ) (came n : Int), DictZ w b bp rs ls came n ∧ DIZ ls S came n ∧ OdZ S K A ∧ ls.length ≤ 256 ∧ came ≤ i ∧ (∀ y, fpD b bp rs y → T y)
theorem HsZ.kp {w w' : World} {b i : Nat} {K : List ByteArray} {A : List PairV} {T S : Nat → Prop} (h : HsZ w b i K A T) (hk : Kp S w w') (hs : ∀ y, T y → ¬ S y) : HsZ w' b i K A T := by
  obtain ⟨bp, rs, ls, S0, came, n, h1, h2, h3, h4, h5, h6⟩ := h
  exact ⟨bp, rs, ls, S0, came, n, h1.kp hk (fun x hx => hs x (h6 x hx)), h2, h3, h4, h5, h6⟩
theorem HsZ.keep {w w' : World} {b i : Nat} {K : List ByteArray} {A : List PairV} {T : Nat → Prop} (h : HsZ w b i K A T) (hk : Kp none_ w w') : HsZ w' b i K A T := h.kp hk (fun _ _ h => h)
theorem HsZ.new {w : World} {b m bp : Nat} {rs : List Nat} {T : Nat → Prop} (hm : 1 ≤ m) (hm2 : m ≤ 256) (h1 : DictZ w b bp rs (List.replicate m []) 0 0) (h4 : ∀ y, fpD b bp rs y → T y) : HsZ w b 0 [] [] T :=
  ⟨bp, rs, _, [], 0, 0, h1, DIZ.new (by omega), ⟨rfl, rfl⟩, by simpa using hm2, by simp, h4⟩
theorem HsZ.len {w : World} {b i : Nat} {K : List ByteArray} {A : List PairV} {T : Nat → Prop} (h : HsZ w b i K A T) : A.length = K.length := by
  obtain ⟨bp, rs, ls, S0, came, n, h1, h2, h3, h4, h5, h6⟩ := h
  have := h3.len; omega
theorem HsZ.take {w : World} {b i : Nat} {K : List ByteArray} {A : List PairV} {T : Nat → Prop} (h : HsZ w b i K A T) (hK : K.length ≤ 1048576) (k : ByteArray) (hsz : k.size ≤ 9223372036854775807) (hd : PairV) (x : Bool) (K' : List ByteArray) (A' : List PairV)
    (hcase : ((∀ q ∈ K, q ≠ k) ∧ hd = ⟨0, 0⟩ ∧ x = false ∧ K' = K ∧ A' = A) ∨ ∃ j, K[j]? = some k ∧ A[j]? = some hd ∧ x = true ∧ K' = K.eraseIdx j ∧ A' = A.eraseIdx j) :
    Ret Try.prog 7 [.pointer (some ⟨b, 0, none⟩), .string k] w fun v w' => v = .tuple #[.agg #[.int .i64 hd.a, .int .i64 hd.b], .bool x] ∧ HsZ w' b (i + 1) K' A' T ∧ Kp T w w' := by
  obtain ⟨bp, rs, ls, S, came, n, h1, h2, h3, h4, h5, h6⟩ := h
  have hl := h3.len
  refine Ret.mono (dTakeZ k hsz b bp rs ls S came n w h1 h2 (by omega)) ?_
  rintro _ w' ⟨rfl, ls', n', g1, g2, g3, g4⟩
  have hk : Kp T w w' := g4.mono (fun y _ hy => h6 y (hy.elim .inl (fun h => .inr (.inr h))))
  rcases hcase with ⟨e1, rfl, rfl, rfl, rfl⟩ | ⟨j, e1, e2, rfl, rfl, rfl⟩
  · have hf := h3.no e1
    refine ⟨by unfold resZ; rw [hf]; rfl, ⟨bp, rs, ls', _, came, n', g1, g2, ?_, by omega, by omega, h6⟩, hk⟩
    have : S.filter (fun s => decide (s.key ≠ k)) = S := List.filter_eq_self.2 (fun s hs => by unfold fndZ at hf; rw [List.find?_eq_none] at hf; simpa using hf s hs)
    rw [this]; exact h3
  · obtain ⟨s, hf, _, _, hv⟩ := h3.yes h2.keys e1
    rw [e2] at hv
    cases hv
    exact ⟨by unfold resZ; rw [hf]; rfl, ⟨bp, rs, ls', _, came, n', g1, g2, h3.del h2.keys e1, by omega, by omega, h6⟩, hk⟩
theorem HsZ.put {w : World} {b i : Nat} {K : List ByteArray} {A : List PairV} {T : Nat → Prop} (h : HsZ w b i K A T) (hi : i ≤ 1048576) (hK : K.length ≤ 1048576) (k : ByteArray) (hsz : k.size ≤ 9223372036854775807) (nv hd : PairV) (x : Bool) (K' : List ByteArray) (A' : List PairV)
    (hcase : ((∀ q ∈ K, q ≠ k) ∧ hd = ⟨0, 0⟩ ∧ x = false ∧ K' = K ++ [k] ∧ A' = A ++ [nv]) ∨ ∃ j, K[j]? = some k ∧ A[j]? = some hd ∧ x = true ∧ K' = K ∧ A' = A.set j nv) :
    Ret Try.prog 8 [.pointer (some ⟨b, 0, none⟩), .string k, .agg #[.int .i64 nv.a, .int .i64 nv.b]] w fun v w' => v = .tuple #[.agg #[.int .i64 hd.a, .int .i64 hd.b], .bool x] ∧ HsZ w' b (i + 1) K' A' T ∧ Kp T w w' := by
  obtain ⟨bp, rs, ls, S, came, n, h1, h2, h3, h4, h5, h6⟩ := h
  have hl := h3.len
  refine Ret.mono (dPutZ k hsz nv b bp rs ls S came n w h1 h2 (by omega) (by omega)) ?_
  rintro _ w' ⟨rfl, ls', came', n', g1, g2, g3, g5, g4⟩
  have hk : Kp T w w' := g4.mono (fun y _ hy => h6 y (hy.elim .inl (fun h => .inr (.inr h))))
  rcases hcase with ⟨e1, rfl, rfl, rfl, rfl⟩ | ⟨j, e1, e2, rfl, rfl, rfl⟩
  · have hf := h3.no e1
    exact ⟨by unfold resZ; rw [hf]; rfl, ⟨bp, rs, ls', _, came', n', g1, g2, h3.putN hf nv came, by omega, by omega, h6⟩, hk⟩
  · obtain ⟨s, hf, _, _, hv⟩ := h3.yes h2.keys e1
    rw [e2] at hv
    cases hv
    exact ⟨by unfold resZ; rw [hf]; rfl, ⟨bp, rs, ls', _, came', n', g1, g2, h3.putY h2.keys hf e1 nv came, by omega, by omega, h6⟩, hk⟩
theorem HsZ.end_ {w : World} {b i : Nat} {K : List ByteArray} {A : List PairV} {T : Nat → Prop} (h : HsZ w b i K A T) (hi : i ≤ 1048576) (hK : ∀ k ∈ K, k.size ≤ 9223372036854775807) (hl : K.length ≤ 1048576) (v1 v2 : Value) (F1 F2 : Nat → Prop) (h1 : Rd encStr 1 w F1 v1 K) (h2 : Rd encPV 2 w F2 v2 A) (hF1 : ∀ y, F1 y → y < w.heap.size) (hF2 : ∀ y, F2 y → y < w.heap.size) :
    Ret Try.prog 10 [.pointer (some ⟨b, 0, none⟩), v1, v2] w fun v w' => v = .bool true ∧ Kp none_ w w' := by
  obtain ⟨bp, rs, ls, S, came, n, g1, g2, g3, g4, g5, g6⟩ := h
  have := g3.len
  exact listedZ_ret b bp rs ls S came n w g1 g2 K A g3 hK v1 v2 F1 F2 h1 h2 hF1 hF2 (by omega) (by omega) g4
end Go.Proofs.Ytngpghddmehmhaa.W
