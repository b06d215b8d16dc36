import Derived.Test.YtngpghddmehmhaaL1G
import Derived.KernelRfl
namespace Go.Proofs.Ytngpghddmehmhaa.W
open Go Go.Wk
set_option linter.unusedVariables false
theorem fndG_mem {S : List SlotG} (hn : (S.map (·.key)).Nodup) {s : SlotG} (hs : s ∈ S) : fndG S s.key = some s := by
  unfold fndG
  cases hf : S.find? (fun q => decide (q.key = s.key)) with
  | none => rw [List.find?_eq_none] at hf; simpa using hf s hs
  | some q => rw [nodup_keyG hn (List.mem_of_find?_eq_some hf) hs (by simpa using List.find?_some hf)]
theorem inpG_el {S : List SlotG} {m q : Nat} {R : List SlotG} (hR : R = S.filter (inPG m (q : Int))) {j : Nat} {s : SlotG} (hs : R[j]? = some s) : lonF s.key % m = q ∧ s ∈ S := by
  have h1 := List.mem_of_getElem? hs
  rw [hR, List.mem_filter] at h1
  have h2 : ((lonF s.key % m : Nat) : Int) = (q : Int) := by simpa [inPG] using h1.2
  exact ⟨by omega, h1.1⟩
theorem rowG_ne {S : List SlotG} (hn : (S.map (·.key)).Nodup) {m : Nat} {p : Int} {R : List SlotG} (hR : R = S.filter (inPG m p)) {i j : Nat} {a b : SlotG} (hi : R[i]? = some a) (hj : R[j]? = some b) (hij : i ≠ j) : a.key ≠ b.key := fun e => by
  have h1 : (R.map (·.key)).Nodup := by rw [hR]; exact hn.sublist (List.filter_sublist.map _)
  exact hij (nodup_inj h1 (i := i) (j := j) (x := a.key) (by rw [List.getElem?_map, hi]; rfl) (by rw [List.getElem?_map, hj, Option.map_some, e]))
set_option maxRecDepth 100000 in
set_option maxHeartbeats 4000000 in
theorem spreadG_ret (b bp : Nat) (rs : List Nat) (ls : List (List (ByteArray × SlotG))) (S : List SlotG) (came n : Int) (w : World) (hd : DictG w b bp rs ls came n) (hI : DIG ls S came n) (K : List ByteArray) (A : List PairV) (hO : OdG S K A) (hK : ∀ k ∈ K, k.size ≤ 9223372036854775807) (v1 v2 : Value) (F1 F2 : Nat → Prop) (h1 : Rd encStr 1 w F1 v1 K) (h2 : Rd encPV 2 w F2 v2 A) (hF1 : ∀ y, F1 y → y < w.heap.size) (hF2 : ∀ y, F2 y → y < w.heap.size) (hc : came ≤ 4611686018427387903) (hS : S.length ≤ 2932031007400) (hm : ls.length ≤ 256) : Ret Try.prog 9 [.pointer (some ⟨b, 0, none⟩), v1, v2] w fun v w' => v = .bool true ∧ Kp none_ w w' := by
  have hkw : Kp none_ w w := Kp.refl w
  have hdd := hd
  have hll0 := hd.len
  have hpos := hI.pos
  have hcnt := hI.cnt
  have hOl := hO.len
  obtain ⟨a1, c1, rfl, hc1⟩ := h1.form
  obtain ⟨a2, c2, rfl, hc2⟩ := h2.form
  have hcm := hI.cameOk hc
  have hln : ∀ l ∈ ls, l.length ≤ 2932031007401 := fun l hl => Nat.le_trans (hI.lens l hl) (by omega)
  have hsS : ∀ s ∈ S, s.key.size ≤ 9223372036854775807 := fun s hs => hK _ (by rw [← hO.keys]; exact List.mem_map.2 ⟨s, hs, rfl⟩)
  refine enterR Try.func9 rfl Try.ntmps9 rfl ?_
  intro g0
  refine seq_ ?_
  refine region_ ?_
  refine wl_valE (v := .bool false) rfl (rf_assign rfl) rfl ?_
  refine wl_nil ?_
  refine thn ?_
  refine seq_ ?_
  refine seq_ ?_
  refine region_ ?_
  refine wl_valE (v := .pointer (some ⟨b, 0, none⟩)) rfl (rf_move rfl) rfl ?_
  refine wl_ret rfl (lenG_ret b bp rs ls came n w hdd) (rf_call Try.call13 rfl rfl) ?_
  rintro _ w1 ⟨rfl, hk1⟩
  have hdd_w1 := hdd.keep hk1
  have h1_w1 := h1.keep hk1
  have h2_w1 := h2.keep hk1
  have hkw_w1 := hkw.comp hk1 (fun _ _ e => e.elim)
  have hs1 := hk1.size
  refine wl_valE (v := .slice a1 K.length c1) rfl (rf_move rfl) rfl ?_
  refine wl_valE (v := .int .i64 ((K.length : Nat) : Int)) rfl (rf_len_slice Try.underlying31 rfl rfl) rfl ?_
  refine wl_valE (v := .bool false) rfl (rf_neq rfl rfl rfl rfl) (congrArg Value.bool (decide_eq_false (by omega))) ?_
  refine wl_nil ?_
  refine thn ?_
  refine condF rfl rfl ?_
  refine skip_ ?_
  refine thn ?_
  refine seq_ ?_
  refine region_ ?_
  refine wl_valE (v := .int .i64 ((0 : Nat) : Int)) rfl (rf_assign rfl) rfl ?_
  refine wl_nil ?_
  refine thn ?_
  refine seq_ ?_
  refine seq_ ?_
  refine region_ ?_
  refine wl_valE (v := .int .i64 ((0 : Nat) : Int)) rfl (rf_assign rfl) rfl ?_
  refine wl_nil ?_
  refine thn ?_
  refine block_ ?_
  refine loop_ (fun lk lf lw => ∃ (g : Nat → Value) (q c : Nat), lf = upds g [(0, .pointer (some ⟨b, 0, none⟩)), (1, .slice a1 K.length c1), (2, .slice a2 A.length c2), (7, .int .i64 ((c : Nat) : Int)), (8, .int .i64 ((q : Nat) : Int))] ∧ q + lk = 256 ∧ c = (S.filter (fun s => decide (lonF s.key % ls.length < q))).length ∧ Kp (none_) w1 lw) (256) ?_ ?_
  · refine ⟨_, 0, 0, upds_self ⟨rfl, rfl, rfl, rfl, rfl, trivial⟩, ?_⟩
    exact ⟨by omega, by rw [List.filter_eq_nil_iff.2 (fun s _ => by simp)]; rfl, Kp.refl _⟩
  · intro lk0 lf0 wl hI0
    obtain ⟨gl0, q, c, rfl, hqk, hcq, hkl0⟩ := hI0
    have hdd_wl := hdd_w1.keep hkl0
    have h1_wl := h1_w1.keep hkl0
    have h2_wl := h2_w1.keep hkl0
    have hkw_wl := hkw_w1.comp hkl0 (fun _ _ e => e.elim)
    have hsl := hkl0.size
    refine seq_ ?_
    refine seq_ ?_
    refine region_ ?_
    refine wl_valE (v := .int .i64 ((q : Nat) : Int)) rfl (rf_move rfl) rfl ?_
    refine wl_valE (v := .bool (decide (((q : Nat) : Int) < ((256 : Nat) : Int)))) rfl (rf_lss rfl rfl rfl rfl) rfl ?_
    refine wl_nil ?_
    refine thn ?_
    refine cond_ (t := decide (((q : Nat) : Int) < ((256 : Nat) : Int))) rfl rfl (fun c23 => ?_) (fun c23 => ?_)
    · have c23p := of_decide_eq_true c23
      refine skip_ ?_
      refine thn ?_
      refine seq_ ?_
      refine block_ ?_
      refine seq_ ?_
      refine region_ ?_
      refine wl_valE (v := .pointer (some ⟨b, 0, none⟩)) rfl (rf_move rfl) rfl ?_
      refine wl_valE (v := .int .i64 ((q : Nat) : Int)) rfl (rf_move rfl) rfl ?_
      refine wl_ret rfl (keysG_ret b bp rs ls came n wl hdd_wl ((q : Nat) : Int) hcm hln) (rf_call Try.call14 rfl rfl) ?_
      rintro vq w2 ⟨R1, hR1, hka, hk2⟩
      have hRe := hI.row hR1
      obtain ⟨Aa, Ac, hAv, hAc⟩ := hka.form
      rw [List.length_map] at hAv hAc
      subst hAv
      have hR1l : R1.length ≤ S.length := by rw [hRe]; exact List.length_filter_le _ _
      have hdd_w2 := hdd_wl.keep hk2
      have h1_w2 := h1_wl.keep hk2
      have h2_w2 := h2_wl.keep hk2
      have hkw_w2 := hkw_wl.comp hk2 (fun _ _ e => e.elim)
      have hkl0_w2 := hkl0.comp hk2 (fun _ _ e => e.elim)
      have hs2 := hk2.size
      refine wl_valE (v := .slice Aa R1.length Ac) rfl (rf_assign rfl) rfl ?_
      refine wl_nil ?_
      refine thn ?_
      refine seq_ ?_
      refine seq_ ?_
      refine region_ ?_
      refine wl_valE (v := .int .i64 ((0 : Nat) : Int)) rfl (rf_assign rfl) rfl ?_
      refine wl_nil ?_
      refine thn ?_
      refine block_ ?_
      refine loop_ (fun lk lf lw => ∃ (g : Nat → Value) (j : Nat), lf = upds g [(0, .pointer (some ⟨b, 0, none⟩)), (1, .slice a1 K.length c1), (2, .slice a2 A.length c2), (7, .int .i64 ((c : Nat) : Int)), (8, .int .i64 ((q : Nat) : Int)), (9, .slice Aa R1.length Ac), (10, .int .i64 ((j : Nat) : Int)), (22, .int .i64 ((q : Nat) : Int)), (23, .bool (decide (((q : Nat) : Int) < ((256 : Nat) : Int)))), (26, .pointer (some ⟨b, 0, none⟩)), (27, .int .i64 ((q : Nat) : Int)), (28, .slice Aa R1.length Ac)] ∧ j + lk = R1.length ∧ Kp (none_) w2 lw) (R1.length) ?_ ?_
      · refine ⟨_, 0, upds_self ⟨rfl, rfl, rfl, rfl, rfl, rfl, rfl, rfl, rfl, rfl, rfl, rfl, trivial⟩, ?_⟩
        exact ⟨by omega, Kp.refl _⟩
      · intro lk1 lf1 wm hI1
        obtain ⟨gl1, j, rfl, hjk, hkl1⟩ := hI1
        have hdd_wm := hdd_w2.keep hkl1
        have h1_wm := h1_w2.keep hkl1
        have h2_wm := h2_w2.keep hkl1
        have hkw_wm := hkw_w2.comp hkl1 (fun _ _ e => e.elim)
        have hkl0_wm := hkl0_w2.comp hkl1 (fun _ _ e => e.elim)
        have hka_wm := hka.keep hkl1
        have hsm := hkl1.size
        refine seq_ ?_
        refine seq_ ?_
        refine region_ ?_
        refine wl_valE (v := .int .i64 ((j : Nat) : Int)) rfl (rf_move rfl) rfl ?_
        refine wl_valE (v := .slice Aa R1.length Ac) rfl (rf_move rfl) rfl ?_
        refine wl_valE (v := .int .i64 ((R1.length : Nat) : Int)) rfl (rf_len_slice Try.underlying31 rfl rfl) rfl ?_
        refine wl_valE (v := .bool (decide (((j : Nat) : Int) < ((R1.length : Nat) : Int)))) rfl (rf_lss rfl rfl rfl rfl) rfl ?_
        refine wl_nil ?_
        refine thn ?_
        refine cond_ (t := decide (((j : Nat) : Int) < ((R1.length : Nat) : Int))) rfl rfl (fun c32 => ?_) (fun c32 => ?_)
        · have c32p := of_decide_eq_true c32
          obtain ⟨s, hs⟩ : ∃ s, R1[j]? = some s := ⟨_, List.getElem?_eq_getElem (by omega)⟩
          have hkj : (R1.map (·.key))[j]? = some s.key := by rw [List.getElem?_map, hs]; rfl
          obtain ⟨Ab, Ao, Ac2, et, hAF, hAt⟩ := hka_wm.at (by rw [List.length_map]; omega)
          simp only [Value.slice.injEq] at et
          obtain ⟨rfl, _, rfl⟩ := et
          have hAF2 := hAF.2
          obtain ⟨hpart, hsm⟩ := inpG_el hRe hs
          refine skip_ ?_
          refine thn ?_
          refine seq_ ?_
          refine block_ ?_
          refine seq_ ?_
          refine region_ ?_
          refine wl_valE (v := .pointer (some ⟨b, 0, none⟩)) rfl (rf_move rfl) rfl ?_
          refine wl_valE (v := .slice (some ⟨Ab, Ao, none⟩) R1.length Ac) rfl (rf_move rfl) rfl ?_
          refine wl_valE (v := .int .i64 ((j : Nat) : Int)) rfl (rf_move rfl) rfl ?_
          refine wl_valE (v := .pointer (some ⟨Ab, Ao + j, none⟩)) rfl (rf_indexAddr Try.underlying31 ti9 rfl rfl rfl rfl (by omega) (by omega)) (by simp) ?_
          refine wl_valE (v := .string s.key) rfl (rf_load Try.underlying9 rfl rfl rfl (el1 (hAt.cell hkj 0 _ rfl))) rfl ?_
          refine wl_ret rfl (dGetG s.key (hsS s hsm) b bp rs ls S came n wm hdd_wm hI) (rf_call Try.call15 rfl rfl) ?_
          rintro vq w3 ⟨hv, hk3⟩
          unfold resG at hv
          rw [fndG_mem hI.keys hsm] at hv
          subst hv
          have hdd_w3 := hdd_wm.keep hk3
          have h1_w3 := h1_wm.keep hk3
          have h2_w3 := h2_wm.keep hk3
          have hkw_w3 := hkw_wm.comp hk3 (fun _ _ e => e.elim)
          have hkl0_w3 := hkl0_wm.comp hk3 (fun _ _ e => e.elim)
          have hka_w3 := hka_wm.keep hk3
          have hkl1_w3 := hkl1.comp hk3 (fun _ _ e => e.elim)
          have hAt_w3 := hAt.keep hk3
          have hs3 := hk3.size
          refine wl_valE (v := .tuple #[.agg #[.int .i64 s.val.a, .int .i64 s.val.b], .bool true]) rfl (rf_move rfl) rfl ?_
          refine wl_valE (v := .agg #[.int .i64 s.val.a, .int .i64 s.val.b]) rfl (rf_extract rfl rfl rfl) rfl ?_
          refine wl_valE (v := .bool true) rfl (rf_extract rfl rfl rfl) rfl ?_
          refine wl_alloc ti28 ?_
          intro b4 w4 hg4 hk4 hb4
          have ne4_Ab : Ab ≠ b4 := Nat.ne_of_lt (Nat.lt_of_lt_of_le hAt_w3.lt hg4)
          have hdd_w4 := hdd_w3.keep hk4
          have h1_w4 := h1_w3.keep hk4
          have h2_w4 := h2_w3.keep hk4
          have hkw_w4 := hkw_w3.comp hk4 (fun _ _ e => e.elim)
          have hkl0_w4 := hkl0_w3.comp hk4 (fun _ _ e => e.elim)
          have hka_w4 := hka_w3.keep hk4
          have hkl1_w4 := hkl1_w3.comp hk4 (fun _ _ e => e.elim)
          have hAt_w4 := hAt_w3.keep hk4
          have hs4 := hk4.size
          refine wl_storeAgg (b := b4) (o := 0) (cs := [.int .i64 s.val.a, .int .i64 s.val.b]) ti28 rfl rfl rfl rfl rfl (by simp [Value.oneCell']) hb4 (Nat.le_of_ble_eq_true rfl) ?_
          intro w5 hk5 hb5
          have hdd_w5 := hdd_w4.kp hk5 (fun y hy e => by have := hd.lt y hy; omega)
          have h1_w5 := h1_w4.kp hk5 (fun y hy e => by have := hF1 y hy; omega)
          have h2_w5 := h2_w4.kp hk5 (fun y hy e => by have := hF2 y hy; omega)
          have hkw_w5 := hkw_w4.comp hk5 (fun y hy e => by omega)
          have hkl0_w5 := hkl0_w4.comp hk5 (fun y hy e => by omega)
          have hka_w5 := hka_w4.kp hk5 (fun y hy e => by have := hy.2; omega)
          have hkl1_w5 := hkl1_w4.comp hk5 (fun y hy e => by omega)
          have hAt_w5 := hAt_w4.kp hk5 ne4_Ab
          have hs5 := hk5.size
          replace hb5 : Blk w5 b4 (.cells #[.int .i64 s.val.a, .int .i64 s.val.b] _ (0, 0)) := hb5
          refine wl_valE (v := .bool true) rfl (rf_assign rfl) rfl ?_
          refine wl_nil ?_
          refine thn ?_
          refine seq_ ?_
          refine seq_ ?_
          refine region_ ?_
          refine wl_valE (v := .bool true) rfl (rf_move rfl) rfl ?_
          refine wl_valE (v := .bool false) rfl (rf_not rfl rfl) rfl ?_
          refine wl_valE (v := .bool false) rfl (rf_move rfl) rfl ?_
          refine wl_guardT rfl rfl rfl rfl ?_
          refine wl_valE (v := .pointer (some ⟨b, 0, none⟩)) rfl (rf_move rfl) rfl ?_
          refine wl_guardT rfl rfl rfl rfl ?_
          refine wl_valE (v := .slice (some ⟨Ab, Ao, none⟩) R1.length Ac) rfl (rf_move rfl) rfl ?_
          refine wl_guardT rfl rfl rfl rfl ?_
          refine wl_valE (v := .int .i64 ((j : Nat) : Int)) rfl (rf_move rfl) rfl ?_
          refine wl_guardT rfl rfl rfl rfl ?_
          refine wl_valE (v := .pointer (some ⟨Ab, Ao + j, none⟩)) rfl (rf_indexAddr Try.underlying31 ti9 rfl rfl rfl rfl (by omega) (by omega)) (by simp) ?_
          refine wl_guardT rfl rfl rfl rfl ?_
          refine wl_valE (v := .string s.key) rfl (rf_load Try.underlying9 rfl rfl rfl (el1 (hAt_w5.cell hkj 0 _ rfl))) rfl ?_
          refine wl_guardT rfl rfl rfl rfl ?_
          refine wl_ret rfl (partG_ret s.key (hsS s hsm) b bp rs ls came n w5 hdd_w5) (rf_call Try.call12 rfl rfl) ?_
          rintro _ w6 ⟨rfl, hk6⟩
          have hdd_w6 := hdd_w5.keep hk6
          have h1_w6 := h1_w5.keep hk6
          have h2_w6 := h2_w5.keep hk6
          have hkw_w6 := hkw_w5.comp hk6 (fun _ _ e => e.elim)
          have hkl0_w6 := hkl0_w5.comp hk6 (fun _ _ e => e.elim)
          have hka_w6 := hka_w5.keep hk6
          have hkl1_w6 := hkl1_w5.comp hk6 (fun _ _ e => e.elim)
          have hAt_w6 := hAt_w5.keep hk6
          have hb4_w6 := hb5.keep hk6
          have hs6 := hk6.size
          refine wl_guardT rfl rfl rfl rfl ?_
          refine wl_valE (v := .int .i64 ((q : Nat) : Int)) rfl (rf_move rfl) rfl ?_
          refine wl_guardT rfl rfl rfl rfl ?_
          refine wl_valE (v := .bool false) rfl (rf_neq rfl rfl rfl rfl) (congrArg Value.bool (decide_eq_false (by rw [← hll0, hpart]; exact fun h => h rfl))) ?_
          refine wl_valE (v := .bool false) rfl (rf_pickF rfl rfl rfl rfl) rfl ?_
          refine wl_nil ?_
          refine thn ?_
          refine condF rfl rfl ?_
          refine skip_ ?_
          refine thn ?_
          refine seq_ ?_
          refine region_ ?_
          refine wl_valE (v := .int .i64 ((0 : Nat) : Int)) rfl (rf_assign rfl) rfl ?_
          refine wl_nil ?_
          refine thn ?_
          refine block_ ?_
          refine loop_ (fun lk lf lw => ∃ (g : Nat → Value) (z : Nat), lf = upds g [(0, .pointer (some ⟨b, 0, none⟩)), (1, .slice a1 K.length c1), (2, .slice a2 A.length c2), (7, .int .i64 ((c : Nat) : Int)), (8, .int .i64 ((q : Nat) : Int)), (9, .slice (some ⟨Ab, Ao, none⟩) R1.length Ac), (10, .int .i64 ((j : Nat) : Int)), (11, .pointer (some ⟨b4, 0, none⟩)), (12, .bool true), (13, .int .i64 ((z : Nat) : Int)), (22, .int .i64 ((q : Nat) : Int)), (23, .bool (decide (((q : Nat) : Int) < ((256 : Nat) : Int)))), (26, .pointer (some ⟨b, 0, none⟩)), (27, .int .i64 ((q : Nat) : Int)), (28, .slice (some ⟨Ab, Ao, none⟩) R1.length Ac), (29, .int .i64 ((j : Nat) : Int)), (30, .slice (some ⟨Ab, Ao, none⟩) R1.length Ac), (31, .int .i64 ((R1.length : Nat) : Int)), (32, .bool (decide (((j : Nat) : Int) < ((R1.length : Nat) : Int)))), (35, .tuple #[.agg #[.int .i64 s.val.a, .int .i64 s.val.b], .bool true]), (36, .pointer (some ⟨b, 0, none⟩)), (37, .slice (some ⟨Ab, Ao, none⟩) R1.length Ac), (38, .int .i64 ((j : Nat) : Int)), (39, .pointer (some ⟨Ab, Ao + j, none⟩)), (40, .string s.key), (41, .tuple #[.agg #[.int .i64 s.val.a, .int .i64 s.val.b], .bool true]), (42, .agg #[.int .i64 s.val.a, .int .i64 s.val.b]), (43, .bool true), (44, .bool true), (45, .bool false), (46, .bool false), (47, .pointer (some ⟨b, 0, none⟩)), (48, .slice (some ⟨Ab, Ao, none⟩) R1.length Ac), (49, .int .i64 ((j : Nat) : Int)), (50, .pointer (some ⟨Ab, Ao + j, none⟩)), (51, .string s.key), (52, .int .i64 ((lonF s.key % rs.length : Nat) : Int)), (53, .int .i64 ((q : Nat) : Int)), (54, .bool false), (55, .bool false)] ∧ z + lk = j ∧ Kp (none_) w6 lw) (j) ?_ ?_
          · refine ⟨_, 0, upds_self ⟨rfl, rfl, rfl, rfl, rfl, rfl, rfl, rfl, rfl, rfl, rfl, rfl, rfl, rfl, rfl, rfl, rfl, rfl, rfl, rfl, rfl, rfl, rfl, rfl, rfl, rfl, rfl, rfl, rfl, rfl, rfl, rfl, rfl, rfl, rfl, rfl, rfl, rfl, rfl, rfl, trivial⟩, ?_⟩
            exact ⟨by omega, Kp.refl _⟩
          · intro lk2 lf2 wn hI2
            obtain ⟨gl2, z, rfl, hzk, hkl2⟩ := hI2
            have hdd_wn := hdd_w6.keep hkl2
            have h1_wn := h1_w6.keep hkl2
            have h2_wn := h2_w6.keep hkl2
            have hkw_wn := hkw_w6.comp hkl2 (fun _ _ e => e.elim)
            have hkl0_wn := hkl0_w6.comp hkl2 (fun _ _ e => e.elim)
            have hka_wn := hka_w6.keep hkl2
            have hkl1_wn := hkl1_w6.comp hkl2 (fun _ _ e => e.elim)
            have hAt_wn := hAt_w6.keep hkl2
            have hb4_wn := hb4_w6.keep hkl2
            have hsn := hkl2.size
            refine seq_ ?_
            refine seq_ ?_
            refine region_ ?_
            refine wl_valE (v := .int .i64 ((z : Nat) : Int)) rfl (rf_move rfl) rfl ?_
            refine wl_valE (v := .int .i64 ((j : Nat) : Int)) rfl (rf_move rfl) rfl ?_
            refine wl_valE (v := .bool (decide (((z : Nat) : Int) < ((j : Nat) : Int)))) rfl (rf_lss rfl rfl rfl rfl) rfl ?_
            refine wl_nil ?_
            refine thn ?_
            refine cond_ (t := decide (((z : Nat) : Int) < ((j : Nat) : Int))) rfl rfl (fun c58 => ?_) (fun c58 => ?_)
            · have c58p := of_decide_eq_true c58
              obtain ⟨s2, hs2⟩ : ∃ s, R1[z]? = some s := ⟨_, List.getElem?_eq_getElem (by omega)⟩
              have hkz : (R1.map (·.key))[z]? = some s2.key := by rw [List.getElem?_map, hs2]; rfl
              have hne := rowG_ne hI.keys hRe hs2 hs (by omega)
              refine skip_ ?_
              refine thn ?_
              refine seq_ ?_
              refine block_ ?_
              refine seq_ ?_
              refine region_q mixedP (by kernel_rfl) ?_
              refine qt_valE (v := .slice (some ⟨Ab, Ao, none⟩) R1.length Ac) rfl (fun wq hq => rf_move rfl) rfl ?_
              refine qt_valE (v := .int .i64 ((z : Nat) : Int)) rfl (fun wq hq => rf_move rfl) rfl ?_
              refine qt_valE (v := .pointer (some ⟨Ab, Ao + z, none⟩)) rfl (fun wq hq => rf_indexAddr Try.underlying31 ti9 rfl rfl rfl rfl (by omega) (by omega)) (by simp) ?_
              refine qt_valE (v := .string s2.key) rfl (fun wq hq => rf_load Try.underlying9 rfl rfl rfl (hq.cell (el1 (hAt_wn.cell hkz 0 _ rfl)) (fun h => h))) rfl ?_
              refine qt_valE (v := .slice (some ⟨Ab, Ao, none⟩) R1.length Ac) rfl (fun wq hq => rf_move rfl) rfl ?_
              refine qt_valE (v := .int .i64 ((j : Nat) : Int)) rfl (fun wq hq => rf_move rfl) rfl ?_
              refine qt_valE (v := .pointer (some ⟨Ab, Ao + j, none⟩)) rfl (fun wq hq => rf_indexAddr Try.underlying31 ti9 rfl rfl rfl rfl (by omega) (by omega)) (by simp) ?_
              refine qt_valE (v := .string s.key) rfl (fun wq hq => rf_load Try.underlying9 rfl rfl rfl (hq.cell (el1 (hAt_wn.cell hkj 0 _ rfl)) (fun h => h))) rfl ?_
              refine qt_valE (v := .bool false) rfl (fun wq hq => rf_eqlStr rfl rfl rfl rfl) (congrArg Value.bool (decide_eq_false hne)) ?_
              refine qt_nil ?_
              intro w7 hk7
              have hdd_w7 := hdd_wn.keep hk7
              have h1_w7 := h1_wn.keep hk7
              have h2_w7 := h2_wn.keep hk7
              have hkw_w7 := hkw_wn.comp hk7 (fun _ _ e => e.elim)
              have hkl0_w7 := hkl0_wn.comp hk7 (fun _ _ e => e.elim)
              have hka_w7 := hka_wn.keep hk7
              have hkl1_w7 := hkl1_wn.comp hk7 (fun _ _ e => e.elim)
              have hAt_w7 := hAt_wn.keep hk7
              have hb4_w7 := hb4_wn.keep hk7
              have hkl2_w7 := hkl2.comp hk7 (fun _ _ e => e.elim)
              have hs7 := hk7.size
              refine thn ?_
              refine condF rfl rfl ?_
              refine skip_ ?_
              refine bln ?_
              refine thn ?_
              refine region_ ?_
              refine wl_valE (v := .int .i64 ((z : Nat) : Int)) rfl (rf_move rfl) rfl ?_
              refine wl_valE (v := .int .i64 ((z + 1 : Nat) : Int)) rfl (rf_add rfl rfl rfl rfl (IntWalk.i64_in _ (by omega))) rfl ?_
              refine wl_valE (v := .int .i64 ((z + 1 : Nat) : Int)) rfl (rf_assign rfl) rfl ?_
              refine wl_nil ?_
              refine thn ?_
              refine ⟨lk2 - 1, _, rfl, (by omega), _, z + 1, upds_self ⟨rfl, rfl, rfl, rfl, rfl, rfl, rfl, rfl, rfl, rfl, rfl, rfl, rfl, rfl, rfl, rfl, rfl, rfl, rfl, rfl, rfl, rfl, rfl, rfl, rfl, rfl, rfl, rfl, rfl, rfl, rfl, rfl, rfl, rfl, rfl, rfl, rfl, rfl, rfl, rfl, trivial⟩, ?_⟩
              exact ⟨by omega, hkl2_w7⟩
            · have c58p := of_decide_eq_false c58
              refine exit_ ?_
              refine thx (thx (blx ?_))
              refine bln ?_
              refine thn ?_
              refine region_ ?_
              refine wl_valE (v := .int .i64 ((j : Nat) : Int)) rfl (rf_move rfl) rfl ?_
              refine wl_valE (v := .int .i64 ((j + 1 : Nat) : Int)) rfl (rf_add rfl rfl rfl rfl (IntWalk.i64_in _ (by omega))) rfl ?_
              refine wl_valE (v := .int .i64 ((j + 1 : Nat) : Int)) rfl (rf_assign rfl) rfl ?_
              refine wl_nil ?_
              refine thn ?_
              refine ⟨lk1 - 1, _, rfl, (by omega), _, j + 1, upds_self ⟨rfl, rfl, rfl, rfl, rfl, rfl, rfl, rfl, rfl, rfl, rfl, rfl, trivial⟩, ?_⟩
              exact ⟨by omega, hkl1_wn⟩
        · have c32p := of_decide_eq_false c32
          refine exit_ ?_
          refine thx (thx (blx ?_))
          refine thn ?_
          refine seq_ ?_
          refine seq_ ?_
          refine region_ ?_
          refine wl_valE (v := .slice Aa R1.length Ac) rfl (rf_move rfl) rfl ?_
          refine wl_valE (v := .int .i64 ((R1.length : Nat) : Int)) rfl (rf_len_slice Try.underlying31 rfl rfl) rfl ?_
          refine wl_valE (v := .pointer (some ⟨b, 0, none⟩)) rfl (rf_move rfl) rfl ?_
          refine wl_valE (v := .int .i64 ((q : Nat) : Int)) rfl (rf_move rfl) rfl ?_
          refine wl_ret rfl (sizeG_ret b bp rs ls came n wm hdd_wm ((q : Nat) : Int)) (rf_call Try.call16 rfl rfl) ?_
          rintro _ w8 ⟨rfl, hk8⟩
          have hdd_w8 := hdd_wm.keep hk8
          have h1_w8 := h1_wm.keep hk8
          have h2_w8 := h2_wm.keep hk8
          have hkw_w8 := hkw_wm.comp hk8 (fun _ _ e => e.elim)
          have hkl0_w8 := hkl0_wm.comp hk8 (fun _ _ e => e.elim)
          have hka_w8 := hka_wm.keep hk8
          have hkl1_w8 := hkl1.comp hk8 (fun _ _ e => e.elim)
          have hs8 := hk8.size
          refine wl_valE (v := .bool false) rfl (rf_neq rfl rfl rfl rfl) (congrArg Value.bool (decide_eq_false (by have h9 := (hI.perm ((q : Nat) : Int)).length_eq; rw [List.length_map] at h9; rw [hRe, h9]; exact fun h => h rfl))) ?_
          refine wl_nil ?_
          refine thn ?_
          refine condF rfl rfl ?_
          refine skip_ ?_
          refine thn ?_
          refine region_ ?_
          refine wl_valE (v := .int .i64 ((c : Nat) : Int)) rfl (rf_move rfl) rfl ?_
          refine wl_valE (v := .slice Aa R1.length Ac) rfl (rf_move rfl) rfl ?_
          refine wl_valE (v := .int .i64 ((R1.length : Nat) : Int)) rfl (rf_len_slice Try.underlying31 rfl rfl) rfl ?_
          refine wl_valE (v := .int .i64 ((c + R1.length : Nat) : Int)) rfl (rf_add rfl rfl rfl rfl (IntWalk.i64_in _ (by have h9 := List.length_filter_le (fun s => decide (lonF s.key % ls.length < q)) S; omega))) rfl ?_
          refine wl_valE (v := .int .i64 ((c + R1.length : Nat) : Int)) rfl (rf_assign rfl) rfl ?_
          refine wl_nil ?_
          refine bln ?_
          refine thn ?_
          refine region_ ?_
          refine wl_valE (v := .int .i64 ((q : Nat) : Int)) rfl (rf_move rfl) rfl ?_
          refine wl_valE (v := .int .i64 ((q + 1 : Nat) : Int)) rfl (rf_add rfl rfl rfl rfl (IntWalk.i64_in _ (by omega))) rfl ?_
          refine wl_valE (v := .int .i64 ((q + 1 : Nat) : Int)) rfl (rf_assign rfl) rfl ?_
          refine wl_nil ?_
          refine thn ?_
          refine ⟨lk0 - 1, _, rfl, (by omega), _, q + 1, c + R1.length, upds_self ⟨rfl, rfl, rfl, rfl, rfl, trivial⟩, ?_⟩
          exact ⟨by omega, by rw [← sumG, hcq, hRe], hkl0_w8⟩
    · have c23p := of_decide_eq_false c23
      obtain rfl : q = 256 := by omega
      refine exit_ ?_
      refine thx (thx (blx ?_))
      refine thn ?_
      refine seq_ ?_
      refine seq_ ?_
      refine region_ ?_
      refine wl_valE (v := .int .i64 ((0 : Nat) : Int)) rfl (rf_assign rfl) rfl ?_
      refine wl_nil ?_
      refine thn ?_
      refine block_ ?_
      refine loop_ (fun lk lf lw => ∃ (g : Nat → Value) (y : Nat), lf = upds g [(0, .pointer (some ⟨b, 0, none⟩)), (1, .slice a1 K.length c1), (2, .slice a2 A.length c2), (7, .int .i64 ((c : Nat) : Int)), (14, .int .i64 ((y : Nat) : Int))] ∧ y + lk = K.length ∧ Kp (none_) wl lw) (K.length) ?_ ?_
      · refine ⟨_, 0, upds_self ⟨rfl, rfl, rfl, rfl, rfl, trivial⟩, ?_⟩
        exact ⟨by omega, Kp.refl _⟩
      · intro lk3 lf3 wo hI3
        obtain ⟨gl3, y, rfl, hyk, hkl3⟩ := hI3
        have hdd_wo := hdd_wl.keep hkl3
        have h1_wo := h1_wl.keep hkl3
        have h2_wo := h2_wl.keep hkl3
        have hkw_wo := hkw_wl.comp hkl3 (fun _ _ e => e.elim)
        have hkl0_wo := hkl0.comp hkl3 (fun _ _ e => e.elim)
        have hso := hkl3.size
        refine seq_ ?_
        refine seq_ ?_
        refine region_ ?_
        refine wl_valE (v := .int .i64 ((y : Nat) : Int)) rfl (rf_move rfl) rfl ?_
        refine wl_valE (v := .slice a1 K.length c1) rfl (rf_move rfl) rfl ?_
        refine wl_valE (v := .int .i64 ((K.length : Nat) : Int)) rfl (rf_len_slice Try.underlying31 rfl rfl) rfl ?_
        refine wl_valE (v := .bool (decide (((y : Nat) : Int) < ((K.length : Nat) : Int)))) rfl (rf_lss rfl rfl rfl rfl) rfl ?_
        refine wl_nil ?_
        refine thn ?_
        refine cond_ (t := decide (((y : Nat) : Int) < ((K.length : Nat) : Int))) rfl rfl (fun c83 => ?_) (fun c83 => ?_)
        · have c83p := of_decide_eq_true c83
          obtain ⟨k, hky⟩ : ∃ k, K[y]? = some k := ⟨_, List.getElem?_eq_getElem (by omega)⟩
          obtain ⟨s, hfs, hsy, hsk, hay⟩ := hO.yes hI.keys hky
          obtain ⟨bx1, ox1, capx1, ex1, hcapx1, hFx1, hltx1, hcellx1⟩ := h1_wo.get (by omega)
          cases ex1
          obtain ⟨bx2, ox2, capx2, ex2, hcapx2, hFx2, hltx2, hcellx2⟩ := h2_wo.get (by omega)
          cases ex2
          refine skip_ ?_
          refine thn ?_
          refine seq_ ?_
          refine block_ ?_
          refine seq_ ?_
          refine region_ ?_
          refine wl_valE (v := .pointer (some ⟨b, 0, none⟩)) rfl (rf_move rfl) rfl ?_
          refine wl_valE (v := .slice (some ⟨bx1, ox1, none⟩) K.length c1) rfl (rf_move rfl) rfl ?_
          refine wl_valE (v := .int .i64 ((y : Nat) : Int)) rfl (rf_move rfl) rfl ?_
          refine wl_valE (v := .pointer (some ⟨bx1, ox1 + y, none⟩)) rfl (rf_indexAddr Try.underlying31 ti9 rfl rfl rfl rfl (by omega) (by omega)) (by simp) ?_
          refine wl_valE (v := .string k) rfl (rf_load Try.underlying9 rfl rfl rfl (el1 (hcellx1 y k hky 0 _ rfl))) rfl ?_
          refine wl_ret rfl (dGetG k (hK k (List.mem_of_getElem? hky)) b bp rs ls S came n wo hdd_wo hI) (rf_call Try.call15 rfl rfl) ?_
          rintro vq w9 ⟨hv, hk9⟩
          unfold resG at hv
          rw [hfs] at hv
          subst hv
          have hdd_w9 := hdd_wo.keep hk9
          have h1_w9 := h1_wo.keep hk9
          have h2_w9 := h2_wo.keep hk9
          have hkw_w9 := hkw_wo.comp hk9 (fun _ _ e => e.elim)
          have hkl0_w9 := hkl0_wo.comp hk9 (fun _ _ e => e.elim)
          have hkl3_w9 := hkl3.comp hk9 (fun _ _ e => e.elim)
          have hs9 := hk9.size
          refine wl_valE (v := .tuple #[.agg #[.int .i64 s.val.a, .int .i64 s.val.b], .bool true]) rfl (rf_move rfl) rfl ?_
          refine wl_valE (v := .agg #[.int .i64 s.val.a, .int .i64 s.val.b]) rfl (rf_extract rfl rfl rfl) rfl ?_
          refine wl_valE (v := .bool true) rfl (rf_extract rfl rfl rfl) rfl ?_
          refine wl_alloc ti28 ?_
          intro b10 w10 hg10 hk10 hb10
          have hdd_w10 := hdd_w9.keep hk10
          have h1_w10 := h1_w9.keep hk10
          have h2_w10 := h2_w9.keep hk10
          have hkw_w10 := hkw_w9.comp hk10 (fun _ _ e => e.elim)
          have hkl0_w10 := hkl0_w9.comp hk10 (fun _ _ e => e.elim)
          have hkl3_w10 := hkl3_w9.comp hk10 (fun _ _ e => e.elim)
          have hs10 := hk10.size
          refine wl_storeAgg (b := b10) (o := 0) (cs := [.int .i64 s.val.a, .int .i64 s.val.b]) ti28 rfl rfl rfl rfl rfl (by simp [Value.oneCell']) hb10 (Nat.le_of_ble_eq_true rfl) ?_
          intro w11 hk11 hb11
          have hdd_w11 := hdd_w10.kp hk11 (fun y hy e => by have := hd.lt y hy; omega)
          have h1_w11 := h1_w10.kp hk11 (fun y hy e => by have := hF1 y hy; omega)
          have h2_w11 := h2_w10.kp hk11 (fun y hy e => by have := hF2 y hy; omega)
          have hkw_w11 := hkw_w10.comp hk11 (fun y hy e => by omega)
          have hkl0_w11 := hkl0_w10.comp hk11 (fun y hy e => by omega)
          have hkl3_w11 := hkl3_w10.comp hk11 (fun y hy e => by omega)
          have hs11 := hk11.size
          replace hb11 : Blk w11 b10 (.cells #[.int .i64 s.val.a, .int .i64 s.val.b] _ (0, 0)) := hb11
          refine wl_valE (v := .bool true) rfl (rf_assign rfl) rfl ?_
          refine wl_nil ?_
          refine thn ?_
          refine seq_ ?_
          obtain ⟨bz, oz, cz, ez, _, _, _, hcellz⟩ := h2_w11.get (by omega)
          cases ez
          refine region_q mixedP (by kernel_rfl) ?_
          refine qt_valE (v := .bool true) rfl (fun wq hq => rf_move rfl) rfl ?_
          refine qt_valE (v := .bool false) rfl (fun wq hq => rf_not rfl rfl) rfl ?_
          refine qt_valE (v := .bool false) rfl (fun wq hq => rf_move rfl) rfl ?_
          refine qt_guardT rfl rfl rfl rfl ?_
          refine qt_valE (v := .agg #[.int .i64 s.val.a, .int .i64 s.val.b]) rfl (fun wq hq => rf_loadBlk Try.underlying28 rfl ti28 rfl rfl (hb11.keep hq) (Nat.le_of_ble_eq_true rfl)) rfl ?_
          refine qt_guardT rfl rfl rfl rfl ?_
          refine qt_valE (v := .slice (some ⟨bx2, ox2, none⟩) A.length c2) rfl (fun wq hq => rf_move rfl) rfl ?_
          refine qt_guardT rfl rfl rfl rfl ?_
          refine qt_valE (v := .int .i64 ((y : Nat) : Int)) rfl (fun wq hq => rf_move rfl) rfl ?_
          refine qt_guardT rfl rfl rfl rfl ?_
          refine qt_valE (v := .pointer (some ⟨bx2, ox2 + y * 2, none⟩)) rfl (fun wq hq => rf_indexAddr Try.underlying32 ti28 rfl rfl rfl rfl (by omega) (by omega)) rfl ?_
          refine qt_guardT rfl rfl rfl rfl ?_
          refine qt_valE (v := .agg #[.int .i64 s.val.a, .int .i64 s.val.b]) rfl (fun wq hq => rf_loadAgg Try.underlying28 rfl ti28 rfl rfl (fun jq uq hjq => hq.cell ((el_cells (hcellz y _ hay)) jq uq hjq) (fun h => h)) rfl) rfl ?_
          refine qt_guardT rfl rfl rfl rfl ?_
          refine qt_valE (v := .bool false) rfl (fun wq hq => rf_neqS (by kernel_rfl) (eqPV s.val s.val _) rfl rfl rfl rfl) (congrArg Value.bool (by simp)) ?_
          refine qt_valE (v := .bool false) rfl (fun wq hq => rf_pickF rfl rfl rfl rfl) rfl ?_
          refine qt_nil ?_
          intro w12 hk12
          have hdd_w12 := hdd_w11.keep hk12
          have h1_w12 := h1_w11.keep hk12
          have h2_w12 := h2_w11.keep hk12
          have hkw_w12 := hkw_w11.comp hk12 (fun _ _ e => e.elim)
          have hkl0_w12 := hkl0_w11.comp hk12 (fun _ _ e => e.elim)
          have hkl3_w12 := hkl3_w11.comp hk12 (fun _ _ e => e.elim)
          have hb10_w12 := hb11.keep hk12
          have hs12 := hk12.size
          refine thn ?_
          refine condF rfl rfl ?_
          refine skip_ ?_
          refine bln ?_
          refine thn ?_
          refine region_ ?_
          refine wl_valE (v := .int .i64 ((y : Nat) : Int)) rfl (rf_move rfl) rfl ?_
          refine wl_valE (v := .int .i64 ((y + 1 : Nat) : Int)) rfl (rf_add rfl rfl rfl rfl (IntWalk.i64_in _ (by omega))) rfl ?_
          refine wl_valE (v := .int .i64 ((y + 1 : Nat) : Int)) rfl (rf_assign rfl) rfl ?_
          refine wl_nil ?_
          refine thn ?_
          refine ⟨lk3 - 1, _, rfl, (by omega), _, y + 1, upds_self ⟨rfl, rfl, rfl, rfl, rfl, trivial⟩, ?_⟩
          exact ⟨by omega, hkl3_w12⟩
        · have c83p := of_decide_eq_false c83
          refine exit_ ?_
          refine thx (thx (blx ?_))
          refine thn ?_
          refine seq_ ?_
          refine region_ ?_
          refine wl_valE (v := .int .i64 ((c : Nat) : Int)) rfl (rf_move rfl) rfl ?_
          refine wl_valE (v := .slice a1 K.length c1) rfl (rf_move rfl) rfl ?_
          refine wl_valE (v := .int .i64 ((K.length : Nat) : Int)) rfl (rf_len_slice Try.underlying31 rfl rfl) rfl ?_
          refine wl_valE (v := .bool true) rfl (rf_eql rfl rfl rfl rfl) (congrArg Value.bool (decide_eq_true (by rw [hcq, List.filter_eq_self.2 (fun s _ => by have := Nat.mod_lt (lonF s.key) hpos; simp; omega), hOl.1]))) ?_
          refine wl_valE (v := .bool true) rfl (rf_assign rfl) rfl ?_
          refine wl_nil ?_
          refine thn ?_
          refine ret_ ?_
          refine fin1 (v := .bool true) Try.results9 rfl rfl ?_
          exact ⟨rfl, hkw_wo⟩

/-- A Dict and what it holds: K, the keys, A, their values, in the order in which they came; T: its blocks. -/
def HsG (w : World) (b i : Nat) (K : List ByteArray) (A : List PairV) (T : Nat → Prop) : Prop :=
  ∃ (bp : Nat) (rs : List Nat) (ls : List (List (ByteArray × SlotG))) (S : List SlotG) (came n : Int), DictG w b bp rs ls came n ∧ DIG ls S came n ∧ OdG S K A ∧ ls.length ≤ 256 ∧ came ≤ i ∧ (∀ y, fpD b bp rs y → T y)
theorem HsG.kp {w w' : World} {b i : Nat} {K : List ByteArray} {A : List PairV} {T S : Nat → Prop} (h : HsG w b i K A T) (hk : Kp S w w') (hs : ∀ y, T y → ¬ S y) : HsG w' b i K A T := by
  obtain ⟨bp, rs, ls, S0, came, n, h1, h2, h3, h4, h5, h6⟩ := h
  exact ⟨bp, rs, ls, S0, came, n, h1.kp hk (fun x hx => hs x (h6 x hx)), h2, h3, h4, h5, h6⟩
theorem HsG.keep {w w' : World} {b i : Nat} {K : List ByteArray} {A : List PairV} {T : Nat → Prop} (h : HsG w b i K A T) (hk : Kp none_ w w') : HsG w' b i K A T := h.kp hk (fun _ _ h => h)
theorem HsG.new {w : World} {b m bp : Nat} {rs : List Nat} {T : Nat → Prop} (hm : 1 ≤ m) (hm2 : m ≤ 256) (h1 : DictG w b bp rs (List.replicate m []) 0 0) (h4 : ∀ y, fpD b bp rs y → T y) : HsG w b 0 [] [] T :=
  ⟨bp, rs, _, [], 0, 0, h1, DIG.new (by omega), ⟨rfl, rfl⟩, by simpa using hm2, by simp, h4⟩
theorem HsG.len {w : World} {b i : Nat} {K : List ByteArray} {A : List PairV} {T : Nat → Prop} (h : HsG w b i K A T) : A.length = K.length := by
  obtain ⟨bp, rs, ls, S0, came, n, h1, h2, h3, h4, h5, h6⟩ := h
  have := h3.len; omega
theorem HsG.take {w : World} {b i : Nat} {K : List ByteArray} {A : List PairV} {T : Nat → Prop} (h : HsG w b i K A T) (hK : K.length ≤ 1048576) (k : ByteArray) (hsz : k.size ≤ 9223372036854775807) (hd : PairV) (x : Bool) (K' : List ByteArray) (A' : List PairV)
    (hcase : ((∀ q ∈ K, q ≠ k) ∧ hd = ⟨0, 0⟩ ∧ x = false ∧ K' = K ∧ A' = A) ∨ ∃ j, K[j]? = some k ∧ A[j]? = some hd ∧ x = true ∧ K' = K.eraseIdx j ∧ A' = A.eraseIdx j) :
    Ret Try.prog 7 [.pointer (some ⟨b, 0, none⟩), .string k] w fun v w' => v = .tuple #[.agg #[.int .i64 hd.a, .int .i64 hd.b], .bool x] ∧ HsG w' b (i + 1) K' A' T ∧ Kp T w w' := by
  obtain ⟨bp, rs, ls, S, came, n, h1, h2, h3, h4, h5, h6⟩ := h
  have hl := h3.len
  refine Ret.mono (dTakeG k hsz b bp rs ls S came n w h1 h2 (by omega)) ?_
  rintro _ w' ⟨rfl, ls', n', g1, g2, g3, g4⟩
  have hk : Kp T w w' := g4.mono (fun y _ hy => h6 y (hy.elim .inl (fun h => .inr (.inr h))))
  rcases hcase with ⟨e1, rfl, rfl, rfl, rfl⟩ | ⟨j, e1, e2, rfl, rfl, rfl⟩
  · have hf := h3.no e1
    refine ⟨by unfold resG; rw [hf]; rfl, ⟨bp, rs, ls', _, came, n', g1, g2, ?_, by omega, by omega, h6⟩, hk⟩
    have : S.filter (fun s => decide (s.key ≠ k)) = S := List.filter_eq_self.2 (fun s hs => by unfold fndG at hf; rw [List.find?_eq_none] at hf; simpa using hf s hs)
    rw [this]; exact h3
  · obtain ⟨s, hf, _, _, hv⟩ := h3.yes h2.keys e1
    rw [e2] at hv
    cases hv
    exact ⟨by unfold resG; rw [hf]; rfl, ⟨bp, rs, ls', _, came, n', g1, g2, h3.del h2.keys e1, by omega, by omega, h6⟩, hk⟩
theorem HsG.put {w : World} {b i : Nat} {K : List ByteArray} {A : List PairV} {T : Nat → Prop} (h : HsG w b i K A T) (hi : i ≤ 1048576) (hK : K.length ≤ 1048576) (k : ByteArray) (hsz : k.size ≤ 9223372036854775807) (nv hd : PairV) (x : Bool) (K' : List ByteArray) (A' : List PairV)
    (hcase : ((∀ q ∈ K, q ≠ k) ∧ hd = ⟨0, 0⟩ ∧ x = false ∧ K' = K ++ [k] ∧ A' = A ++ [nv]) ∨ ∃ j, K[j]? = some k ∧ A[j]? = some hd ∧ x = true ∧ K' = K ∧ A' = A.set j nv) :
    Ret Try.prog 8 [.pointer (some ⟨b, 0, none⟩), .string k, .agg #[.int .i64 nv.a, .int .i64 nv.b]] w fun v w' => v = .tuple #[.agg #[.int .i64 hd.a, .int .i64 hd.b], .bool x] ∧ HsG w' b (i + 1) K' A' T ∧ Kp T w w' := by
  obtain ⟨bp, rs, ls, S, came, n, h1, h2, h3, h4, h5, h6⟩ := h
  have hl := h3.len
  refine Ret.mono (dPutG k hsz nv b bp rs ls S came n w h1 h2 (by omega) (by omega)) ?_
  rintro _ w' ⟨rfl, ls', came', n', g1, g2, g3, g5, g4⟩
  have hk : Kp T w w' := g4.mono (fun y _ hy => h6 y (hy.elim .inl (fun h => .inr (.inr h))))
  rcases hcase with ⟨e1, rfl, rfl, rfl, rfl⟩ | ⟨j, e1, e2, rfl, rfl, rfl⟩
  · have hf := h3.no e1
    exact ⟨by unfold resG; rw [hf]; rfl, ⟨bp, rs, ls', _, came', n', g1, g2, h3.putN hf nv came, by omega, by omega, h6⟩, hk⟩
  · obtain ⟨s, hf, _, _, hv⟩ := h3.yes h2.keys e1
    rw [e2] at hv
    cases hv
    exact ⟨by unfold resG; rw [hf]; rfl, ⟨bp, rs, ls', _, came', n', g1, g2, h3.putY h2.keys hf e1 nv came, by omega, by omega, h6⟩, hk⟩
theorem HsG.end_ {w : World} {b i : Nat} {K : List ByteArray} {A : List PairV} {T : Nat → Prop} (h : HsG w b i K A T) (hi : i ≤ 1048576) (hK : ∀ k ∈ K, k.size ≤ 9223372036854775807) (hl : K.length ≤ 1048576) (v1 v2 : Value) (F1 F2 : Nat → Prop) (h1 : Rd encStr 1 w F1 v1 K) (h2 : Rd encPV 2 w F2 v2 A) (hF1 : ∀ y, F1 y → y < w.heap.size) (hF2 : ∀ y, F2 y → y < w.heap.size) :
    Ret Try.prog 9 [.pointer (some ⟨b, 0, none⟩), v1, v2] w fun v w' => v = .bool true ∧ Kp none_ w w' := by
  obtain ⟨bp, rs, ls, S, came, n, g1, g2, g3, g4, g5, g6⟩ := h
  have := g3.len
  exact spreadG_ret b bp rs ls S came n w g1 g2 K A g3 hK v1 v2 F1 F2 h1 h2 hF1 hF2 (by omega) (by omega) g4
end Go.Proofs.Ytngpghddmehmhaa.W
