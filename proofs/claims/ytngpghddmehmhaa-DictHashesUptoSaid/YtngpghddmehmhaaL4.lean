import Derived.Test.YtngpghddmehmhaaL2S
import Derived.Test.YtngpghddmehmhaaL2G
import Derived.Test.YtngpghddmehmhaaL2Z
import Derived.KernelRfl
namespace Go.Proofs.Ytngpghddmehmhaa.W
open Go Go.Wk
set_option linter.unusedVariables false
set_option maxRecDepth 100000 in
set_option maxHeartbeats 4000000 in
theorem lawHashes_ret (c1 c2 : Int) (vp : Value) (Fp : Nat → Prop) (L : List TxtR) (w : World) (hL : L.length ≤ 1048576) (hT : ∀ x ∈ L, x.text.size ≤ 9223372036854775807) (hp : Rd encTx 3 w Fp vp L) (hFp : ∀ b, Fp b → b < w.heap.size) : Ret Try.prog 3 [.int .i64 c1, .int .i64 c2, vp] w fun v w' => v = .bool true ∧ Kp none_ w w' := by
  obtain ⟨m1, hm1, hm1b⟩ : ∃ m : Nat, m < 256 ∧ (IntKind.u64.wrap c1).tmod 256 = (m : Int) := by
    have h := u64_nn c1
    refine ⟨((IntKind.u64.wrap c1).tmod 256).toNat, ?_, ?_⟩ <;> rw [Int.tmod_eq_emod_of_nonneg h.1] <;> omega
  obtain ⟨m2, hm2, hm2b⟩ : ∃ m : Nat, m < 256 ∧ (IntKind.u64.wrap c2).tmod 256 = (m : Int) := by
    have h := u64_nn c2
    refine ⟨((IntKind.u64.wrap c2).tmod 256).toNat, ?_, ?_⟩ <;> rw [Int.tmod_eq_emod_of_nonneg h.1] <;> omega
  obtain ⟨pa, pcap, rfl, hpcap⟩ := hp.form
  have hkw : Kp none_ w w := Kp.refl w
  refine enterR Try.func3 rfl Try.ntmps3 rfl ?_
  intro g0
  refine seq_ ?_
  refine region_ ?_
  refine wl_valE (v := .bool false) rfl (rf_assign rfl) rfl ?_
  refine wl_nil ?_
  refine thn ?_
  refine seq_ ?_
  refine region_ ?_
  refine wl_valE (v := .int .i64 c1) rfl (rf_move rfl) rfl ?_
  refine wl_valE (v := .int .u64 (IntKind.u64.wrap c1)) rfl (rf_conv Try.underlying3 Try.underlying29 rfl rfl rfl) rfl ?_
  refine wl_valE (v := .int .u64 ((m1 : Nat) : Int)) rfl (rf_rem rfl rfl rfl rfl (by decide) hm1b) rfl ?_
  refine wl_valE (v := .int .i64 ((m1 : Nat) : Int)) rfl (rf_conv Try.underlying29 Try.underlying3 rfl rfl (IntWalk.i64_in _ (by omega))) rfl ?_
  refine wl_valE (v := .int .i64 ((1 + m1 : Nat) : Int)) rfl (rf_add rfl rfl rfl rfl (by rw [IntWalk.i64_in _ (by omega)]; omega)) rfl ?_
  refine wl_ret rfl (newDS_ret ((1 + m1 : Nat) : Int) w) (rf_call Try.call4 rfl rfl) ?_
  rintro vq w1 ⟨_, hv2⟩
  obtain ⟨bA, bpA, rsA, rfl, hdA, hknA, hfA⟩ := hv2 ⟨by omega, by omega⟩
  obtain ⟨VA, hVA⟩ : ∃ n, n = w.heap.size := ⟨_, rfl⟩
  obtain ⟨WA, hWA⟩ : ∃ n, n = w1.heap.size := ⟨_, rfl⟩
  obtain ⟨TA, hTA⟩ : ∃ T : Nat → Prop, ∀ y, T y ↔ (VA ≤ y ∧ y < WA) := ⟨fun y => VA ≤ y ∧ y < WA, fun _ => Iff.rfl⟩
  have hHA : HsS w1 bA 0 [] [] TA := HsS.new (m := 1 + m1) (by omega) (by omega) hdA (fun y hy => (hTA y).2 ⟨by rw [hVA]; exact hfA y hy, by rw [hWA]; exact hdA.lt y hy⟩)
  have hp_w1 := hp.keep hknA
  have hkw_w1 := hkw.comp hknA (fun _ _ e => e.elim)
  have hs1 := hknA.size
  refine wl_valE (v := .tuple #[.pointer (some ⟨bA, 0, none⟩), .int .i64 0]) rfl (rf_move rfl) rfl ?_
  refine wl_valE (v := .pointer (some ⟨bA, 0, none⟩)) rfl (rf_extract rfl rfl rfl) rfl ?_
  refine wl_valE (v := .int .i64 0) rfl (rf_extract rfl rfl rfl) rfl ?_
  refine wl_valE (v := .pointer (some ⟨bA, 0, none⟩)) rfl (rf_assign rfl) rfl ?_
  refine wl_valE (v := .int .i64 0) rfl (rf_assign rfl) rfl ?_
  refine wl_nil ?_
  refine thn ?_
  refine seq_ ?_
  refine region_ ?_
  refine wl_valE (v := .int .i64 c2) rfl (rf_move rfl) rfl ?_
  refine wl_valE (v := .int .u64 (IntKind.u64.wrap c2)) rfl (rf_conv Try.underlying3 Try.underlying29 rfl rfl rfl) rfl ?_
  refine wl_valE (v := .int .u64 ((m2 : Nat) : Int)) rfl (rf_rem rfl rfl rfl rfl (by decide) hm2b) rfl ?_
  refine wl_valE (v := .int .i64 ((m2 : Nat) : Int)) rfl (rf_conv Try.underlying29 Try.underlying3 rfl rfl (IntWalk.i64_in _ (by omega))) rfl ?_
  refine wl_valE (v := .int .i64 ((1 + m2 : Nat) : Int)) rfl (rf_add rfl rfl rfl rfl (by rw [IntWalk.i64_in _ (by omega)]; omega)) rfl ?_
  refine wl_ret rfl (newDG_ret ((1 + m2 : Nat) : Int) w1) (rf_call Try.call4 rfl rfl) ?_
  rintro vq w2 ⟨_, hv2⟩
  obtain ⟨bB, bpB, rsB, rfl, hdB, hknB, hfB⟩ := hv2 ⟨by omega, by omega⟩
  obtain ⟨VB, hVB⟩ : ∃ n, n = w1.heap.size := ⟨_, rfl⟩
  obtain ⟨WB, hWB⟩ : ∃ n, n = w2.heap.size := ⟨_, rfl⟩
  obtain ⟨TB, hTB⟩ : ∃ T : Nat → Prop, ∀ y, T y ↔ (VB ≤ y ∧ y < WB) := ⟨fun y => VB ≤ y ∧ y < WB, fun _ => Iff.rfl⟩
  have hHB : HsG w2 bB 0 [] [] TB := HsG.new (m := 1 + m2) (by omega) (by omega) hdB (fun y hy => (hTB y).2 ⟨by rw [hVB]; exact hfB y hy, by rw [hWB]; exact hdB.lt y hy⟩)
  have hp_w2 := hp_w1.keep hknB
  have hkw_w2 := hkw_w1.comp hknB (fun _ _ e => e.elim)
  have hHA_w2 := hHA.keep hknB
  have hs2 := hknB.size
  refine wl_valE (v := .tuple #[.pointer (some ⟨bB, 0, none⟩), .int .i64 0]) rfl (rf_move rfl) rfl ?_
  refine wl_valE (v := .pointer (some ⟨bB, 0, none⟩)) rfl (rf_extract rfl rfl rfl) rfl ?_
  refine wl_valE (v := .int .i64 0) rfl (rf_extract rfl rfl rfl) rfl ?_
  refine wl_valE (v := .pointer (some ⟨bB, 0, none⟩)) rfl (rf_assign rfl) rfl ?_
  refine wl_valE (v := .int .i64 0) rfl (rf_assign rfl) rfl ?_
  refine wl_nil ?_
  refine thn ?_
  refine seq_ ?_
  refine region_ ?_
  refine wl_ret rfl (newDZ_ret ((256 : Nat) : Int) w2) (rf_call Try.call4 rfl rfl) ?_
  rintro vq w3 ⟨_, hv2⟩
  obtain ⟨bC, bpC, rsC, rfl, hdC, hknC, hfC⟩ := hv2 ⟨by omega, by omega⟩
  obtain ⟨VC, hVC⟩ : ∃ n, n = w2.heap.size := ⟨_, rfl⟩
  obtain ⟨WC, hWC⟩ : ∃ n, n = w3.heap.size := ⟨_, rfl⟩
  obtain ⟨TC, hTC⟩ : ∃ T : Nat → Prop, ∀ y, T y ↔ (VC ≤ y ∧ y < WC) := ⟨fun y => VC ≤ y ∧ y < WC, fun _ => Iff.rfl⟩
  have hHC : HsZ w3 bC 0 [] [] TC := HsZ.new (m := 256) (by omega) (by omega) hdC (fun y hy => (hTC y).2 ⟨by rw [hVC]; exact hfC y hy, by rw [hWC]; exact hdC.lt y hy⟩)
  have hp_w3 := hp_w2.keep hknC
  have hkw_w3 := hkw_w2.comp hknC (fun _ _ e => e.elim)
  have hHA_w3 := hHA_w2.keep hknC
  have hHB_w3 := hHB.keep hknC
  have hs3 := hknC.size
  refine wl_valE (v := .tuple #[.pointer (some ⟨bC, 0, none⟩), .int .i64 0]) rfl (rf_move rfl) rfl ?_
  refine wl_valE (v := .pointer (some ⟨bC, 0, none⟩)) rfl (rf_extract rfl rfl rfl) rfl ?_
  refine wl_valE (v := .int .i64 0) rfl (rf_extract rfl rfl rfl) rfl ?_
  refine wl_valE (v := .pointer (some ⟨bC, 0, none⟩)) rfl (rf_assign rfl) rfl ?_
  refine wl_valE (v := .int .i64 0) rfl (rf_assign rfl) rfl ?_
  refine wl_nil ?_
  refine thn ?_
  refine seq_ ?_
  refine seq_ ?_
  refine region_ ?_
  refine wl_valE (v := .int .i64 0) rfl (rf_move rfl) rfl ?_
  refine wl_valE (v := .bool false) rfl (rf_neq rfl rfl rfl rfl) (congrArg Value.bool (by decide)) ?_
  refine wl_valE (v := .bool false) rfl (rf_move rfl) rfl ?_
  refine wl_guardT rfl rfl rfl rfl ?_
  refine wl_valE (v := .int .i64 0) rfl (rf_move rfl) rfl ?_
  refine wl_guardT rfl rfl rfl rfl ?_
  refine wl_valE (v := .bool false) rfl (rf_neq rfl rfl rfl rfl) (congrArg Value.bool (by decide)) ?_
  refine wl_valE (v := .bool false) rfl (rf_pickF rfl rfl rfl rfl) rfl ?_
  refine wl_valE (v := .bool false) rfl (rf_move rfl) rfl ?_
  refine wl_guardT rfl rfl rfl rfl ?_
  refine wl_valE (v := .int .i64 0) rfl (rf_move rfl) rfl ?_
  refine wl_guardT rfl rfl rfl rfl ?_
  refine wl_valE (v := .bool false) rfl (rf_neq rfl rfl rfl rfl) (congrArg Value.bool (by decide)) ?_
  refine wl_valE (v := .bool false) rfl (rf_pickF rfl rfl rfl rfl) rfl ?_
  refine wl_valE (v := .bool false) rfl (rf_move rfl) rfl ?_
  refine wl_guardT rfl rfl rfl rfl ?_
  refine wl_valE (v := .pointer (some ⟨bA, 0, none⟩)) rfl (rf_move rfl) rfl ?_
  refine wl_guardT rfl rfl rfl rfl ?_
  refine wl_valE (v := .bool false) rfl (rf_eqlPN Try.underlying23 rfl rfl rfl rfl) rfl ?_
  refine wl_valE (v := .bool false) rfl (rf_pickF rfl rfl rfl rfl) rfl ?_
  refine wl_valE (v := .bool false) rfl (rf_move rfl) rfl ?_
  refine wl_guardT rfl rfl rfl rfl ?_
  refine wl_valE (v := .pointer (some ⟨bB, 0, none⟩)) rfl (rf_move rfl) rfl ?_
  refine wl_guardT rfl rfl rfl rfl ?_
  refine wl_valE (v := .bool false) rfl (rf_eqlPN Try.underlying23 rfl rfl rfl rfl) rfl ?_
  refine wl_valE (v := .bool false) rfl (rf_pickF rfl rfl rfl rfl) rfl ?_
  refine wl_valE (v := .bool false) rfl (rf_move rfl) rfl ?_
  refine wl_guardT rfl rfl rfl rfl ?_
  refine wl_valE (v := .pointer (some ⟨bC, 0, none⟩)) rfl (rf_move rfl) rfl ?_
  refine wl_guardT rfl rfl rfl rfl ?_
  refine wl_valE (v := .bool false) rfl (rf_eqlPN Try.underlying23 rfl rfl rfl rfl) rfl ?_
  refine wl_valE (v := .bool false) rfl (rf_pickF rfl rfl rfl rfl) rfl ?_
  refine wl_nil ?_
  refine thn ?_
  refine condF rfl rfl ?_
  refine skip_ ?_
  refine thn ?_
  refine seq_ ?_
  refine region_ ?_
  refine wl_valE (v := .slice none 0 0) rfl (rf_assign rfl) rfl ?_
  refine wl_nil ?_
  refine thn ?_
  refine seq_ ?_
  refine region_ ?_
  refine wl_valE (v := .slice none 0 0) rfl (rf_assign rfl) rfl ?_
  refine wl_nil ?_
  refine thn ?_
  refine seq_ ?_
  refine seq_ ?_
  refine region_ ?_
  refine wl_valE (v := .int .i64 ((0 : Nat) : Int)) rfl (rf_assign rfl) rfl ?_
  refine wl_nil ?_
  refine thn ?_
  refine block_ ?_
  refine loop_ (fun lk lf lw => ∃ (g : Nat → Value) (i : Nat) (K : List ByteArray) (A : List PairV) (ov vv : Value) (GO GV : Nat → Prop), lf = upds g [(2, .slice pa L.length pcap), (7, .pointer (some ⟨bA, 0, none⟩)), (9, .pointer (some ⟨bB, 0, none⟩)), (11, .pointer (some ⟨bC, 0, none⟩)), (13, ov), (14, vv), (15, .int .i64 ((i : Nat) : Int))] ∧ i + lk = L.length ∧ HsS lw bA i K A TA ∧ HsG lw bB i K A TB ∧ HsZ lw bC i K A TC ∧ Sl encStr 1 9 lw GO ov K ∧ Sl encPV 2 28 lw GV vv A ∧ K.length ≤ i ∧ (∀ k ∈ K, k.size ≤ 9223372036854775807) ∧ (∀ y, GO y → WC ≤ y ∧ y < lw.heap.size) ∧ (∀ y, GV y → WC ≤ y ∧ y < lw.heap.size ∧ ¬ GO y) ∧ Kp (fun y => w.heap.size ≤ y) w3 lw) (L.length) ?_ ?_
  · refine ⟨_, 0, [], [], (.slice none 0 0), (.slice none 0 0), (fun _ => False), (fun _ => False), upds_self ⟨rfl, rfl, rfl, rfl, rfl, rfl, rfl, trivial⟩, ?_⟩
    exact ⟨by omega, hHA_w3, hHB_w3, hHC, Sl.nil _ _, Sl.nil _ _, by simp, (fun k hk => by cases hk), fun y h => h.elim, fun y h => h.elim, Kp.refl _⟩
  · intro lk0 lf0 wl hI0
    obtain ⟨gl0, i, K, A, ov, vv, GO, GV, rfl, hik, hHA, hHB, hHC, hOv, hVv, hKi, hKs, hGO, hGV, hkl0⟩ := hI0
    have hp_wl := hp_w3.kp hkl0 (fun y hy e => by have := hFp y hy; omega)
    have hkw_wl := hkw_w3.comp hkl0 (fun y hy e => by omega)
    have hsl := hkl0.size
    have hAK := hHA.len
    refine seq_ ?_
    refine seq_ ?_
    refine region_ ?_
    refine wl_valE (v := .int .i64 ((i : Nat) : Int)) rfl (rf_move rfl) rfl ?_
    refine wl_valE (v := .slice pa L.length pcap) rfl (rf_move rfl) rfl ?_
    refine wl_valE (v := .int .i64 ((L.length : Nat) : Int)) rfl (rf_len_slice Try.underlying22 rfl rfl) rfl ?_
    refine wl_valE (v := .bool (decide (((i : Nat) : Int) < ((L.length : Nat) : Int)))) rfl (rf_lss rfl rfl rfl rfl) rfl ?_
    refine wl_nil ?_
    refine thn ?_
    refine cond_ (t := decide (((i : Nat) : Int) < ((L.length : Nat) : Int))) rfl rfl (fun c80 => ?_) (fun c80 => ?_)
    · have c80p := of_decide_eq_true c80
      obtain ⟨o, ho⟩ : ∃ o, L[i]? = some o := ⟨_, List.getElem?_eq_getElem (by omega)⟩
      have hts := hT o (List.mem_of_getElem? ho)
      obtain ⟨oa, oc, hov, hoc⟩ := hOv.form
      subst hov
      obtain ⟨va, vc, hvv, hvc⟩ := hVv.form
      subst hvv
      obtain ⟨bx9, ox9, capx9, ex9, hcapx9, hFx9, hltx9, hcellx9⟩ := hp_wl.get (by omega)
      cases ex9
      refine skip_ ?_
      refine thn ?_
      refine seq_ ?_
      refine block_ ?_
      refine seq_ ?_
      refine region_ ?_
      refine wl_valE (v := .slice (some ⟨bx9, ox9, none⟩) L.length pcap) rfl (rf_move rfl) rfl ?_
      refine wl_valE (v := .int .i64 ((i : Nat) : Int)) rfl (rf_move rfl) rfl ?_
      refine wl_valE (v := .pointer (some ⟨bx9, ox9 + i * 3, none⟩)) rfl (rf_indexAddr Try.underlying22 ti34 rfl rfl rfl rfl (by omega) (by omega)) rfl ?_
      refine wl_valE (v := .agg #[.string o.text, .int .i64 o.num, .bool o.out]) rfl (rf_loadAgg Try.underlying34 rfl ti34 rfl rfl (el_cells (hcellx9 i o ho)) rfl) rfl ?_
      refine wl_alloc ti34 ?_
      intro b4 w4 hg4 hk4 hb4
      have hp_w4 := hp_wl.keep hk4
      have hkw_w4 := hkw_wl.comp hk4 (fun _ _ e => e.elim)
      have hkl0_w4 := hkl0.comp hk4 (fun _ _ e => e.elim)
      have hHA_w4 := hHA.keep hk4
      have hHB_w4 := hHB.keep hk4
      have hHC_w4 := hHC.keep hk4
      have hOv_w4 := hOv.keep hk4
      have hVv_w4 := hVv.keep hk4
      have hs4 := hk4.size
      refine wl_storeAgg (b := b4) (o := 0) (cs := [.string o.text, .int .i64 o.num, .bool o.out]) ti34 rfl rfl rfl rfl rfl (by simp [Value.oneCell']) hb4 (Nat.le_of_ble_eq_true rfl) ?_
      intro w5 hk5 hb5
      have hp_w5 := hp_w4.kp hk5 (fun y hy e => by have := hFp y hy; omega)
      have hkw_w5 := hkw_w4.comp hk5 (fun y hy e => by omega)
      have hkl0_w5 := hkl0_w4.comp hk5 (fun y hy e => by omega)
      have hHA_w5 := hHA_w4.kp hk5 (fun y hy e => by have := (hTA y).1 hy; omega)
      have hHB_w5 := hHB_w4.kp hk5 (fun y hy e => by have := (hTB y).1 hy; omega)
      have hHC_w5 := hHC_w4.kp hk5 (fun y hy e => by have := (hTC y).1 hy; omega)
      have hOv_w5 := hOv_w4.kp hk5 (fun y hy e => by have := hGO y hy; omega)
      have hVv_w5 := hVv_w4.kp hk5 (fun y hy e => by have := hGV y hy; omega)
      have hs5 := hk5.size
      replace hb5 : Blk w5 b4 (.cells #[.string o.text, .int .i64 o.num, .bool o.out] _ (0, 0)) := hb5
      refine wl_nil ?_
      refine thn ?_
      refine seq_ ?_
      refine region_ ?_
      refine wl_valE (v := .int .i64 (-1 : Int)) rfl (rf_assign rfl) rfl ?_
      refine wl_nil ?_
      refine thn ?_
      refine seq_ ?_
      refine seq_ ?_
      refine region_ ?_
      refine wl_valE (v := .int .i64 ((0 : Nat) : Int)) rfl (rf_assign rfl) rfl ?_
      refine wl_nil ?_
      refine thn ?_
      refine block_ ?_
      refine loop_ (fun lk lf lw => ∃ (g : Nat → Value) (j : Nat) (at_ : Int), lf = upds g [(2, .slice (some ⟨bx9, ox9, none⟩) L.length pcap), (7, .pointer (some ⟨bA, 0, none⟩)), (9, .pointer (some ⟨bB, 0, none⟩)), (11, .pointer (some ⟨bC, 0, none⟩)), (13, .slice oa K.length oc), (14, .slice va A.length vc), (15, .int .i64 ((i : Nat) : Int)), (16, .pointer (some ⟨b4, 0, none⟩)), (17, .int .i64 at_), (18, .int .i64 ((j : Nat) : Int)), (77, .int .i64 ((i : Nat) : Int)), (78, .slice (some ⟨bx9, ox9, none⟩) L.length pcap), (79, .int .i64 ((L.length : Nat) : Int)), (80, .bool (decide (((i : Nat) : Int) < ((L.length : Nat) : Int)))), (83, .slice (some ⟨bx9, ox9, none⟩) L.length pcap), (84, .int .i64 ((i : Nat) : Int)), (85, .pointer (some ⟨bx9, ox9 + i * 3, none⟩)), (86, .agg #[.string o.text, .int .i64 o.num, .bool o.out])] ∧ j + lk = K.length ∧ ((at_ = -1 ∧ ∀ (z : Nat) (k : ByteArray), z < j → K[z]? = some k → k ≠ o.text) ∨ ∃ z : Nat, at_ = (z : Int) ∧ z < j ∧ K[z]? = some o.text) ∧ Kp (none_) w5 lw) (K.length) ?_ ?_
      · refine ⟨_, 0, (-1 : Int), upds_self ⟨rfl, rfl, rfl, rfl, rfl, rfl, rfl, rfl, rfl, rfl, rfl, rfl, rfl, rfl, rfl, rfl, rfl, rfl, trivial⟩, ?_⟩
        exact ⟨by omega, .inl ⟨rfl, fun z k hz => by omega⟩, Kp.refl _⟩
      · intro lk1 lf1 wm hI1
        obtain ⟨gl1, j, at_, rfl, hjk, hat, hkl1⟩ := hI1
        have hp_wm := hp_w5.keep hkl1
        have hkw_wm := hkw_w5.comp hkl1 (fun _ _ e => e.elim)
        have hkl0_wm := hkl0_w5.comp hkl1 (fun _ _ e => e.elim)
        have hHA_wm := hHA_w5.keep hkl1
        have hHB_wm := hHB_w5.keep hkl1
        have hHC_wm := hHC_w5.keep hkl1
        have hOv_wm := hOv_w5.keep hkl1
        have hVv_wm := hVv_w5.keep hkl1
        have hb4_wm := hb5.keep hkl1
        have hsm := hkl1.size
        refine seq_ ?_
        refine seq_ ?_
        refine region_ ?_
        refine wl_valE (v := .int .i64 ((j : Nat) : Int)) rfl (rf_move rfl) rfl ?_
        refine wl_valE (v := .slice oa K.length oc) rfl (rf_move rfl) rfl ?_
        refine wl_valE (v := .int .i64 ((K.length : Nat) : Int)) rfl (rf_len_slice Try.underlying31 rfl rfl) rfl ?_
        refine wl_valE (v := .bool (decide (((j : Nat) : Int) < ((K.length : Nat) : Int)))) rfl (rf_lss rfl rfl rfl rfl) rfl ?_
        refine wl_nil ?_
        refine thn ?_
        refine cond_ (t := decide (((j : Nat) : Int) < ((K.length : Nat) : Int))) rfl rfl (fun c90 => ?_) (fun c90 => ?_)
        · have c90p := of_decide_eq_true c90
          obtain ⟨kk, hkj⟩ : ∃ k, K[j]? = some k := ⟨_, List.getElem?_eq_getElem (by omega)⟩
          obtain ⟨Ob, Oo, oc2, et, hOF, hOt⟩ := hOv_wm.at (by omega)
          simp only [Value.slice.injEq] at et
          obtain ⟨rfl, _, rfl⟩ := et
          have hOF2 := hGO _ hOF
          refine skip_ ?_
          refine thn ?_
          refine seq_ ?_
          refine block_ ?_
          refine seq_ ?_
          refine region_q mixedP (by kernel_rfl) ?_
          refine qt_valE (v := .slice (some ⟨Ob, Oo, none⟩) K.length oc) rfl (fun wq hq => rf_move rfl) rfl ?_
          refine qt_valE (v := .int .i64 ((j : Nat) : Int)) rfl (fun wq hq => rf_move rfl) rfl ?_
          refine qt_valE (v := .pointer (some ⟨Ob, Oo + j, none⟩)) rfl (fun wq hq => rf_indexAddr Try.underlying31 ti9 rfl rfl rfl rfl (by omega) (by omega)) (by simp) ?_
          refine qt_valE (v := .string kk) rfl (fun wq hq => rf_load Try.underlying9 rfl rfl rfl (hq.cell (el1 (hOt.cell hkj 0 _ rfl)) (fun h => h))) rfl ?_
          refine qt_valE (v := .pointer (some ⟨b4, 0, none⟩)) rfl (fun wq hq => rf_fieldAddr Try.underlying34 rfl ti9 rfl rfl) rfl ?_
          refine qt_valE (v := .string o.text) rfl (fun wq hq => rf_load Try.underlying9 rfl rfl rfl ((hb4_wm.keep hq).cell rfl)) rfl ?_
          refine qt_valE (v := .bool (decide (kk = o.text))) rfl (fun wq hq => rf_eqlStr rfl rfl rfl rfl) rfl ?_
          refine qt_nil ?_
          intro w6 hk6
          have hp_w6 := hp_wm.keep hk6
          have hkw_w6 := hkw_wm.comp hk6 (fun _ _ e => e.elim)
          have hkl0_w6 := hkl0_wm.comp hk6 (fun _ _ e => e.elim)
          have hHA_w6 := hHA_wm.keep hk6
          have hHB_w6 := hHB_wm.keep hk6
          have hHC_w6 := hHC_wm.keep hk6
          have hOv_w6 := hOv_wm.keep hk6
          have hVv_w6 := hVv_wm.keep hk6
          have hb4_w6 := hb4_wm.keep hk6
          have hkl1_w6 := hkl1.comp hk6 (fun _ _ e => e.elim)
          have hOt_w6 := hOt.keep hk6
          have hs6 := hk6.size
          refine thn ?_
          refine cond_ (t := decide (kk = o.text)) rfl rfl (fun c99 => ?_) (fun c99 => ?_)
          · have c99p := of_decide_eq_true c99
            refine region_ ?_
            refine wl_valE (v := .int .i64 ((j : Nat) : Int)) rfl (rf_move rfl) rfl ?_
            refine wl_valE (v := .int .i64 ((j : Nat) : Int)) rfl (rf_assign rfl) rfl ?_
            refine wl_nil ?_
            refine bln ?_
            refine thn ?_
            refine region_ ?_
            refine wl_valE (v := .int .i64 ((j : Nat) : Int)) rfl (rf_move rfl) rfl ?_
            refine wl_valE (v := .int .i64 ((j + 1 : Nat) : Int)) rfl (rf_add rfl rfl rfl rfl (IntWalk.i64_in _ (by omega))) rfl ?_
            refine wl_valE (v := .int .i64 ((j + 1 : Nat) : Int)) rfl (rf_assign rfl) rfl ?_
            refine wl_nil ?_
            refine thn ?_
            refine ⟨lk1 - 1, _, rfl, (by omega), _, j + 1, ((j : Nat) : Int), upds_self ⟨rfl, rfl, rfl, rfl, rfl, rfl, rfl, rfl, rfl, rfl, rfl, rfl, rfl, rfl, rfl, rfl, rfl, rfl, trivial⟩, ?_⟩
            exact ⟨by omega, .inr ⟨j, rfl, by omega, by rw [hkj, c99p]⟩, hkl1_w6⟩
          · have c99p := of_decide_eq_false c99
            refine skip_ ?_
            refine bln ?_
            refine thn ?_
            refine region_ ?_
            refine wl_valE (v := .int .i64 ((j : Nat) : Int)) rfl (rf_move rfl) rfl ?_
            refine wl_valE (v := .int .i64 ((j + 1 : Nat) : Int)) rfl (rf_add rfl rfl rfl rfl (IntWalk.i64_in _ (by omega))) rfl ?_
            refine wl_valE (v := .int .i64 ((j + 1 : Nat) : Int)) rfl (rf_assign rfl) rfl ?_
            refine wl_nil ?_
            refine thn ?_
            refine ⟨lk1 - 1, _, rfl, (by omega), _, j + 1, at_, upds_self ⟨rfl, rfl, rfl, rfl, rfl, rfl, rfl, rfl, rfl, rfl, rfl, rfl, rfl, rfl, rfl, rfl, rfl, rfl, trivial⟩, ?_⟩
            refine ⟨by omega, ?_, hkl1_w6⟩
            rcases hat with ⟨h1, h2⟩ | ⟨z, h1, h2, h3⟩
            · refine .inl ⟨h1, fun z k hz hk => ?_⟩
              rcases Nat.lt_or_eq_of_le (Nat.le_of_lt_succ hz) with h | h
              · exact h2 z k h hk
              · subst h; rw [hkj] at hk; cases hk; exact c99p
            · exact .inr ⟨z, h1, by omega, h3⟩
        · have c90p := of_decide_eq_false c90
          have hat2 : (at_ = -1 ∧ ∀ q ∈ K, q ≠ o.text) ∨ ∃ z : Nat, at_ = (z : Int) ∧ K[z]? = some o.text := by
            rcases hat with ⟨h1, h2⟩ | ⟨z, h1, h2, h3⟩
            · exact .inl ⟨h1, fun q hq => by obtain ⟨z, hz⟩ := List.getElem?_of_mem hq; exact h2 z q (by have := (List.getElem?_eq_some_iff.1 hz).1; omega) hz⟩
            · exact .inr ⟨z, h1, h3⟩
          refine exit_ ?_
          refine thx (thx (blx ?_))
          refine thn ?_
          refine seq_ ?_
          refine region_ ?_
          refine wl_valE (v := .agg #[.int .i64 ((0 : Nat) : Int), .int .i64 ((0 : Nat) : Int)]) rfl (rf_build (offs := []) (places := #[(0, 1), (1, 1)]) Try.underlying28 ti28 (fun w => by kernel_rfl) .nil) rfl ?_
          refine wl_alloc ti28 ?_
          intro b7 w7 hg7 hk7 hb7
          have ne7_b4 : b4 ≠ b7 := Nat.ne_of_lt (Nat.lt_of_lt_of_le hb4_wm.lt hg7)
          have hp_w7 := hp_wm.keep hk7
          have hkw_w7 := hkw_wm.comp hk7 (fun _ _ e => e.elim)
          have hkl0_w7 := hkl0_wm.comp hk7 (fun _ _ e => e.elim)
          have hHA_w7 := hHA_wm.keep hk7
          have hHB_w7 := hHB_wm.keep hk7
          have hHC_w7 := hHC_wm.keep hk7
          have hOv_w7 := hOv_wm.keep hk7
          have hVv_w7 := hVv_wm.keep hk7
          have hb4_w7 := hb4_wm.keep hk7
          have hs7 := hk7.size
          refine wl_storeAgg (b := b7) (o := 0) (cs := [.int .i64 ((0 : Nat) : Int), .int .i64 ((0 : Nat) : Int)]) ti28 rfl rfl rfl rfl rfl (by simp [Value.oneCell']) hb7 (Nat.le_of_ble_eq_true rfl) ?_
          intro w8 hk8 hb8
          have hp_w8 := hp_w7.kp hk8 (fun y hy e => by have := hFp y hy; omega)
          have hkw_w8 := hkw_w7.comp hk8 (fun y hy e => by omega)
          have hkl0_w8 := hkl0_w7.comp hk8 (fun y hy e => by omega)
          have hHA_w8 := hHA_w7.kp hk8 (fun y hy e => by have := (hTA y).1 hy; omega)
          have hHB_w8 := hHB_w7.kp hk8 (fun y hy e => by have := (hTB y).1 hy; omega)
          have hHC_w8 := hHC_w7.kp hk8 (fun y hy e => by have := (hTC y).1 hy; omega)
          have hOv_w8 := hOv_w7.kp hk8 (fun y hy e => by have := hGO y hy; omega)
          have hVv_w8 := hVv_w7.kp hk8 (fun y hy e => by have := hGV y hy; omega)
          have hb4_w8 := hb4_w7.kp hk8 ne7_b4
          have hs8 := hk8.size
          replace hb8 : Blk w8 b7 (.cells #[.int .i64 ((0 : Nat) : Int), .int .i64 ((0 : Nat) : Int)] _ (0, 0)) := hb8
          refine wl_nil ?_
          refine thn ?_
          refine seq_ ?_
          refine seq_ ?_
          refine region_ ?_
          refine wl_valE (v := .int .i64 at_) rfl (rf_move rfl) rfl ?_
          refine wl_valE (v := .bool (decide (((0 : Nat) : Int) ≤ at_))) rfl (rf_geq rfl rfl rfl rfl) rfl ?_
          refine wl_nil ?_
          refine thn ?_
          refine cond_ (t := decide (((0 : Nat) : Int) ≤ at_)) rfl rfl (fun c103 => ?_) (fun c103 => ?_)
          · have c103p := of_decide_eq_true c103
            obtain ⟨z, rfl, hkz⟩ : ∃ z : Nat, at_ = (z : Int) ∧ K[z]? = some o.text := by
              rcases hat2 with ⟨h1, _⟩ | h
              · omega
              · exact h
            have hzl := (List.getElem?_eq_some_iff.1 hkz).1
            obtain ⟨hd, hav⟩ : ∃ a, A[z]? = some a := ⟨_, List.getElem?_eq_getElem (by omega)⟩
            obtain ⟨Ob, Oo, oc2, et, hOF, hOt⟩ := hOv_w8.at (by omega)
            simp only [Value.slice.injEq] at et
            obtain ⟨rfl, _, rfl⟩ := et
            obtain ⟨Vb, Vo, vc2, et, hVF0, hVt⟩ := hVv_w8.at (by omega)
            simp only [Value.slice.injEq] at et
            obtain ⟨rfl, _, rfl⟩ := et
            have hOF2 := hGO _ hOF
            have hVF := hGV _ hVF0
            have hVO : Vb ≠ Ob := fun e => hVF.2.2 (e ▸ hOF)
            obtain ⟨xb, hxb⟩ : ∃ b : Bool, b = true := ⟨_, rfl⟩
            obtain ⟨K2, hK2⟩ : ∃ q, q = K.eraseIdx z := ⟨_, rfl⟩
            obtain ⟨A2, hA2⟩ : ∃ q, q = A.eraseIdx z := ⟨_, rfl⟩
            obtain ⟨K3, hK3⟩ : ∃ q, q = K := ⟨_, rfl⟩
            obtain ⟨A3, hA3⟩ : ∃ q, q = A.set z (⟨o.num, ((i : Nat) : Int)⟩ : PairV) := ⟨_, rfl⟩
            have hcT : ((∀ q ∈ K, q ≠ o.text) ∧ hd = ⟨0, 0⟩ ∧ xb = false ∧ K2 = K ∧ A2 = A) ∨ ∃ j, K[j]? = some o.text ∧ A[j]? = some hd ∧ xb = true ∧ K2 = K.eraseIdx j ∧ A2 = A.eraseIdx j := .inr ⟨z, hkz, hav, hxb, hK2, hA2⟩
            have hcP : ((∀ q ∈ K, q ≠ o.text) ∧ hd = ⟨0, 0⟩ ∧ xb = false ∧ K3 = K ++ [o.text] ∧ A3 = A ++ [⟨o.num, ((i : Nat) : Int)⟩]) ∨ ∃ j, K[j]? = some o.text ∧ A[j]? = some hd ∧ xb = true ∧ K3 = K ∧ A3 = A.set j ⟨o.num, ((i : Nat) : Int)⟩ := .inr ⟨z, hkz, hav, hxb, hK3, hA3⟩
            refine region_ ?_
            refine wl_valE (v := .slice (some ⟨Vb, Vo, none⟩) A.length vc) rfl (rf_move rfl) rfl ?_
            refine wl_valE (v := .int .i64 ((z : Nat) : Int)) rfl (rf_move rfl) rfl ?_
            refine wl_valE (v := .pointer (some ⟨Vb, Vo + z * 2, none⟩)) rfl (rf_indexAddr Try.underlying32 ti28 rfl rfl rfl rfl (by omega) (by omega)) rfl ?_
            refine wl_valE (v := .agg #[.int .i64 hd.a, .int .i64 hd.b]) rfl (rf_loadAgg Try.underlying28 rfl ti28 rfl rfl (el_cells (hVt.cell hav)) rfl) rfl ?_
            refine wl_storeAgg (b := b7) (o := 0) (cs := [.int .i64 hd.a, .int .i64 hd.b]) ti28 rfl rfl rfl rfl rfl (by simp [Value.oneCell']) hb8 (Nat.le_of_ble_eq_true rfl) ?_
            intro w9 hk9 hb9
            have hp_w9 := hp_w8.kp hk9 (fun y hy e => by have := hFp y hy; omega)
            have hkw_w9 := hkw_w8.comp hk9 (fun y hy e => by omega)
            have hkl0_w9 := hkl0_w8.comp hk9 (fun y hy e => by omega)
            have hHA_w9 := hHA_w8.kp hk9 (fun y hy e => by have := (hTA y).1 hy; omega)
            have hHB_w9 := hHB_w8.kp hk9 (fun y hy e => by have := (hTB y).1 hy; omega)
            have hHC_w9 := hHC_w8.kp hk9 (fun y hy e => by have := (hTC y).1 hy; omega)
            have hb4_w9 := hb4_w8.kp hk9 ne7_b4
            have hOt_w9 := hOt.kp hk9 (by omega)
            have hVt_w9 := hVt.kp hk9 (by omega)
            have hs9 := hk9.size
            replace hb9 : Blk w9 b7 (.cells #[.int .i64 hd.a, .int .i64 hd.b] _ (0, 0)) := hb9
            refine wl_nil ?_
            refine thn ?_
            refine seq_ ?_
            refine region_ ?_
            refine wl_valE (v := .pointer (some ⟨b4, 1, none⟩)) rfl (rf_fieldAddr Try.underlying34 rfl ti3 rfl rfl) rfl ?_
            refine wl_valE (v := .int .i64 o.num) rfl (rf_load Try.underlying3 rfl rfl rfl (hb4_w9.cell rfl)) rfl ?_
            refine wl_valE (v := .int .i64 ((i : Nat) : Int)) rfl (rf_move rfl) rfl ?_
            refine wl_valE (v := .agg #[.int .i64 o.num, .int .i64 ((i : Nat) : Int)]) rfl (rf_build (offs := [(0, [.int .i64 o.num]), (1, [.int .i64 ((i : Nat) : Int)])]) (places := #[(0, 1), (1, 1)]) Try.underlying28 ti28 (fun w => by kernel_rfl) (.cons rfl rfl rfl rfl rfl rfl (.cons rfl rfl rfl rfl rfl rfl .nil))) rfl ?_
            refine wl_alloc ti28 ?_
            intro b10 w10 hg10 hk10 hb10
            have ne10_b4 : b4 ≠ b10 := Nat.ne_of_lt (Nat.lt_of_lt_of_le hb4_w9.lt hg10)
            have ne10_Ob : Ob ≠ b10 := Nat.ne_of_lt (Nat.lt_of_lt_of_le hOt_w9.lt hg10)
            have ne10_Vb : Vb ≠ b10 := Nat.ne_of_lt (Nat.lt_of_lt_of_le hVt_w9.lt hg10)
            have ne10_b7 : b7 ≠ b10 := Nat.ne_of_lt (Nat.lt_of_lt_of_le hb9.lt hg10)
            have hp_w10 := hp_w9.keep hk10
            have hkw_w10 := hkw_w9.comp hk10 (fun _ _ e => e.elim)
            have hkl0_w10 := hkl0_w9.comp hk10 (fun _ _ e => e.elim)
            have hHA_w10 := hHA_w9.keep hk10
            have hHB_w10 := hHB_w9.keep hk10
            have hHC_w10 := hHC_w9.keep hk10
            have hb4_w10 := hb4_w9.keep hk10
            have hOt_w10 := hOt_w9.keep hk10
            have hVt_w10 := hVt_w9.keep hk10
            have hb7_w10 := hb9.keep hk10
            have hs10 := hk10.size
            refine wl_storeAgg (b := b10) (o := 0) (cs := [.int .i64 o.num, .int .i64 ((i : Nat) : Int)]) ti28 rfl rfl rfl rfl rfl (by simp [Value.oneCell']) hb10 (Nat.le_of_ble_eq_true rfl) ?_
            intro w11 hk11 hb11
            have hp_w11 := hp_w10.kp hk11 (fun y hy e => by have := hFp y hy; omega)
            have hkw_w11 := hkw_w10.comp hk11 (fun y hy e => by omega)
            have hkl0_w11 := hkl0_w10.comp hk11 (fun y hy e => by omega)
            have hHA_w11 := hHA_w10.kp hk11 (fun y hy e => by have := (hTA y).1 hy; omega)
            have hHB_w11 := hHB_w10.kp hk11 (fun y hy e => by have := (hTB y).1 hy; omega)
            have hHC_w11 := hHC_w10.kp hk11 (fun y hy e => by have := (hTC y).1 hy; omega)
            have hb4_w11 := hb4_w10.kp hk11 ne10_b4
            have hOt_w11 := hOt_w10.kp hk11 ne10_Ob
            have hVt_w11 := hVt_w10.kp hk11 ne10_Vb
            have hb7_w11 := hb7_w10.kp hk11 ne10_b7
            have hs11 := hk11.size
            replace hb11 : Blk w11 b10 (.cells #[.int .i64 o.num, .int .i64 ((i : Nat) : Int)] _ (0, 0)) := hb11
            refine wl_nil ?_
            refine thn ?_
            refine seq_ ?_
            refine seq_ ?_
            refine region_ ?_
            refine wl_valE (v := .pointer (some ⟨b4, 2, none⟩)) rfl (rf_fieldAddr Try.underlying34 rfl ti4 rfl rfl) rfl ?_
            refine wl_valE (v := .bool o.out) rfl (rf_load Try.underlying4 rfl rfl rfl (hb4_w11.cell rfl)) rfl ?_
            refine wl_nil ?_
            refine thn ?_
            refine cond_ (t := o.out) rfl rfl (fun c113 => ?_) (fun c113 => ?_)
            · refine seq_ ?_
              refine region_ ?_
              refine wl_valE (v := .pointer (some ⟨bA, 0, none⟩)) rfl (rf_move rfl) rfl ?_
              refine wl_valE (v := .pointer (some ⟨b4, 0, none⟩)) rfl (rf_fieldAddr Try.underlying34 rfl ti9 rfl rfl) rfl ?_
              refine wl_valE (v := .string o.text) rfl (rf_load Try.underlying9 rfl rfl rfl (hb4_w11.cell rfl)) rfl ?_
              refine wl_ret rfl (HsS.take hHA_w11 (by omega) o.text hts hd xb K2 A2 hcT) (rf_call Try.call7 rfl rfl) ?_
              rintro vq w12 ⟨rfl, hHA2, hk12⟩
              have hp_w12 := hp_w11.kp hk12 (fun y hy e => by have := hFp y hy; have := (hTA y).1 e; omega)
              have hkw_w12 := hkw_w11.comp hk12 (fun y hy e => by have := (hTA y).1 e; omega)
              have hkl0_w12 := hkl0_w11.comp hk12 (fun y hy e => by have := (hTA y).1 e; omega)
              have hHB_w12 := hHB_w11.kp hk12 (fun y hy e => by have := (hTB y).1 hy; have := (hTA y).1 e; omega)
              have hHC_w12 := hHC_w11.kp hk12 (fun y hy e => by have := (hTC y).1 hy; have := (hTA y).1 e; omega)
              have hb4_w12 := hb4_w11.kp hk12 (fun e => by have := (hTA _).1 e; omega)
              have hOt_w12 := hOt_w11.kp hk12 (fun e => by have := (hTA _).1 e; omega)
              have hVt_w12 := hVt_w11.kp hk12 (fun e => by have := (hTA _).1 e; omega)
              have hb7_w12 := hb7_w11.kp hk12 (fun e => by have := (hTA _).1 e; omega)
              have hb10_w12 := hb11.kp hk12 (fun e => by have := (hTA _).1 e; omega)
              have hs12 := hk12.size
              refine wl_valE (v := .tuple #[.agg #[.int .i64 hd.a, .int .i64 hd.b], .bool xb]) rfl (rf_move rfl) rfl ?_
              refine wl_valE (v := .agg #[.int .i64 hd.a, .int .i64 hd.b]) rfl (rf_extract rfl rfl rfl) rfl ?_
              refine wl_valE (v := .bool xb) rfl (rf_extract rfl rfl rfl) rfl ?_
              refine wl_alloc ti28 ?_
              intro b13 w13 hg13 hk13 hb13
              have ne13_b4 : b4 ≠ b13 := Nat.ne_of_lt (Nat.lt_of_lt_of_le hb4_w12.lt hg13)
              have ne13_Ob : Ob ≠ b13 := Nat.ne_of_lt (Nat.lt_of_lt_of_le hOt_w12.lt hg13)
              have ne13_Vb : Vb ≠ b13 := Nat.ne_of_lt (Nat.lt_of_lt_of_le hVt_w12.lt hg13)
              have ne13_b7 : b7 ≠ b13 := Nat.ne_of_lt (Nat.lt_of_lt_of_le hb7_w12.lt hg13)
              have ne13_b10 : b10 ≠ b13 := Nat.ne_of_lt (Nat.lt_of_lt_of_le hb10_w12.lt hg13)
              have hp_w13 := hp_w12.keep hk13
              have hkw_w13 := hkw_w12.comp hk13 (fun _ _ e => e.elim)
              have hkl0_w13 := hkl0_w12.comp hk13 (fun _ _ e => e.elim)
              have hHB_w13 := hHB_w12.keep hk13
              have hHC_w13 := hHC_w12.keep hk13
              have hb4_w13 := hb4_w12.keep hk13
              have hOt_w13 := hOt_w12.keep hk13
              have hVt_w13 := hVt_w12.keep hk13
              have hb7_w13 := hb7_w12.keep hk13
              have hb10_w13 := hb10_w12.keep hk13
              have hHA2_w13 := hHA2.keep hk13
              have hs13 := hk13.size
              refine wl_storeAgg (b := b13) (o := 0) (cs := [.int .i64 hd.a, .int .i64 hd.b]) ti28 rfl rfl rfl rfl rfl (by simp [Value.oneCell']) hb13 (Nat.le_of_ble_eq_true rfl) ?_
              intro w14 hk14 hb14
              have hp_w14 := hp_w13.kp hk14 (fun y hy e => by have := hFp y hy; omega)
              have hkw_w14 := hkw_w13.comp hk14 (fun y hy e => by omega)
              have hkl0_w14 := hkl0_w13.comp hk14 (fun y hy e => by omega)
              have hHB_w14 := hHB_w13.kp hk14 (fun y hy e => by have := (hTB y).1 hy; omega)
              have hHC_w14 := hHC_w13.kp hk14 (fun y hy e => by have := (hTC y).1 hy; omega)
              have hb4_w14 := hb4_w13.kp hk14 ne13_b4
              have hOt_w14 := hOt_w13.kp hk14 ne13_Ob
              have hVt_w14 := hVt_w13.kp hk14 ne13_Vb
              have hb7_w14 := hb7_w13.kp hk14 ne13_b7
              have hb10_w14 := hb10_w13.kp hk14 ne13_b10
              have hHA2_w14 := hHA2_w13.kp hk14 (fun y hy e => by have := (hTA y).1 hy; omega)
              have hs14 := hk14.size
              replace hb14 : Blk w14 b13 (.cells #[.int .i64 hd.a, .int .i64 hd.b] _ (0, 0)) := hb14
              refine wl_valE (v := .bool xb) rfl (rf_assign rfl) rfl ?_
              refine wl_nil ?_
              refine thn ?_
              refine seq_ ?_
              refine region_ ?_
              refine wl_valE (v := .pointer (some ⟨bB, 0, none⟩)) rfl (rf_move rfl) rfl ?_
              refine wl_valE (v := .pointer (some ⟨b4, 0, none⟩)) rfl (rf_fieldAddr Try.underlying34 rfl ti9 rfl rfl) rfl ?_
              refine wl_valE (v := .string o.text) rfl (rf_load Try.underlying9 rfl rfl rfl (hb4_w14.cell rfl)) rfl ?_
              refine wl_ret rfl (HsG.take hHB_w14 (by omega) o.text hts hd xb K2 A2 hcT) (rf_call Try.call7 rfl rfl) ?_
              rintro vq w15 ⟨rfl, hHB2, hk15⟩
              have hp_w15 := hp_w14.kp hk15 (fun y hy e => by have := hFp y hy; have := (hTB y).1 e; omega)
              have hkw_w15 := hkw_w14.comp hk15 (fun y hy e => by have := (hTB y).1 e; omega)
              have hkl0_w15 := hkl0_w14.comp hk15 (fun y hy e => by have := (hTB y).1 e; omega)
              have hHC_w15 := hHC_w14.kp hk15 (fun y hy e => by have := (hTC y).1 hy; have := (hTB y).1 e; omega)
              have hb4_w15 := hb4_w14.kp hk15 (fun e => by have := (hTB _).1 e; omega)
              have hOt_w15 := hOt_w14.kp hk15 (fun e => by have := (hTB _).1 e; omega)
              have hVt_w15 := hVt_w14.kp hk15 (fun e => by have := (hTB _).1 e; omega)
              have hb7_w15 := hb7_w14.kp hk15 (fun e => by have := (hTB _).1 e; omega)
              have hb10_w15 := hb10_w14.kp hk15 (fun e => by have := (hTB _).1 e; omega)
              have hHA2_w15 := hHA2_w14.kp hk15 (fun y hy e => by have := (hTA y).1 hy; have := (hTB y).1 e; omega)
              have hb13_w15 := hb14.kp hk15 (fun e => by have := (hTB _).1 e; omega)
              have hs15 := hk15.size
              refine wl_valE (v := .tuple #[.agg #[.int .i64 hd.a, .int .i64 hd.b], .bool xb]) rfl (rf_move rfl) rfl ?_
              refine wl_valE (v := .agg #[.int .i64 hd.a, .int .i64 hd.b]) rfl (rf_extract rfl rfl rfl) rfl ?_
              refine wl_valE (v := .bool xb) rfl (rf_extract rfl rfl rfl) rfl ?_
              refine wl_alloc ti28 ?_
              intro b16 w16 hg16 hk16 hb16
              have ne16_b4 : b4 ≠ b16 := Nat.ne_of_lt (Nat.lt_of_lt_of_le hb4_w15.lt hg16)
              have ne16_Ob : Ob ≠ b16 := Nat.ne_of_lt (Nat.lt_of_lt_of_le hOt_w15.lt hg16)
              have ne16_Vb : Vb ≠ b16 := Nat.ne_of_lt (Nat.lt_of_lt_of_le hVt_w15.lt hg16)
              have ne16_b7 : b7 ≠ b16 := Nat.ne_of_lt (Nat.lt_of_lt_of_le hb7_w15.lt hg16)
              have ne16_b10 : b10 ≠ b16 := Nat.ne_of_lt (Nat.lt_of_lt_of_le hb10_w15.lt hg16)
              have ne16_b13 : b13 ≠ b16 := Nat.ne_of_lt (Nat.lt_of_lt_of_le hb13_w15.lt hg16)
              have hp_w16 := hp_w15.keep hk16
              have hkw_w16 := hkw_w15.comp hk16 (fun _ _ e => e.elim)
              have hkl0_w16 := hkl0_w15.comp hk16 (fun _ _ e => e.elim)
              have hHC_w16 := hHC_w15.keep hk16
              have hb4_w16 := hb4_w15.keep hk16
              have hOt_w16 := hOt_w15.keep hk16
              have hVt_w16 := hVt_w15.keep hk16
              have hb7_w16 := hb7_w15.keep hk16
              have hb10_w16 := hb10_w15.keep hk16
              have hHA2_w16 := hHA2_w15.keep hk16
              have hb13_w16 := hb13_w15.keep hk16
              have hHB2_w16 := hHB2.keep hk16
              have hs16 := hk16.size
              refine wl_storeAgg (b := b16) (o := 0) (cs := [.int .i64 hd.a, .int .i64 hd.b]) ti28 rfl rfl rfl rfl rfl (by simp [Value.oneCell']) hb16 (Nat.le_of_ble_eq_true rfl) ?_
              intro w17 hk17 hb17
              have hp_w17 := hp_w16.kp hk17 (fun y hy e => by have := hFp y hy; omega)
              have hkw_w17 := hkw_w16.comp hk17 (fun y hy e => by omega)
              have hkl0_w17 := hkl0_w16.comp hk17 (fun y hy e => by omega)
              have hHC_w17 := hHC_w16.kp hk17 (fun y hy e => by have := (hTC y).1 hy; omega)
              have hb4_w17 := hb4_w16.kp hk17 ne16_b4
              have hOt_w17 := hOt_w16.kp hk17 ne16_Ob
              have hVt_w17 := hVt_w16.kp hk17 ne16_Vb
              have hb7_w17 := hb7_w16.kp hk17 ne16_b7
              have hb10_w17 := hb10_w16.kp hk17 ne16_b10
              have hHA2_w17 := hHA2_w16.kp hk17 (fun y hy e => by have := (hTA y).1 hy; omega)
              have hb13_w17 := hb13_w16.kp hk17 ne16_b13
              have hHB2_w17 := hHB2_w16.kp hk17 (fun y hy e => by have := (hTB y).1 hy; omega)
              have hs17 := hk17.size
              replace hb17 : Blk w17 b16 (.cells #[.int .i64 hd.a, .int .i64 hd.b] _ (0, 0)) := hb17
              refine wl_valE (v := .bool xb) rfl (rf_assign rfl) rfl ?_
              refine wl_nil ?_
              refine thn ?_
              refine seq_ ?_
              refine region_ ?_
              refine wl_valE (v := .pointer (some ⟨bC, 0, none⟩)) rfl (rf_move rfl) rfl ?_
              refine wl_valE (v := .pointer (some ⟨b4, 0, none⟩)) rfl (rf_fieldAddr Try.underlying34 rfl ti9 rfl rfl) rfl ?_
              refine wl_valE (v := .string o.text) rfl (rf_load Try.underlying9 rfl rfl rfl (hb4_w17.cell rfl)) rfl ?_
              refine wl_ret rfl (HsZ.take hHC_w17 (by omega) o.text hts hd xb K2 A2 hcT) (rf_call Try.call7 rfl rfl) ?_
              rintro vq w18 ⟨rfl, hHC2, hk18⟩
              have hp_w18 := hp_w17.kp hk18 (fun y hy e => by have := hFp y hy; have := (hTC y).1 e; omega)
              have hkw_w18 := hkw_w17.comp hk18 (fun y hy e => by have := (hTC y).1 e; omega)
              have hkl0_w18 := hkl0_w17.comp hk18 (fun y hy e => by have := (hTC y).1 e; omega)
              have hb4_w18 := hb4_w17.kp hk18 (fun e => by have := (hTC _).1 e; omega)
              have hOt_w18 := hOt_w17.kp hk18 (fun e => by have := (hTC _).1 e; omega)
              have hVt_w18 := hVt_w17.kp hk18 (fun e => by have := (hTC _).1 e; omega)
              have hb7_w18 := hb7_w17.kp hk18 (fun e => by have := (hTC _).1 e; omega)
              have hb10_w18 := hb10_w17.kp hk18 (fun e => by have := (hTC _).1 e; omega)
              have hHA2_w18 := hHA2_w17.kp hk18 (fun y hy e => by have := (hTA y).1 hy; have := (hTC y).1 e; omega)
              have hb13_w18 := hb13_w17.kp hk18 (fun e => by have := (hTC _).1 e; omega)
              have hHB2_w18 := hHB2_w17.kp hk18 (fun y hy e => by have := (hTB y).1 hy; have := (hTC y).1 e; omega)
              have hb16_w18 := hb17.kp hk18 (fun e => by have := (hTC _).1 e; omega)
              have hs18 := hk18.size
              refine wl_valE (v := .tuple #[.agg #[.int .i64 hd.a, .int .i64 hd.b], .bool xb]) rfl (rf_move rfl) rfl ?_
              refine wl_valE (v := .agg #[.int .i64 hd.a, .int .i64 hd.b]) rfl (rf_extract rfl rfl rfl) rfl ?_
              refine wl_valE (v := .bool xb) rfl (rf_extract rfl rfl rfl) rfl ?_
              refine wl_alloc ti28 ?_
              intro b19 w19 hg19 hk19 hb19
              have ne19_b4 : b4 ≠ b19 := Nat.ne_of_lt (Nat.lt_of_lt_of_le hb4_w18.lt hg19)
              have ne19_Ob : Ob ≠ b19 := Nat.ne_of_lt (Nat.lt_of_lt_of_le hOt_w18.lt hg19)
              have ne19_Vb : Vb ≠ b19 := Nat.ne_of_lt (Nat.lt_of_lt_of_le hVt_w18.lt hg19)
              have ne19_b7 : b7 ≠ b19 := Nat.ne_of_lt (Nat.lt_of_lt_of_le hb7_w18.lt hg19)
              have ne19_b10 : b10 ≠ b19 := Nat.ne_of_lt (Nat.lt_of_lt_of_le hb10_w18.lt hg19)
              have ne19_b13 : b13 ≠ b19 := Nat.ne_of_lt (Nat.lt_of_lt_of_le hb13_w18.lt hg19)
              have ne19_b16 : b16 ≠ b19 := Nat.ne_of_lt (Nat.lt_of_lt_of_le hb16_w18.lt hg19)
              have hp_w19 := hp_w18.keep hk19
              have hkw_w19 := hkw_w18.comp hk19 (fun _ _ e => e.elim)
              have hkl0_w19 := hkl0_w18.comp hk19 (fun _ _ e => e.elim)
              have hb4_w19 := hb4_w18.keep hk19
              have hOt_w19 := hOt_w18.keep hk19
              have hVt_w19 := hVt_w18.keep hk19
              have hb7_w19 := hb7_w18.keep hk19
              have hb10_w19 := hb10_w18.keep hk19
              have hHA2_w19 := hHA2_w18.keep hk19
              have hb13_w19 := hb13_w18.keep hk19
              have hHB2_w19 := hHB2_w18.keep hk19
              have hb16_w19 := hb16_w18.keep hk19
              have hHC2_w19 := hHC2.keep hk19
              have hs19 := hk19.size
              refine wl_storeAgg (b := b19) (o := 0) (cs := [.int .i64 hd.a, .int .i64 hd.b]) ti28 rfl rfl rfl rfl rfl (by simp [Value.oneCell']) hb19 (Nat.le_of_ble_eq_true rfl) ?_
              intro w20 hk20 hb20
              have hp_w20 := hp_w19.kp hk20 (fun y hy e => by have := hFp y hy; omega)
              have hkw_w20 := hkw_w19.comp hk20 (fun y hy e => by omega)
              have hkl0_w20 := hkl0_w19.comp hk20 (fun y hy e => by omega)
              have hb4_w20 := hb4_w19.kp hk20 ne19_b4
              have hOt_w20 := hOt_w19.kp hk20 ne19_Ob
              have hVt_w20 := hVt_w19.kp hk20 ne19_Vb
              have hb7_w20 := hb7_w19.kp hk20 ne19_b7
              have hb10_w20 := hb10_w19.kp hk20 ne19_b10
              have hHA2_w20 := hHA2_w19.kp hk20 (fun y hy e => by have := (hTA y).1 hy; omega)
              have hb13_w20 := hb13_w19.kp hk20 ne19_b13
              have hHB2_w20 := hHB2_w19.kp hk20 (fun y hy e => by have := (hTB y).1 hy; omega)
              have hb16_w20 := hb16_w19.kp hk20 ne19_b16
              have hHC2_w20 := hHC2_w19.kp hk20 (fun y hy e => by have := (hTC y).1 hy; omega)
              have hs20 := hk20.size
              replace hb20 : Blk w20 b19 (.cells #[.int .i64 hd.a, .int .i64 hd.b] _ (0, 0)) := hb20
              refine wl_valE (v := .bool xb) rfl (rf_assign rfl) rfl ?_
              refine wl_nil ?_
              refine thn ?_
              refine seq_ ?_
              refine seq_ ?_
              refine region_ ?_
              refine wl_valE (v := .agg #[.int .i64 hd.a, .int .i64 hd.b]) rfl (rf_loadBlk Try.underlying28 rfl ti28 rfl rfl hb13_w20 (Nat.le_of_ble_eq_true rfl)) rfl ?_
              refine wl_valE (v := .agg #[.int .i64 hd.a, .int .i64 hd.b]) rfl (rf_loadBlk Try.underlying28 rfl ti28 rfl rfl hb7_w20 (Nat.le_of_ble_eq_true rfl)) rfl ?_
              refine wl_valE (v := .bool false) rfl (rf_neqS (by kernel_rfl) (eqPV hd hd _) rfl rfl rfl rfl) (congrArg Value.bool (by simp)) ?_
              refine wl_valE (v := .bool false) rfl (rf_move rfl) rfl ?_
              refine wl_guardT rfl rfl rfl rfl ?_
              refine wl_valE (v := .agg #[.int .i64 hd.a, .int .i64 hd.b]) rfl (rf_loadBlk Try.underlying28 rfl ti28 rfl rfl hb16_w20 (Nat.le_of_ble_eq_true rfl)) rfl ?_
              refine wl_guardT rfl rfl rfl rfl ?_
              refine wl_valE (v := .agg #[.int .i64 hd.a, .int .i64 hd.b]) rfl (rf_loadBlk Try.underlying28 rfl ti28 rfl rfl hb7_w20 (Nat.le_of_ble_eq_true rfl)) rfl ?_
              refine wl_guardT rfl rfl rfl rfl ?_
              refine wl_valE (v := .bool false) rfl (rf_neqS (by kernel_rfl) (eqPV hd hd _) rfl rfl rfl rfl) (congrArg Value.bool (by simp)) ?_
              refine wl_valE (v := .bool false) rfl (rf_pickF rfl rfl rfl rfl) rfl ?_
              refine wl_valE (v := .bool false) rfl (rf_move rfl) rfl ?_
              refine wl_guardT rfl rfl rfl rfl ?_
              refine wl_valE (v := .agg #[.int .i64 hd.a, .int .i64 hd.b]) rfl (rf_loadBlk Try.underlying28 rfl ti28 rfl rfl hb20 (Nat.le_of_ble_eq_true rfl)) rfl ?_
              refine wl_guardT rfl rfl rfl rfl ?_
              refine wl_valE (v := .agg #[.int .i64 hd.a, .int .i64 hd.b]) rfl (rf_loadBlk Try.underlying28 rfl ti28 rfl rfl hb7_w20 (Nat.le_of_ble_eq_true rfl)) rfl ?_
              refine wl_guardT rfl rfl rfl rfl ?_
              refine wl_valE (v := .bool false) rfl (rf_neqS (by kernel_rfl) (eqPV hd hd _) rfl rfl rfl rfl) (congrArg Value.bool (by simp)) ?_
              refine wl_valE (v := .bool false) rfl (rf_pickF rfl rfl rfl rfl) rfl ?_
              refine wl_valE (v := .bool false) rfl (rf_move rfl) rfl ?_
              refine wl_guardT rfl rfl rfl rfl ?_
              refine wl_valE (v := .bool xb) rfl (rf_move rfl) rfl ?_
              refine wl_guardT rfl rfl rfl rfl ?_
              refine wl_valE (v := .int .i64 ((z : Nat) : Int)) rfl (rf_move rfl) rfl ?_
              refine wl_guardT rfl rfl rfl rfl ?_
              refine wl_valE (v := .bool xb) rfl (rf_geq rfl rfl rfl rfl) (congrArg Value.bool (by rw [hxb]; simp)) ?_
              refine wl_guardT rfl rfl rfl rfl ?_
              refine wl_valE (v := .bool false) rfl (rf_neqB Try.underlying4 rfl rfl rfl rfl) (congrArg Value.bool (by simp)) ?_
              refine wl_valE (v := .bool false) rfl (rf_pickF rfl rfl rfl rfl) rfl ?_
              refine wl_valE (v := .bool false) rfl (rf_move rfl) rfl ?_
              refine wl_guardT rfl rfl rfl rfl ?_
              refine wl_valE (v := .bool xb) rfl (rf_move rfl) rfl ?_
              refine wl_guardT rfl rfl rfl rfl ?_
              refine wl_valE (v := .bool xb) rfl (rf_move rfl) rfl ?_
              refine wl_guardT rfl rfl rfl rfl ?_
              refine wl_valE (v := .bool false) rfl (rf_neqB Try.underlying4 rfl rfl rfl rfl) (congrArg Value.bool (by simp)) ?_
              refine wl_valE (v := .bool false) rfl (rf_pickF rfl rfl rfl rfl) rfl ?_
              refine wl_valE (v := .bool false) rfl (rf_move rfl) rfl ?_
              refine wl_guardT rfl rfl rfl rfl ?_
              refine wl_valE (v := .bool xb) rfl (rf_move rfl) rfl ?_
              refine wl_guardT rfl rfl rfl rfl ?_
              refine wl_valE (v := .bool xb) rfl (rf_move rfl) rfl ?_
              refine wl_guardT rfl rfl rfl rfl ?_
              refine wl_valE (v := .bool false) rfl (rf_neqB Try.underlying4 rfl rfl rfl rfl) (congrArg Value.bool (by simp)) ?_
              refine wl_valE (v := .bool false) rfl (rf_pickF rfl rfl rfl rfl) rfl ?_
              refine wl_nil ?_
              refine thn ?_
              refine condF rfl rfl ?_
              refine skip_ ?_
              refine thn ?_
              refine seq_ ?_
              refine seq_ ?_
              refine region_ ?_
              refine wl_valE (v := .int .i64 ((z : Nat) : Int)) rfl (rf_move rfl) rfl ?_
              refine wl_valE (v := .bool true) rfl (rf_geq rfl rfl rfl rfl) (congrArg Value.bool (by simp)) ?_
              refine wl_nil ?_
              refine thn ?_
              refine condT rfl rfl ?_
              refine seq_ ?_
              obtain ⟨W9, hW9⟩ : ∃ n, n = w20.heap.size := ⟨_, rfl⟩
              refine region_h (S := fun wq => Kp (none_) w20 wq) mixedP ?_
              intro w21 hk21
              have hp_w21 := hp_w20.keep hk21
              have hkw_w21 := hkw_w20.comp hk21 (fun _ _ e => e.elim)
              have hkl0_w21 := hkl0_w20.comp hk21 (fun _ _ e => e.elim)
              have hOt_w21 := hOt_w20.keep hk21
              have hVt_w21 := hVt_w20.keep hk21
              have hHA2_w21 := hHA2_w20.keep hk21
              have hHB2_w21 := hHB2_w20.keep hk21
              have hHC2_w21 := hHC2_w20.keep hk21
              have hs21 := hk21.size
              have hS21 : Kp (none_) w20 w21 := hk21
              refine wh_take (i := 1) (v := .slice (some ⟨Ob, Oo, none⟩) K.length oc) rfl (by kernel_rfl) (by kernel_rfl) (by kernel_rfl) hS21 rfl (fun wq hq => rf_move rfl) rfl ?_
              refine wh_take (i := 2) (v := .int .i64 ((z : Nat) : Int)) rfl (by kernel_rfl) (by kernel_rfl) (by kernel_rfl) hS21 rfl (fun wq hq => rf_move rfl) rfl ?_
              refine wh_take (i := 3) (v := .slice (some ⟨Ob, Oo, none⟩) z oc) rfl (by kernel_rfl) (by kernel_rfl) (by kernel_rfl) hS21 rfl (fun wq hq => rf_sliceTo (h := z) Try.underlying31 ti9 rfl rfl rfl rfl (by omega)) rfl ?_
              refine wh_take (i := 5) (v := .slice (some ⟨Ob, Oo, none⟩) K.length oc) rfl (by kernel_rfl) (by kernel_rfl) (by kernel_rfl) hS21 rfl (fun wq hq => rf_move rfl) rfl ?_
              refine wh_take (i := 6) (v := .int .i64 ((z : Nat) : Int)) rfl (by kernel_rfl) (by kernel_rfl) (by kernel_rfl) hS21 rfl (fun wq hq => rf_move rfl) rfl ?_
              refine wh_take (i := 7) (v := .int .i64 ((z + 1 : Nat) : Int)) rfl (by kernel_rfl) (by kernel_rfl) (by kernel_rfl) hS21 rfl (fun wq hq => rf_add rfl rfl rfl rfl (IntWalk.i64_in _ (by omega))) rfl ?_
              refine wh_take (i := 8) (v := (.slice (if oc = z + 1 then some ⟨Ob, Oo, none⟩ else (some (⟨Ob, Oo, none⟩ : Addr)).map (·.add ((z + 1) * 1))) (K.length - (z + 1)) (oc - (z + 1)))) rfl (by kernel_rfl) (by kernel_rfl) (by kernel_rfl) hS21 rfl (fun wq hq => rf_sliceFrom (l := z + 1) Try.underlying31 ti9 rfl rfl rfl rfl (by omega)) rfl ?_
              refine wh_one (i := 0) (by kernel_rfl) rfl ?_
              refine wl_buildSlice0 Try.underlying31 ti9 ?_
              intro b22 w22 hg22 hk22 hb22
              have ne22_Ob : Ob ≠ b22 := Nat.ne_of_lt (Nat.lt_of_lt_of_le hOt_w21.lt hg22)
              have ne22_Vb : Vb ≠ b22 := Nat.ne_of_lt (Nat.lt_of_lt_of_le hVt_w21.lt hg22)
              have hp_w22 := hp_w21.keep hk22
              have hkw_w22 := hkw_w21.comp hk22 (fun _ _ e => e.elim)
              have hkl0_w22 := hkl0_w21.comp hk22 (fun _ _ e => e.elim)
              have hOt_w22 := hOt_w21.keep hk22
              have hVt_w22 := hVt_w21.keep hk22
              have hHA2_w22 := hHA2_w21.keep hk22
              have hHB2_w22 := hHB2_w21.keep hk22
              have hHC2_w22 := hHC2_w21.keep hk22
              have hS_w22 := hS21.comp hk22 (fun _ _ e => e.elim)
              have hs22 := hk22.size
              refine wl_nil ?_
              refine wh_back hS_w22 ?_
              refine wh_one (i := 4) (by kernel_rfl) rfl ?_
              refine wl_append encStr_len encStr_one Try.underlying31 ti9 rfl rfl rfl rfl rfl ((SlAt.of_blk (l := ([] : List ByteArray)) encStr_len (by simp) hb22).sl (F := fun y => y = b22) rfl) ((((hOt_w22.rd (F := GO) hOF)).take z (by omega))) (by simp; omega) (by simp; omega) ?_
              intro v23 w23 hk23 ha23
              have hp_w23 := hp_w22.kp hk23 (fun y hy e => by have := hFp y hy; omega)
              have hkw_w23 := hkw_w22.comp hk23 (fun y hy e => by omega)
              have hkl0_w23 := hkl0_w22.comp hk23 (fun y hy e => by omega)
              have hOt_w23 := hOt_w22.kp hk23 (by omega)
              have hVt_w23 := hVt_w22.kp hk23 (by omega)
              have hHA2_w23 := hHA2_w22.kp hk23 (fun y hy e => by have := (hTA y).1 hy; omega)
              have hHB2_w23 := hHB2_w22.kp hk23 (fun y hy e => by have := (hTB y).1 hy; omega)
              have hHC2_w23 := hHC2_w22.kp hk23 (fun y hy e => by have := (hTC y).1 hy; omega)
              have hS_w23 := hS_w22.comp hk23 (fun b h e => by first | exact e | omega)
              have hs23 := hk23.size
              refine wl_nil ?_
              refine wh_back hS_w23 ?_
              refine wh_one (i := 9) (by kernel_rfl) rfl ?_
              refine wl_append encStr_len encStr_one Try.underlying31 ti9 rfl rfl rfl rfl rfl (ha23) ((slFrom hOt_w23 (F := GO) hOF (z + 1) (by omega))) (by simp; omega) (by simp; omega) ?_
              intro v24 w24 hk24 ha24
              have hp_w24 := hp_w23.kp hk24 (fun y hy e => by have := hFp y hy; omega)
              have hkw_w24 := hkw_w23.comp hk24 (fun y hy e => by omega)
              have hkl0_w24 := hkl0_w23.comp hk24 (fun y hy e => by omega)
              have hOt_w24 := hOt_w23.kp hk24 (by omega)
              have hVt_w24 := hVt_w23.kp hk24 (by omega)
              have hHA2_w24 := hHA2_w23.kp hk24 (fun y hy e => by have := (hTA y).1 hy; omega)
              have hHB2_w24 := hHB2_w23.kp hk24 (fun y hy e => by have := (hTB y).1 hy; omega)
              have hHC2_w24 := hHC2_w23.kp hk24 (fun y hy e => by have := (hTC y).1 hy; omega)
              have hS_w24 := hS_w23.comp hk24 (fun b h e => by first | exact e | omega)
              have hs24 := hk24.size
              replace ha24 := ha24.tight
              rw [er_eq] at ha24
              obtain ⟨W10, hW10⟩ : ∃ n, n = w24.heap.size := ⟨_, rfl⟩
              rw [← hW10] at ha24
              refine wl_nil ?_
              refine wh_back hS_w24 ?_
              refine wh_take (i := 10) (v := v24) rfl (by kernel_rfl) (by kernel_rfl) (by kernel_rfl) hS_w24 rfl (fun wq hq => rf_assign rfl) rfl ?_
              refine wh_done (by kernel_rfl) ?_
              refine thn ?_
              refine region_h (S := fun wq => Kp (none_) w24 wq) mixedP ?_
              intro w25 hk25
              have hp_w25 := hp_w24.keep hk25
              have hkw_w25 := hkw_w24.comp hk25 (fun _ _ e => e.elim)
              have hkl0_w25 := hkl0_w24.comp hk25 (fun _ _ e => e.elim)
              have hOt_w25 := hOt_w24.keep hk25
              have hVt_w25 := hVt_w24.keep hk25
              have hHA2_w25 := hHA2_w24.keep hk25
              have hHB2_w25 := hHB2_w24.keep hk25
              have hHC2_w25 := hHC2_w24.keep hk25
              have hon_w25 := ha24.keep hk25
              have hs25 := hk25.size
              have hS25 : Kp (none_) w24 w25 := hk25
              refine wh_take (i := 1) (v := .slice (some ⟨Vb, Vo, none⟩) A.length vc) rfl (by kernel_rfl) (by kernel_rfl) (by kernel_rfl) hS25 rfl (fun wq hq => rf_move rfl) rfl ?_
              refine wh_take (i := 2) (v := .int .i64 ((z : Nat) : Int)) rfl (by kernel_rfl) (by kernel_rfl) (by kernel_rfl) hS25 rfl (fun wq hq => rf_move rfl) rfl ?_
              refine wh_take (i := 3) (v := .slice (some ⟨Vb, Vo, none⟩) z vc) rfl (by kernel_rfl) (by kernel_rfl) (by kernel_rfl) hS25 rfl (fun wq hq => rf_sliceTo (h := z) Try.underlying32 ti28 rfl rfl rfl rfl (by omega)) rfl ?_
              refine wh_take (i := 5) (v := .slice (some ⟨Vb, Vo, none⟩) A.length vc) rfl (by kernel_rfl) (by kernel_rfl) (by kernel_rfl) hS25 rfl (fun wq hq => rf_move rfl) rfl ?_
              refine wh_take (i := 6) (v := .int .i64 ((z : Nat) : Int)) rfl (by kernel_rfl) (by kernel_rfl) (by kernel_rfl) hS25 rfl (fun wq hq => rf_move rfl) rfl ?_
              refine wh_take (i := 7) (v := .int .i64 ((z + 1 : Nat) : Int)) rfl (by kernel_rfl) (by kernel_rfl) (by kernel_rfl) hS25 rfl (fun wq hq => rf_add rfl rfl rfl rfl (IntWalk.i64_in _ (by omega))) rfl ?_
              refine wh_take (i := 8) (v := (.slice (if vc = z + 1 then some ⟨Vb, Vo, none⟩ else (some (⟨Vb, Vo, none⟩ : Addr)).map (·.add ((z + 1) * 2))) (A.length - (z + 1)) (vc - (z + 1)))) rfl (by kernel_rfl) (by kernel_rfl) (by kernel_rfl) hS25 rfl (fun wq hq => rf_sliceFrom (l := z + 1) Try.underlying32 ti28 rfl rfl rfl rfl (by omega)) rfl ?_
              refine wh_one (i := 0) (by kernel_rfl) rfl ?_
              refine wl_buildSlice0 Try.underlying32 ti28 ?_
              intro b26 w26 hg26 hk26 hb26
              have ne26_Ob : Ob ≠ b26 := Nat.ne_of_lt (Nat.lt_of_lt_of_le hOt_w25.lt hg26)
              have ne26_Vb : Vb ≠ b26 := Nat.ne_of_lt (Nat.lt_of_lt_of_le hVt_w25.lt hg26)
              have hp_w26 := hp_w25.keep hk26
              have hkw_w26 := hkw_w25.comp hk26 (fun _ _ e => e.elim)
              have hkl0_w26 := hkl0_w25.comp hk26 (fun _ _ e => e.elim)
              have hOt_w26 := hOt_w25.keep hk26
              have hVt_w26 := hVt_w25.keep hk26
              have hHA2_w26 := hHA2_w25.keep hk26
              have hHB2_w26 := hHB2_w25.keep hk26
              have hHC2_w26 := hHC2_w25.keep hk26
              have hon_w26 := hon_w25.keep hk26
              have hS_w26 := hS25.comp hk26 (fun _ _ e => e.elim)
              have hs26 := hk26.size
              refine wl_nil ?_
              refine wh_back hS_w26 ?_
              refine wh_one (i := 4) (by kernel_rfl) rfl ?_
              refine wl_append encPV_len encPV_one Try.underlying32 ti28 rfl rfl rfl rfl rfl ((SlAt.of_blk (l := ([] : List PairV)) encPV_len (by simp) hb26).sl (F := fun y => y = b26) rfl) ((((hVt_w26.rd (F := GV) hVF0)).take z (by omega))) (by simp; omega) (by simp; omega) ?_
              intro v27 w27 hk27 ha27
              have hp_w27 := hp_w26.kp hk27 (fun y hy e => by have := hFp y hy; omega)
              have hkw_w27 := hkw_w26.comp hk27 (fun y hy e => by omega)
              have hkl0_w27 := hkl0_w26.comp hk27 (fun y hy e => by omega)
              have hOt_w27 := hOt_w26.kp hk27 (by omega)
              have hVt_w27 := hVt_w26.kp hk27 (by omega)
              have hHA2_w27 := hHA2_w26.kp hk27 (fun y hy e => by have := (hTA y).1 hy; omega)
              have hHB2_w27 := hHB2_w26.kp hk27 (fun y hy e => by have := (hTB y).1 hy; omega)
              have hHC2_w27 := hHC2_w26.kp hk27 (fun y hy e => by have := (hTC y).1 hy; omega)
              have hon_w27 := hon_w26.kp hk27 (fun y hy e => by omega)
              have hS_w27 := hS_w26.comp hk27 (fun b h e => by first | exact e | omega)
              have hs27 := hk27.size
              refine wl_nil ?_
              refine wh_back hS_w27 ?_
              refine wh_one (i := 9) (by kernel_rfl) rfl ?_
              refine wl_append encPV_len encPV_one Try.underlying32 ti28 rfl rfl rfl rfl rfl (ha27) ((slFrom hVt_w27 (F := GV) hVF0 (z + 1) (by omega))) (by simp; omega) (by simp; omega) ?_
              intro v28 w28 hk28 ha28
              have hp_w28 := hp_w27.kp hk28 (fun y hy e => by have := hFp y hy; omega)
              have hkw_w28 := hkw_w27.comp hk28 (fun y hy e => by omega)
              have hkl0_w28 := hkl0_w27.comp hk28 (fun y hy e => by omega)
              have hOt_w28 := hOt_w27.kp hk28 (by omega)
              have hVt_w28 := hVt_w27.kp hk28 (by omega)
              have hHA2_w28 := hHA2_w27.kp hk28 (fun y hy e => by have := (hTA y).1 hy; omega)
              have hHB2_w28 := hHB2_w27.kp hk28 (fun y hy e => by have := (hTB y).1 hy; omega)
              have hHC2_w28 := hHC2_w27.kp hk28 (fun y hy e => by have := (hTC y).1 hy; omega)
              have hon_w28 := hon_w27.kp hk28 (fun y hy e => by omega)
              have hS_w28 := hS_w27.comp hk28 (fun b h e => by first | exact e | omega)
              have hs28 := hk28.size
              refine wl_nil ?_
              refine wh_back hS_w28 ?_
              refine wh_take (i := 10) (v := v28) rfl (by kernel_rfl) (by kernel_rfl) (by kernel_rfl) hS_w28 rfl (fun wq hq => rf_assign rfl) rfl ?_
              refine wh_done (by kernel_rfl) ?_
              refine thn ?_
              refine exit_ ?_
              refine thx (blx ?_)
              refine thn ?_
              refine region_ ?_
              refine wl_valE (v := .int .i64 ((i : Nat) : Int)) rfl (rf_move rfl) rfl ?_
              refine wl_valE (v := .int .i64 ((i + 1 : Nat) : Int)) rfl (rf_add rfl rfl rfl rfl (IntWalk.i64_in _ (by omega))) rfl ?_
              refine wl_valE (v := .int .i64 ((i + 1 : Nat) : Int)) rfl (rf_assign rfl) rfl ?_
              refine wl_nil ?_
              refine thn ?_
              refine ⟨lk0 - 1, _, rfl, (by omega), _, i + 1, K2, A2, (v24), (v28), (fun y => W9 ≤ y ∧ y < W10), (fun y => W10 ≤ y ∧ y < w28.heap.size), upds_self ⟨rfl, rfl, rfl, rfl, rfl, rfl, rfl, trivial⟩, ?_⟩
              have h2 := ha28.tight
              rw [er_eq] at h2
              exact ⟨by omega, hHA2_w28, hHB2_w28, hHC2_w28, by rw [hK2]; exact hon_w28.mono (fun y hy => ⟨by have := hy.1; omega, hy.2⟩), by rw [hA2]; exact h2.mono (fun y hy => ⟨by have := hy.1; omega, hy.2⟩), by rw [hK2]; exact Nat.le_trans (List.length_eraseIdx_le _ _) (by omega), fun k hk => hKs k (by rw [hK2] at hk; exact (List.eraseIdx_sublist K z).subset hk), fun y hy => by obtain ⟨h3, h4⟩ := hy; exact ⟨by omega, by omega⟩, fun y hy => by obtain ⟨h3, h4⟩ := hy; exact ⟨by omega, by omega, fun h => by obtain ⟨h5, h6⟩ := h; omega⟩, hkl0_w28⟩
            · refine skip_ ?_
              refine thn ?_
              refine seq_ ?_
              refine region_ ?_
              refine wl_valE (v := .pointer (some ⟨bA, 0, none⟩)) rfl (rf_move rfl) rfl ?_
              refine wl_valE (v := .pointer (some ⟨b4, 0, none⟩)) rfl (rf_fieldAddr Try.underlying34 rfl ti9 rfl rfl) rfl ?_
              refine wl_valE (v := .string o.text) rfl (rf_load Try.underlying9 rfl rfl rfl (hb4_w11.cell rfl)) rfl ?_
              refine wl_valE (v := .agg #[.int .i64 o.num, .int .i64 ((i : Nat) : Int)]) rfl (rf_loadBlk Try.underlying28 rfl ti28 rfl rfl hb11 (Nat.le_of_ble_eq_true rfl)) rfl ?_
              refine wl_ret rfl (HsS.put hHA_w11 (by omega) (by omega) o.text hts (⟨o.num, ((i : Nat) : Int)⟩ : PairV) hd xb K3 A3 hcP) (rf_call Try.call8 rfl rfl) ?_
              rintro vq w29 ⟨rfl, hHA2, hk29⟩
              have hp_w29 := hp_w11.kp hk29 (fun y hy e => by have := hFp y hy; have := (hTA y).1 e; omega)
              have hkw_w29 := hkw_w11.comp hk29 (fun y hy e => by have := (hTA y).1 e; omega)
              have hkl0_w29 := hkl0_w11.comp hk29 (fun y hy e => by have := (hTA y).1 e; omega)
              have hHB_w29 := hHB_w11.kp hk29 (fun y hy e => by have := (hTB y).1 hy; have := (hTA y).1 e; omega)
              have hHC_w29 := hHC_w11.kp hk29 (fun y hy e => by have := (hTC y).1 hy; have := (hTA y).1 e; omega)
              have hb4_w29 := hb4_w11.kp hk29 (fun e => by have := (hTA _).1 e; omega)
              have hOt_w29 := hOt_w11.kp hk29 (fun e => by have := (hTA _).1 e; omega)
              have hVt_w29 := hVt_w11.kp hk29 (fun e => by have := (hTA _).1 e; omega)
              have hb7_w29 := hb7_w11.kp hk29 (fun e => by have := (hTA _).1 e; omega)
              have hb10_w29 := hb11.kp hk29 (fun e => by have := (hTA _).1 e; omega)
              have hs29 := hk29.size
              refine wl_valE (v := .tuple #[.agg #[.int .i64 hd.a, .int .i64 hd.b], .bool xb]) rfl (rf_move rfl) rfl ?_
              refine wl_valE (v := .agg #[.int .i64 hd.a, .int .i64 hd.b]) rfl (rf_extract rfl rfl rfl) rfl ?_
              refine wl_valE (v := .bool xb) rfl (rf_extract rfl rfl rfl) rfl ?_
              refine wl_alloc ti28 ?_
              intro b30 w30 hg30 hk30 hb30
              have ne30_b4 : b4 ≠ b30 := Nat.ne_of_lt (Nat.lt_of_lt_of_le hb4_w29.lt hg30)
              have ne30_Ob : Ob ≠ b30 := Nat.ne_of_lt (Nat.lt_of_lt_of_le hOt_w29.lt hg30)
              have ne30_Vb : Vb ≠ b30 := Nat.ne_of_lt (Nat.lt_of_lt_of_le hVt_w29.lt hg30)
              have ne30_b7 : b7 ≠ b30 := Nat.ne_of_lt (Nat.lt_of_lt_of_le hb7_w29.lt hg30)
              have ne30_b10 : b10 ≠ b30 := Nat.ne_of_lt (Nat.lt_of_lt_of_le hb10_w29.lt hg30)
              have hp_w30 := hp_w29.keep hk30
              have hkw_w30 := hkw_w29.comp hk30 (fun _ _ e => e.elim)
              have hkl0_w30 := hkl0_w29.comp hk30 (fun _ _ e => e.elim)
              have hHB_w30 := hHB_w29.keep hk30
              have hHC_w30 := hHC_w29.keep hk30
              have hb4_w30 := hb4_w29.keep hk30
              have hOt_w30 := hOt_w29.keep hk30
              have hVt_w30 := hVt_w29.keep hk30
              have hb7_w30 := hb7_w29.keep hk30
              have hb10_w30 := hb10_w29.keep hk30
              have hHA2_w30 := hHA2.keep hk30
              have hs30 := hk30.size
              refine wl_storeAgg (b := b30) (o := 0) (cs := [.int .i64 hd.a, .int .i64 hd.b]) ti28 rfl rfl rfl rfl rfl (by simp [Value.oneCell']) hb30 (Nat.le_of_ble_eq_true rfl) ?_
              intro w31 hk31 hb31
              have hp_w31 := hp_w30.kp hk31 (fun y hy e => by have := hFp y hy; omega)
              have hkw_w31 := hkw_w30.comp hk31 (fun y hy e => by omega)
              have hkl0_w31 := hkl0_w30.comp hk31 (fun y hy e => by omega)
              have hHB_w31 := hHB_w30.kp hk31 (fun y hy e => by have := (hTB y).1 hy; omega)
              have hHC_w31 := hHC_w30.kp hk31 (fun y hy e => by have := (hTC y).1 hy; omega)
              have hb4_w31 := hb4_w30.kp hk31 ne30_b4
              have hOt_w31 := hOt_w30.kp hk31 ne30_Ob
              have hVt_w31 := hVt_w30.kp hk31 ne30_Vb
              have hb7_w31 := hb7_w30.kp hk31 ne30_b7
              have hb10_w31 := hb10_w30.kp hk31 ne30_b10
              have hHA2_w31 := hHA2_w30.kp hk31 (fun y hy e => by have := (hTA y).1 hy; omega)
              have hs31 := hk31.size
              replace hb31 : Blk w31 b30 (.cells #[.int .i64 hd.a, .int .i64 hd.b] _ (0, 0)) := hb31
              refine wl_valE (v := .bool xb) rfl (rf_assign rfl) rfl ?_
              refine wl_nil ?_
              refine thn ?_
              refine seq_ ?_
              refine region_ ?_
              refine wl_valE (v := .pointer (some ⟨bB, 0, none⟩)) rfl (rf_move rfl) rfl ?_
              refine wl_valE (v := .pointer (some ⟨b4, 0, none⟩)) rfl (rf_fieldAddr Try.underlying34 rfl ti9 rfl rfl) rfl ?_
              refine wl_valE (v := .string o.text) rfl (rf_load Try.underlying9 rfl rfl rfl (hb4_w31.cell rfl)) rfl ?_
              refine wl_valE (v := .agg #[.int .i64 o.num, .int .i64 ((i : Nat) : Int)]) rfl (rf_loadBlk Try.underlying28 rfl ti28 rfl rfl hb10_w31 (Nat.le_of_ble_eq_true rfl)) rfl ?_
              refine wl_ret rfl (HsG.put hHB_w31 (by omega) (by omega) o.text hts (⟨o.num, ((i : Nat) : Int)⟩ : PairV) hd xb K3 A3 hcP) (rf_call Try.call8 rfl rfl) ?_
              rintro vq w32 ⟨rfl, hHB2, hk32⟩
              have hp_w32 := hp_w31.kp hk32 (fun y hy e => by have := hFp y hy; have := (hTB y).1 e; omega)
              have hkw_w32 := hkw_w31.comp hk32 (fun y hy e => by have := (hTB y).1 e; omega)
              have hkl0_w32 := hkl0_w31.comp hk32 (fun y hy e => by have := (hTB y).1 e; omega)
              have hHC_w32 := hHC_w31.kp hk32 (fun y hy e => by have := (hTC y).1 hy; have := (hTB y).1 e; omega)
              have hb4_w32 := hb4_w31.kp hk32 (fun e => by have := (hTB _).1 e; omega)
              have hOt_w32 := hOt_w31.kp hk32 (fun e => by have := (hTB _).1 e; omega)
              have hVt_w32 := hVt_w31.kp hk32 (fun e => by have := (hTB _).1 e; omega)
              have hb7_w32 := hb7_w31.kp hk32 (fun e => by have := (hTB _).1 e; omega)
              have hb10_w32 := hb10_w31.kp hk32 (fun e => by have := (hTB _).1 e; omega)
              have hHA2_w32 := hHA2_w31.kp hk32 (fun y hy e => by have := (hTA y).1 hy; have := (hTB y).1 e; omega)
              have hb30_w32 := hb31.kp hk32 (fun e => by have := (hTB _).1 e; omega)
              have hs32 := hk32.size
              refine wl_valE (v := .tuple #[.agg #[.int .i64 hd.a, .int .i64 hd.b], .bool xb]) rfl (rf_move rfl) rfl ?_
              refine wl_valE (v := .agg #[.int .i64 hd.a, .int .i64 hd.b]) rfl (rf_extract rfl rfl rfl) rfl ?_
              refine wl_valE (v := .bool xb) rfl (rf_extract rfl rfl rfl) rfl ?_
              refine wl_alloc ti28 ?_
              intro b33 w33 hg33 hk33 hb33
              have ne33_b4 : b4 ≠ b33 := Nat.ne_of_lt (Nat.lt_of_lt_of_le hb4_w32.lt hg33)
              have ne33_Ob : Ob ≠ b33 := Nat.ne_of_lt (Nat.lt_of_lt_of_le hOt_w32.lt hg33)
              have ne33_Vb : Vb ≠ b33 := Nat.ne_of_lt (Nat.lt_of_lt_of_le hVt_w32.lt hg33)
              have ne33_b7 : b7 ≠ b33 := Nat.ne_of_lt (Nat.lt_of_lt_of_le hb7_w32.lt hg33)
              have ne33_b10 : b10 ≠ b33 := Nat.ne_of_lt (Nat.lt_of_lt_of_le hb10_w32.lt hg33)
              have ne33_b30 : b30 ≠ b33 := Nat.ne_of_lt (Nat.lt_of_lt_of_le hb30_w32.lt hg33)
              have hp_w33 := hp_w32.keep hk33
              have hkw_w33 := hkw_w32.comp hk33 (fun _ _ e => e.elim)
              have hkl0_w33 := hkl0_w32.comp hk33 (fun _ _ e => e.elim)
              have hHC_w33 := hHC_w32.keep hk33
              have hb4_w33 := hb4_w32.keep hk33
              have hOt_w33 := hOt_w32.keep hk33
              have hVt_w33 := hVt_w32.keep hk33
              have hb7_w33 := hb7_w32.keep hk33
              have hb10_w33 := hb10_w32.keep hk33
              have hHA2_w33 := hHA2_w32.keep hk33
              have hb30_w33 := hb30_w32.keep hk33
              have hHB2_w33 := hHB2.keep hk33
              have hs33 := hk33.size
              refine wl_storeAgg (b := b33) (o := 0) (cs := [.int .i64 hd.a, .int .i64 hd.b]) ti28 rfl rfl rfl rfl rfl (by simp [Value.oneCell']) hb33 (Nat.le_of_ble_eq_true rfl) ?_
              intro w34 hk34 hb34
              have hp_w34 := hp_w33.kp hk34 (fun y hy e => by have := hFp y hy; omega)
              have hkw_w34 := hkw_w33.comp hk34 (fun y hy e => by omega)
              have hkl0_w34 := hkl0_w33.comp hk34 (fun y hy e => by omega)
              have hHC_w34 := hHC_w33.kp hk34 (fun y hy e => by have := (hTC y).1 hy; omega)
              have hb4_w34 := hb4_w33.kp hk34 ne33_b4
              have hOt_w34 := hOt_w33.kp hk34 ne33_Ob
              have hVt_w34 := hVt_w33.kp hk34 ne33_Vb
              have hb7_w34 := hb7_w33.kp hk34 ne33_b7
              have hb10_w34 := hb10_w33.kp hk34 ne33_b10
              have hHA2_w34 := hHA2_w33.kp hk34 (fun y hy e => by have := (hTA y).1 hy; omega)
              have hb30_w34 := hb30_w33.kp hk34 ne33_b30
              have hHB2_w34 := hHB2_w33.kp hk34 (fun y hy e => by have := (hTB y).1 hy; omega)
              have hs34 := hk34.size
              replace hb34 : Blk w34 b33 (.cells #[.int .i64 hd.a, .int .i64 hd.b] _ (0, 0)) := hb34
              refine wl_valE (v := .bool xb) rfl (rf_assign rfl) rfl ?_
              refine wl_nil ?_
              refine thn ?_
              refine seq_ ?_
              refine region_ ?_
              refine wl_valE (v := .pointer (some ⟨bC, 0, none⟩)) rfl (rf_move rfl) rfl ?_
              refine wl_valE (v := .pointer (some ⟨b4, 0, none⟩)) rfl (rf_fieldAddr Try.underlying34 rfl ti9 rfl rfl) rfl ?_
              refine wl_valE (v := .string o.text) rfl (rf_load Try.underlying9 rfl rfl rfl (hb4_w34.cell rfl)) rfl ?_
              refine wl_valE (v := .agg #[.int .i64 o.num, .int .i64 ((i : Nat) : Int)]) rfl (rf_loadBlk Try.underlying28 rfl ti28 rfl rfl hb10_w34 (Nat.le_of_ble_eq_true rfl)) rfl ?_
              refine wl_ret rfl (HsZ.put hHC_w34 (by omega) (by omega) o.text hts (⟨o.num, ((i : Nat) : Int)⟩ : PairV) hd xb K3 A3 hcP) (rf_call Try.call8 rfl rfl) ?_
              rintro vq w35 ⟨rfl, hHC2, hk35⟩
              have hp_w35 := hp_w34.kp hk35 (fun y hy e => by have := hFp y hy; have := (hTC y).1 e; omega)
              have hkw_w35 := hkw_w34.comp hk35 (fun y hy e => by have := (hTC y).1 e; omega)
              have hkl0_w35 := hkl0_w34.comp hk35 (fun y hy e => by have := (hTC y).1 e; omega)
              have hb4_w35 := hb4_w34.kp hk35 (fun e => by have := (hTC _).1 e; omega)
              have hOt_w35 := hOt_w34.kp hk35 (fun e => by have := (hTC _).1 e; omega)
              have hVt_w35 := hVt_w34.kp hk35 (fun e => by have := (hTC _).1 e; omega)
              have hb7_w35 := hb7_w34.kp hk35 (fun e => by have := (hTC _).1 e; omega)
              have hb10_w35 := hb10_w34.kp hk35 (fun e => by have := (hTC _).1 e; omega)
              have hHA2_w35 := hHA2_w34.kp hk35 (fun y hy e => by have := (hTA y).1 hy; have := (hTC y).1 e; omega)
              have hb30_w35 := hb30_w34.kp hk35 (fun e => by have := (hTC _).1 e; omega)
              have hHB2_w35 := hHB2_w34.kp hk35 (fun y hy e => by have := (hTB y).1 hy; have := (hTC y).1 e; omega)
              have hb33_w35 := hb34.kp hk35 (fun e => by have := (hTC _).1 e; omega)
              have hs35 := hk35.size
              refine wl_valE (v := .tuple #[.agg #[.int .i64 hd.a, .int .i64 hd.b], .bool xb]) rfl (rf_move rfl) rfl ?_
              refine wl_valE (v := .agg #[.int .i64 hd.a, .int .i64 hd.b]) rfl (rf_extract rfl rfl rfl) rfl ?_
              refine wl_valE (v := .bool xb) rfl (rf_extract rfl rfl rfl) rfl ?_
              refine wl_alloc ti28 ?_
              intro b36 w36 hg36 hk36 hb36
              have ne36_b4 : b4 ≠ b36 := Nat.ne_of_lt (Nat.lt_of_lt_of_le hb4_w35.lt hg36)
              have ne36_Ob : Ob ≠ b36 := Nat.ne_of_lt (Nat.lt_of_lt_of_le hOt_w35.lt hg36)
              have ne36_Vb : Vb ≠ b36 := Nat.ne_of_lt (Nat.lt_of_lt_of_le hVt_w35.lt hg36)
              have ne36_b7 : b7 ≠ b36 := Nat.ne_of_lt (Nat.lt_of_lt_of_le hb7_w35.lt hg36)
              have ne36_b10 : b10 ≠ b36 := Nat.ne_of_lt (Nat.lt_of_lt_of_le hb10_w35.lt hg36)
              have ne36_b30 : b30 ≠ b36 := Nat.ne_of_lt (Nat.lt_of_lt_of_le hb30_w35.lt hg36)
              have ne36_b33 : b33 ≠ b36 := Nat.ne_of_lt (Nat.lt_of_lt_of_le hb33_w35.lt hg36)
              have hp_w36 := hp_w35.keep hk36
              have hkw_w36 := hkw_w35.comp hk36 (fun _ _ e => e.elim)
              have hkl0_w36 := hkl0_w35.comp hk36 (fun _ _ e => e.elim)
              have hb4_w36 := hb4_w35.keep hk36
              have hOt_w36 := hOt_w35.keep hk36
              have hVt_w36 := hVt_w35.keep hk36
              have hb7_w36 := hb7_w35.keep hk36
              have hb10_w36 := hb10_w35.keep hk36
              have hHA2_w36 := hHA2_w35.keep hk36
              have hb30_w36 := hb30_w35.keep hk36
              have hHB2_w36 := hHB2_w35.keep hk36
              have hb33_w36 := hb33_w35.keep hk36
              have hHC2_w36 := hHC2.keep hk36
              have hs36 := hk36.size
              refine wl_storeAgg (b := b36) (o := 0) (cs := [.int .i64 hd.a, .int .i64 hd.b]) ti28 rfl rfl rfl rfl rfl (by simp [Value.oneCell']) hb36 (Nat.le_of_ble_eq_true rfl) ?_
              intro w37 hk37 hb37
              have hp_w37 := hp_w36.kp hk37 (fun y hy e => by have := hFp y hy; omega)
              have hkw_w37 := hkw_w36.comp hk37 (fun y hy e => by omega)
              have hkl0_w37 := hkl0_w36.comp hk37 (fun y hy e => by omega)
              have hb4_w37 := hb4_w36.kp hk37 ne36_b4
              have hOt_w37 := hOt_w36.kp hk37 ne36_Ob
              have hVt_w37 := hVt_w36.kp hk37 ne36_Vb
              have hb7_w37 := hb7_w36.kp hk37 ne36_b7
              have hb10_w37 := hb10_w36.kp hk37 ne36_b10
              have hHA2_w37 := hHA2_w36.kp hk37 (fun y hy e => by have := (hTA y).1 hy; omega)
              have hb30_w37 := hb30_w36.kp hk37 ne36_b30
              have hHB2_w37 := hHB2_w36.kp hk37 (fun y hy e => by have := (hTB y).1 hy; omega)
              have hb33_w37 := hb33_w36.kp hk37 ne36_b33
              have hHC2_w37 := hHC2_w36.kp hk37 (fun y hy e => by have := (hTC y).1 hy; omega)
              have hs37 := hk37.size
              replace hb37 : Blk w37 b36 (.cells #[.int .i64 hd.a, .int .i64 hd.b] _ (0, 0)) := hb37
              refine wl_valE (v := .bool xb) rfl (rf_assign rfl) rfl ?_
              refine wl_nil ?_
              refine thn ?_
              refine seq_ ?_
              refine seq_ ?_
              refine region_ ?_
              refine wl_valE (v := .agg #[.int .i64 hd.a, .int .i64 hd.b]) rfl (rf_loadBlk Try.underlying28 rfl ti28 rfl rfl hb30_w37 (Nat.le_of_ble_eq_true rfl)) rfl ?_
              refine wl_valE (v := .agg #[.int .i64 hd.a, .int .i64 hd.b]) rfl (rf_loadBlk Try.underlying28 rfl ti28 rfl rfl hb7_w37 (Nat.le_of_ble_eq_true rfl)) rfl ?_
              refine wl_valE (v := .bool false) rfl (rf_neqS (by kernel_rfl) (eqPV hd hd _) rfl rfl rfl rfl) (congrArg Value.bool (by simp)) ?_
              refine wl_valE (v := .bool false) rfl (rf_move rfl) rfl ?_
              refine wl_guardT rfl rfl rfl rfl ?_
              refine wl_valE (v := .agg #[.int .i64 hd.a, .int .i64 hd.b]) rfl (rf_loadBlk Try.underlying28 rfl ti28 rfl rfl hb33_w37 (Nat.le_of_ble_eq_true rfl)) rfl ?_
              refine wl_guardT rfl rfl rfl rfl ?_
              refine wl_valE (v := .agg #[.int .i64 hd.a, .int .i64 hd.b]) rfl (rf_loadBlk Try.underlying28 rfl ti28 rfl rfl hb7_w37 (Nat.le_of_ble_eq_true rfl)) rfl ?_
              refine wl_guardT rfl rfl rfl rfl ?_
              refine wl_valE (v := .bool false) rfl (rf_neqS (by kernel_rfl) (eqPV hd hd _) rfl rfl rfl rfl) (congrArg Value.bool (by simp)) ?_
              refine wl_valE (v := .bool false) rfl (rf_pickF rfl rfl rfl rfl) rfl ?_
              refine wl_valE (v := .bool false) rfl (rf_move rfl) rfl ?_
              refine wl_guardT rfl rfl rfl rfl ?_
              refine wl_valE (v := .agg #[.int .i64 hd.a, .int .i64 hd.b]) rfl (rf_loadBlk Try.underlying28 rfl ti28 rfl rfl hb37 (Nat.le_of_ble_eq_true rfl)) rfl ?_
              refine wl_guardT rfl rfl rfl rfl ?_
              refine wl_valE (v := .agg #[.int .i64 hd.a, .int .i64 hd.b]) rfl (rf_loadBlk Try.underlying28 rfl ti28 rfl rfl hb7_w37 (Nat.le_of_ble_eq_true rfl)) rfl ?_
              refine wl_guardT rfl rfl rfl rfl ?_
              refine wl_valE (v := .bool false) rfl (rf_neqS (by kernel_rfl) (eqPV hd hd _) rfl rfl rfl rfl) (congrArg Value.bool (by simp)) ?_
              refine wl_valE (v := .bool false) rfl (rf_pickF rfl rfl rfl rfl) rfl ?_
              refine wl_valE (v := .bool false) rfl (rf_move rfl) rfl ?_
              refine wl_guardT rfl rfl rfl rfl ?_
              refine wl_valE (v := .bool xb) rfl (rf_move rfl) rfl ?_
              refine wl_guardT rfl rfl rfl rfl ?_
              refine wl_valE (v := .int .i64 ((z : Nat) : Int)) rfl (rf_move rfl) rfl ?_
              refine wl_guardT rfl rfl rfl rfl ?_
              refine wl_valE (v := .bool xb) rfl (rf_geq rfl rfl rfl rfl) (congrArg Value.bool (by rw [hxb]; simp)) ?_
              refine wl_guardT rfl rfl rfl rfl ?_
              refine wl_valE (v := .bool false) rfl (rf_neqB Try.underlying4 rfl rfl rfl rfl) (congrArg Value.bool (by simp)) ?_
              refine wl_valE (v := .bool false) rfl (rf_pickF rfl rfl rfl rfl) rfl ?_
              refine wl_valE (v := .bool false) rfl (rf_move rfl) rfl ?_
              refine wl_guardT rfl rfl rfl rfl ?_
              refine wl_valE (v := .bool xb) rfl (rf_move rfl) rfl ?_
              refine wl_guardT rfl rfl rfl rfl ?_
              refine wl_valE (v := .bool xb) rfl (rf_move rfl) rfl ?_
              refine wl_guardT rfl rfl rfl rfl ?_
              refine wl_valE (v := .bool false) rfl (rf_neqB Try.underlying4 rfl rfl rfl rfl) (congrArg Value.bool (by simp)) ?_
              refine wl_valE (v := .bool false) rfl (rf_pickF rfl rfl rfl rfl) rfl ?_
              refine wl_valE (v := .bool false) rfl (rf_move rfl) rfl ?_
              refine wl_guardT rfl rfl rfl rfl ?_
              refine wl_valE (v := .bool xb) rfl (rf_move rfl) rfl ?_
              refine wl_guardT rfl rfl rfl rfl ?_
              refine wl_valE (v := .bool xb) rfl (rf_move rfl) rfl ?_
              refine wl_guardT rfl rfl rfl rfl ?_
              refine wl_valE (v := .bool false) rfl (rf_neqB Try.underlying4 rfl rfl rfl rfl) (congrArg Value.bool (by simp)) ?_
              refine wl_valE (v := .bool false) rfl (rf_pickF rfl rfl rfl rfl) rfl ?_
              refine wl_nil ?_
              refine thn ?_
              refine condF rfl rfl ?_
              refine skip_ ?_
              refine thn ?_
              refine seq_ ?_
              refine region_ ?_
              refine wl_valE (v := .int .i64 ((z : Nat) : Int)) rfl (rf_move rfl) rfl ?_
              refine wl_valE (v := .bool true) rfl (rf_geq rfl rfl rfl rfl) (congrArg Value.bool (by simp)) ?_
              refine wl_nil ?_
              refine thn ?_
              refine condT rfl rfl ?_
              refine region_ ?_
              refine wl_valE (v := .slice (some ⟨Vb, Vo, none⟩) A.length vc) rfl (rf_move rfl) rfl ?_
              refine wl_valE (v := .int .i64 ((z : Nat) : Int)) rfl (rf_move rfl) rfl ?_
              refine wl_valE (v := .agg #[.int .i64 o.num, .int .i64 ((i : Nat) : Int)]) rfl (rf_loadBlk Try.underlying28 rfl ti28 rfl rfl hb10_w37 (Nat.le_of_ble_eq_true rfl)) rfl ?_
              refine wl_valE (v := .pointer (some ⟨Vb, Vo + z * 2, none⟩)) rfl (rf_indexAddr Try.underlying32 ti28 rfl rfl rfl rfl (by omega) (by omega)) rfl ?_
              refine wl_storeEl (i := z) (j := 0) (q := (⟨o.num, ((i : Nat) : Int)⟩ : PairV)) (u := .agg #[.int .i64 o.num, .int .i64 ((i : Nat) : Int)]) (c := [.int .i64 o.num, .int .i64 ((i : Nat) : Int)]) encPV_len ti28 rfl rfl rfl (by simp) rfl rfl rfl (by simp [Value.oneCell']) hVt_w37 hav (Nat.le_of_ble_eq_true rfl) rfl ?_
              intro w38 hk38 ha38
              have hp_w38 := hp_w37.kp hk38 (fun y hy e => by have := hFp y hy; omega)
              have hkw_w38 := hkw_w37.comp hk38 (fun y hy e => by omega)
              have hkl0_w38 := hkl0_w37.comp hk38 (fun y hy e => by omega)
              have hb4_w38 := hb4_w37.kp hk38 (by omega)
              have hOt_w38 := hOt_w37.kp hk38 (fun e => hVF.2.2 (e ▸ hOF))
              have hb10_w38 := hb10_w37.kp hk38 (Ne.symm ne10_Vb)
              have hHA2_w38 := hHA2_w37.kp hk38 (fun y hy e => by have := (hTA y).1 hy; omega)
              have hHB2_w38 := hHB2_w37.kp hk38 (fun y hy e => by have := (hTB y).1 hy; omega)
              have hHC2_w38 := hHC2_w37.kp hk38 (fun y hy e => by have := (hTC y).1 hy; omega)
              have hs38 := hk38.size
              refine wl_nil ?_
              refine bln ?_
              refine thn ?_
              refine region_ ?_
              refine wl_valE (v := .int .i64 ((i : Nat) : Int)) rfl (rf_move rfl) rfl ?_
              refine wl_valE (v := .int .i64 ((i + 1 : Nat) : Int)) rfl (rf_add rfl rfl rfl rfl (IntWalk.i64_in _ (by omega))) rfl ?_
              refine wl_valE (v := .int .i64 ((i + 1 : Nat) : Int)) rfl (rf_assign rfl) rfl ?_
              refine wl_nil ?_
              refine thn ?_
              refine ⟨lk0 - 1, _, rfl, (by omega), _, i + 1, K3, A3, (.slice (some ⟨Ob, Oo, none⟩) K.length oc), (.slice (some ⟨Vb, Vo, none⟩) A.length vc), GO, GV, upds_self ⟨rfl, rfl, rfl, rfl, rfl, rfl, rfl, trivial⟩, ?_⟩
              have h1 := hOt_w38.sl (F := GO) hOF
              have h2 := ha38.sl (F := GV) hVF0
              rw [List.length_set] at h2
              exact ⟨by omega, hHA2_w38, hHB2_w38, hHC2_w38, by rw [hK3]; exact h1, by rw [hA3]; exact h2, by rw [hK3]; omega, fun k hk => hKs k (by rw [hK3] at hk; exact hk), fun y hy => by have := hGO y hy; omega, fun y hy => by have := hGV y hy; exact ⟨by omega, by omega, this.2.2⟩, hkl0_w38⟩
          · have c103p := of_decide_eq_false c103
            obtain ⟨rfl, hno⟩ : at_ = -1 ∧ ∀ q ∈ K, q ≠ o.text := by
              rcases hat2 with h | ⟨z, h, _⟩
              · exact h
              · omega
            obtain ⟨hd, hhd⟩ : ∃ h : PairV, h = ⟨0, 0⟩ := ⟨_, rfl⟩
            have hbz : Blk w8 b7 (.cells #[.int .i64 hd.a, .int .i64 hd.b] 28 (0, 0)) := by rw [hhd]; exact hb8
            obtain ⟨xb, hxb⟩ : ∃ b : Bool, b = false := ⟨_, rfl⟩
            obtain ⟨K2, hK2⟩ : ∃ q, q = K := ⟨_, rfl⟩
            obtain ⟨A2, hA2⟩ : ∃ q, q = A := ⟨_, rfl⟩
            obtain ⟨K3, hK3⟩ : ∃ q, q = K ++ [o.text] := ⟨_, rfl⟩
            obtain ⟨A3, hA3⟩ : ∃ q, q = A ++ [(⟨o.num, ((i : Nat) : Int)⟩ : PairV)] := ⟨_, rfl⟩
            have hcT : ((∀ q ∈ K, q ≠ o.text) ∧ hd = ⟨0, 0⟩ ∧ xb = false ∧ K2 = K ∧ A2 = A) ∨ ∃ j, K[j]? = some o.text ∧ A[j]? = some hd ∧ xb = true ∧ K2 = K.eraseIdx j ∧ A2 = A.eraseIdx j := .inl ⟨hno, hhd, hxb, hK2, hA2⟩
            have hcP : ((∀ q ∈ K, q ≠ o.text) ∧ hd = ⟨0, 0⟩ ∧ xb = false ∧ K3 = K ++ [o.text] ∧ A3 = A ++ [⟨o.num, ((i : Nat) : Int)⟩]) ∨ ∃ j, K[j]? = some o.text ∧ A[j]? = some hd ∧ xb = true ∧ K3 = K ∧ A3 = A.set j ⟨o.num, ((i : Nat) : Int)⟩ := .inl ⟨hno, hhd, hxb, hK3, hA3⟩
            refine skip_ ?_
            refine thn ?_
            refine seq_ ?_
            refine region_ ?_
            refine wl_valE (v := .pointer (some ⟨b4, 1, none⟩)) rfl (rf_fieldAddr Try.underlying34 rfl ti3 rfl rfl) rfl ?_
            refine wl_valE (v := .int .i64 o.num) rfl (rf_load Try.underlying3 rfl rfl rfl (hb4_w8.cell rfl)) rfl ?_
            refine wl_valE (v := .int .i64 ((i : Nat) : Int)) rfl (rf_move rfl) rfl ?_
            refine wl_valE (v := .agg #[.int .i64 o.num, .int .i64 ((i : Nat) : Int)]) rfl (rf_build (offs := [(0, [.int .i64 o.num]), (1, [.int .i64 ((i : Nat) : Int)])]) (places := #[(0, 1), (1, 1)]) Try.underlying28 ti28 (fun w => by kernel_rfl) (.cons rfl rfl rfl rfl rfl rfl (.cons rfl rfl rfl rfl rfl rfl .nil))) rfl ?_
            refine wl_alloc ti28 ?_
            intro b39 w39 hg39 hk39 hb39
            have ne39_b4 : b4 ≠ b39 := Nat.ne_of_lt (Nat.lt_of_lt_of_le hb4_w8.lt hg39)
            have ne39_b7 : b7 ≠ b39 := Nat.ne_of_lt (Nat.lt_of_lt_of_le hb8.lt hg39)
            have ne39_b7 : b7 ≠ b39 := Nat.ne_of_lt (Nat.lt_of_lt_of_le hbz.lt hg39)
            have hp_w39 := hp_w8.keep hk39
            have hkw_w39 := hkw_w8.comp hk39 (fun _ _ e => e.elim)
            have hkl0_w39 := hkl0_w8.comp hk39 (fun _ _ e => e.elim)
            have hHA_w39 := hHA_w8.keep hk39
            have hHB_w39 := hHB_w8.keep hk39
            have hHC_w39 := hHC_w8.keep hk39
            have hOv_w39 := hOv_w8.keep hk39
            have hVv_w39 := hVv_w8.keep hk39
            have hb4_w39 := hb4_w8.keep hk39
            have hb7_w39 := hb8.keep hk39
            have hbz_w39 := hbz.keep hk39
            have hs39 := hk39.size
            refine wl_storeAgg (b := b39) (o := 0) (cs := [.int .i64 o.num, .int .i64 ((i : Nat) : Int)]) ti28 rfl rfl rfl rfl rfl (by simp [Value.oneCell']) hb39 (Nat.le_of_ble_eq_true rfl) ?_
            intro w40 hk40 hb40
            have hp_w40 := hp_w39.kp hk40 (fun y hy e => by have := hFp y hy; omega)
            have hkw_w40 := hkw_w39.comp hk40 (fun y hy e => by omega)
            have hkl0_w40 := hkl0_w39.comp hk40 (fun y hy e => by omega)
            have hHA_w40 := hHA_w39.kp hk40 (fun y hy e => by have := (hTA y).1 hy; omega)
            have hHB_w40 := hHB_w39.kp hk40 (fun y hy e => by have := (hTB y).1 hy; omega)
            have hHC_w40 := hHC_w39.kp hk40 (fun y hy e => by have := (hTC y).1 hy; omega)
            have hOv_w40 := hOv_w39.kp hk40 (fun y hy e => by have := hGO y hy; omega)
            have hVv_w40 := hVv_w39.kp hk40 (fun y hy e => by have := hGV y hy; omega)
            have hb4_w40 := hb4_w39.kp hk40 ne39_b4
            have hb7_w40 := hb7_w39.kp hk40 ne39_b7
            have hbz_w40 := hbz_w39.kp hk40 ne39_b7
            have hs40 := hk40.size
            replace hb40 : Blk w40 b39 (.cells #[.int .i64 o.num, .int .i64 ((i : Nat) : Int)] _ (0, 0)) := hb40
            refine wl_nil ?_
            refine thn ?_
            refine seq_ ?_
            refine seq_ ?_
            refine region_ ?_
            refine wl_valE (v := .pointer (some ⟨b4, 2, none⟩)) rfl (rf_fieldAddr Try.underlying34 rfl ti4 rfl rfl) rfl ?_
            refine wl_valE (v := .bool o.out) rfl (rf_load Try.underlying4 rfl rfl rfl (hb4_w40.cell rfl)) rfl ?_
            refine wl_nil ?_
            refine thn ?_
            refine cond_ (t := o.out) rfl rfl (fun c113 => ?_) (fun c113 => ?_)
            · refine seq_ ?_
              refine region_ ?_
              refine wl_valE (v := .pointer (some ⟨bA, 0, none⟩)) rfl (rf_move rfl) rfl ?_
              refine wl_valE (v := .pointer (some ⟨b4, 0, none⟩)) rfl (rf_fieldAddr Try.underlying34 rfl ti9 rfl rfl) rfl ?_
              refine wl_valE (v := .string o.text) rfl (rf_load Try.underlying9 rfl rfl rfl (hb4_w40.cell rfl)) rfl ?_
              refine wl_ret rfl (HsS.take hHA_w40 (by omega) o.text hts hd xb K2 A2 hcT) (rf_call Try.call7 rfl rfl) ?_
              rintro vq w41 ⟨rfl, hHA2, hk41⟩
              have hp_w41 := hp_w40.kp hk41 (fun y hy e => by have := hFp y hy; have := (hTA y).1 e; omega)
              have hkw_w41 := hkw_w40.comp hk41 (fun y hy e => by have := (hTA y).1 e; omega)
              have hkl0_w41 := hkl0_w40.comp hk41 (fun y hy e => by have := (hTA y).1 e; omega)
              have hHB_w41 := hHB_w40.kp hk41 (fun y hy e => by have := (hTB y).1 hy; have := (hTA y).1 e; omega)
              have hHC_w41 := hHC_w40.kp hk41 (fun y hy e => by have := (hTC y).1 hy; have := (hTA y).1 e; omega)
              have hOv_w41 := hOv_w40.kp hk41 (fun y hy e => by have := hGO y hy; have := (hTA y).1 e; omega)
              have hVv_w41 := hVv_w40.kp hk41 (fun y hy e => by have := hGV y hy; have := (hTA y).1 e; omega)
              have hb4_w41 := hb4_w40.kp hk41 (fun e => by have := (hTA _).1 e; omega)
              have hb7_w41 := hb7_w40.kp hk41 (fun e => by have := (hTA _).1 e; omega)
              have hbz_w41 := hbz_w40.kp hk41 (fun e => by have := (hTA _).1 e; omega)
              have hb39_w41 := hb40.kp hk41 (fun e => by have := (hTA _).1 e; omega)
              have hs41 := hk41.size
              refine wl_valE (v := .tuple #[.agg #[.int .i64 hd.a, .int .i64 hd.b], .bool xb]) rfl (rf_move rfl) rfl ?_
              refine wl_valE (v := .agg #[.int .i64 hd.a, .int .i64 hd.b]) rfl (rf_extract rfl rfl rfl) rfl ?_
              refine wl_valE (v := .bool xb) rfl (rf_extract rfl rfl rfl) rfl ?_
              refine wl_alloc ti28 ?_
              intro b42 w42 hg42 hk42 hb42
              have ne42_b4 : b4 ≠ b42 := Nat.ne_of_lt (Nat.lt_of_lt_of_le hb4_w41.lt hg42)
              have ne42_b7 : b7 ≠ b42 := Nat.ne_of_lt (Nat.lt_of_lt_of_le hb7_w41.lt hg42)
              have ne42_b7 : b7 ≠ b42 := Nat.ne_of_lt (Nat.lt_of_lt_of_le hbz_w41.lt hg42)
              have ne42_b39 : b39 ≠ b42 := Nat.ne_of_lt (Nat.lt_of_lt_of_le hb39_w41.lt hg42)
              have hp_w42 := hp_w41.keep hk42
              have hkw_w42 := hkw_w41.comp hk42 (fun _ _ e => e.elim)
              have hkl0_w42 := hkl0_w41.comp hk42 (fun _ _ e => e.elim)
              have hHB_w42 := hHB_w41.keep hk42
              have hHC_w42 := hHC_w41.keep hk42
              have hOv_w42 := hOv_w41.keep hk42
              have hVv_w42 := hVv_w41.keep hk42
              have hb4_w42 := hb4_w41.keep hk42
              have hb7_w42 := hb7_w41.keep hk42
              have hbz_w42 := hbz_w41.keep hk42
              have hb39_w42 := hb39_w41.keep hk42
              have hHA2_w42 := hHA2.keep hk42
              have hs42 := hk42.size
              refine wl_storeAgg (b := b42) (o := 0) (cs := [.int .i64 hd.a, .int .i64 hd.b]) ti28 rfl rfl rfl rfl rfl (by simp [Value.oneCell']) hb42 (Nat.le_of_ble_eq_true rfl) ?_
              intro w43 hk43 hb43
              have hp_w43 := hp_w42.kp hk43 (fun y hy e => by have := hFp y hy; omega)
              have hkw_w43 := hkw_w42.comp hk43 (fun y hy e => by omega)
              have hkl0_w43 := hkl0_w42.comp hk43 (fun y hy e => by omega)
              have hHB_w43 := hHB_w42.kp hk43 (fun y hy e => by have := (hTB y).1 hy; omega)
              have hHC_w43 := hHC_w42.kp hk43 (fun y hy e => by have := (hTC y).1 hy; omega)
              have hOv_w43 := hOv_w42.kp hk43 (fun y hy e => by have := hGO y hy; omega)
              have hVv_w43 := hVv_w42.kp hk43 (fun y hy e => by have := hGV y hy; omega)
              have hb4_w43 := hb4_w42.kp hk43 ne42_b4
              have hb7_w43 := hb7_w42.kp hk43 ne42_b7
              have hbz_w43 := hbz_w42.kp hk43 ne42_b7
              have hb39_w43 := hb39_w42.kp hk43 ne42_b39
              have hHA2_w43 := hHA2_w42.kp hk43 (fun y hy e => by have := (hTA y).1 hy; omega)
              have hs43 := hk43.size
              replace hb43 : Blk w43 b42 (.cells #[.int .i64 hd.a, .int .i64 hd.b] _ (0, 0)) := hb43
              refine wl_valE (v := .bool xb) rfl (rf_assign rfl) rfl ?_
              refine wl_nil ?_
              refine thn ?_
              refine seq_ ?_
              refine region_ ?_
              refine wl_valE (v := .pointer (some ⟨bB, 0, none⟩)) rfl (rf_move rfl) rfl ?_
              refine wl_valE (v := .pointer (some ⟨b4, 0, none⟩)) rfl (rf_fieldAddr Try.underlying34 rfl ti9 rfl rfl) rfl ?_
              refine wl_valE (v := .string o.text) rfl (rf_load Try.underlying9 rfl rfl rfl (hb4_w43.cell rfl)) rfl ?_
              refine wl_ret rfl (HsG.take hHB_w43 (by omega) o.text hts hd xb K2 A2 hcT) (rf_call Try.call7 rfl rfl) ?_
              rintro vq w44 ⟨rfl, hHB2, hk44⟩
              have hp_w44 := hp_w43.kp hk44 (fun y hy e => by have := hFp y hy; have := (hTB y).1 e; omega)
              have hkw_w44 := hkw_w43.comp hk44 (fun y hy e => by have := (hTB y).1 e; omega)
              have hkl0_w44 := hkl0_w43.comp hk44 (fun y hy e => by have := (hTB y).1 e; omega)
              have hHC_w44 := hHC_w43.kp hk44 (fun y hy e => by have := (hTC y).1 hy; have := (hTB y).1 e; omega)
              have hOv_w44 := hOv_w43.kp hk44 (fun y hy e => by have := hGO y hy; have := (hTB y).1 e; omega)
              have hVv_w44 := hVv_w43.kp hk44 (fun y hy e => by have := hGV y hy; have := (hTB y).1 e; omega)
              have hb4_w44 := hb4_w43.kp hk44 (fun e => by have := (hTB _).1 e; omega)
              have hb7_w44 := hb7_w43.kp hk44 (fun e => by have := (hTB _).1 e; omega)
              have hbz_w44 := hbz_w43.kp hk44 (fun e => by have := (hTB _).1 e; omega)
              have hb39_w44 := hb39_w43.kp hk44 (fun e => by have := (hTB _).1 e; omega)
              have hHA2_w44 := hHA2_w43.kp hk44 (fun y hy e => by have := (hTA y).1 hy; have := (hTB y).1 e; omega)
              have hb42_w44 := hb43.kp hk44 (fun e => by have := (hTB _).1 e; omega)
              have hs44 := hk44.size
              refine wl_valE (v := .tuple #[.agg #[.int .i64 hd.a, .int .i64 hd.b], .bool xb]) rfl (rf_move rfl) rfl ?_
              refine wl_valE (v := .agg #[.int .i64 hd.a, .int .i64 hd.b]) rfl (rf_extract rfl rfl rfl) rfl ?_
              refine wl_valE (v := .bool xb) rfl (rf_extract rfl rfl rfl) rfl ?_
              refine wl_alloc ti28 ?_
              intro b45 w45 hg45 hk45 hb45
              have ne45_b4 : b4 ≠ b45 := Nat.ne_of_lt (Nat.lt_of_lt_of_le hb4_w44.lt hg45)
              have ne45_b7 : b7 ≠ b45 := Nat.ne_of_lt (Nat.lt_of_lt_of_le hb7_w44.lt hg45)
              have ne45_b7 : b7 ≠ b45 := Nat.ne_of_lt (Nat.lt_of_lt_of_le hbz_w44.lt hg45)
              have ne45_b39 : b39 ≠ b45 := Nat.ne_of_lt (Nat.lt_of_lt_of_le hb39_w44.lt hg45)
              have ne45_b42 : b42 ≠ b45 := Nat.ne_of_lt (Nat.lt_of_lt_of_le hb42_w44.lt hg45)
              have hp_w45 := hp_w44.keep hk45
              have hkw_w45 := hkw_w44.comp hk45 (fun _ _ e => e.elim)
              have hkl0_w45 := hkl0_w44.comp hk45 (fun _ _ e => e.elim)
              have hHC_w45 := hHC_w44.keep hk45
              have hOv_w45 := hOv_w44.keep hk45
              have hVv_w45 := hVv_w44.keep hk45
              have hb4_w45 := hb4_w44.keep hk45
              have hb7_w45 := hb7_w44.keep hk45
              have hbz_w45 := hbz_w44.keep hk45
              have hb39_w45 := hb39_w44.keep hk45
              have hHA2_w45 := hHA2_w44.keep hk45
              have hb42_w45 := hb42_w44.keep hk45
              have hHB2_w45 := hHB2.keep hk45
              have hs45 := hk45.size
              refine wl_storeAgg (b := b45) (o := 0) (cs := [.int .i64 hd.a, .int .i64 hd.b]) ti28 rfl rfl rfl rfl rfl (by simp [Value.oneCell']) hb45 (Nat.le_of_ble_eq_true rfl) ?_
              intro w46 hk46 hb46
              have hp_w46 := hp_w45.kp hk46 (fun y hy e => by have := hFp y hy; omega)
              have hkw_w46 := hkw_w45.comp hk46 (fun y hy e => by omega)
              have hkl0_w46 := hkl0_w45.comp hk46 (fun y hy e => by omega)
              have hHC_w46 := hHC_w45.kp hk46 (fun y hy e => by have := (hTC y).1 hy; omega)
              have hOv_w46 := hOv_w45.kp hk46 (fun y hy e => by have := hGO y hy; omega)
              have hVv_w46 := hVv_w45.kp hk46 (fun y hy e => by have := hGV y hy; omega)
              have hb4_w46 := hb4_w45.kp hk46 ne45_b4
              have hb7_w46 := hb7_w45.kp hk46 ne45_b7
              have hbz_w46 := hbz_w45.kp hk46 ne45_b7
              have hb39_w46 := hb39_w45.kp hk46 ne45_b39
              have hHA2_w46 := hHA2_w45.kp hk46 (fun y hy e => by have := (hTA y).1 hy; omega)
              have hb42_w46 := hb42_w45.kp hk46 ne45_b42
              have hHB2_w46 := hHB2_w45.kp hk46 (fun y hy e => by have := (hTB y).1 hy; omega)
              have hs46 := hk46.size
              replace hb46 : Blk w46 b45 (.cells #[.int .i64 hd.a, .int .i64 hd.b] _ (0, 0)) := hb46
              refine wl_valE (v := .bool xb) rfl (rf_assign rfl) rfl ?_
              refine wl_nil ?_
              refine thn ?_
              refine seq_ ?_
              refine region_ ?_
              refine wl_valE (v := .pointer (some ⟨bC, 0, none⟩)) rfl (rf_move rfl) rfl ?_
              refine wl_valE (v := .pointer (some ⟨b4, 0, none⟩)) rfl (rf_fieldAddr Try.underlying34 rfl ti9 rfl rfl) rfl ?_
              refine wl_valE (v := .string o.text) rfl (rf_load Try.underlying9 rfl rfl rfl (hb4_w46.cell rfl)) rfl ?_
              refine wl_ret rfl (HsZ.take hHC_w46 (by omega) o.text hts hd xb K2 A2 hcT) (rf_call Try.call7 rfl rfl) ?_
              rintro vq w47 ⟨rfl, hHC2, hk47⟩
              have hp_w47 := hp_w46.kp hk47 (fun y hy e => by have := hFp y hy; have := (hTC y).1 e; omega)
              have hkw_w47 := hkw_w46.comp hk47 (fun y hy e => by have := (hTC y).1 e; omega)
              have hkl0_w47 := hkl0_w46.comp hk47 (fun y hy e => by have := (hTC y).1 e; omega)
              have hOv_w47 := hOv_w46.kp hk47 (fun y hy e => by have := hGO y hy; have := (hTC y).1 e; omega)
              have hVv_w47 := hVv_w46.kp hk47 (fun y hy e => by have := hGV y hy; have := (hTC y).1 e; omega)
              have hb4_w47 := hb4_w46.kp hk47 (fun e => by have := (hTC _).1 e; omega)
              have hb7_w47 := hb7_w46.kp hk47 (fun e => by have := (hTC _).1 e; omega)
              have hbz_w47 := hbz_w46.kp hk47 (fun e => by have := (hTC _).1 e; omega)
              have hb39_w47 := hb39_w46.kp hk47 (fun e => by have := (hTC _).1 e; omega)
              have hHA2_w47 := hHA2_w46.kp hk47 (fun y hy e => by have := (hTA y).1 hy; have := (hTC y).1 e; omega)
              have hb42_w47 := hb42_w46.kp hk47 (fun e => by have := (hTC _).1 e; omega)
              have hHB2_w47 := hHB2_w46.kp hk47 (fun y hy e => by have := (hTB y).1 hy; have := (hTC y).1 e; omega)
              have hb45_w47 := hb46.kp hk47 (fun e => by have := (hTC _).1 e; omega)
              have hs47 := hk47.size
              refine wl_valE (v := .tuple #[.agg #[.int .i64 hd.a, .int .i64 hd.b], .bool xb]) rfl (rf_move rfl) rfl ?_
              refine wl_valE (v := .agg #[.int .i64 hd.a, .int .i64 hd.b]) rfl (rf_extract rfl rfl rfl) rfl ?_
              refine wl_valE (v := .bool xb) rfl (rf_extract rfl rfl rfl) rfl ?_
              refine wl_alloc ti28 ?_
              intro b48 w48 hg48 hk48 hb48
              have ne48_b4 : b4 ≠ b48 := Nat.ne_of_lt (Nat.lt_of_lt_of_le hb4_w47.lt hg48)
              have ne48_b7 : b7 ≠ b48 := Nat.ne_of_lt (Nat.lt_of_lt_of_le hb7_w47.lt hg48)
              have ne48_b7 : b7 ≠ b48 := Nat.ne_of_lt (Nat.lt_of_lt_of_le hbz_w47.lt hg48)
              have ne48_b39 : b39 ≠ b48 := Nat.ne_of_lt (Nat.lt_of_lt_of_le hb39_w47.lt hg48)
              have ne48_b42 : b42 ≠ b48 := Nat.ne_of_lt (Nat.lt_of_lt_of_le hb42_w47.lt hg48)
              have ne48_b45 : b45 ≠ b48 := Nat.ne_of_lt (Nat.lt_of_lt_of_le hb45_w47.lt hg48)
              have hp_w48 := hp_w47.keep hk48
              have hkw_w48 := hkw_w47.comp hk48 (fun _ _ e => e.elim)
              have hkl0_w48 := hkl0_w47.comp hk48 (fun _ _ e => e.elim)
              have hOv_w48 := hOv_w47.keep hk48
              have hVv_w48 := hVv_w47.keep hk48
              have hb4_w48 := hb4_w47.keep hk48
              have hb7_w48 := hb7_w47.keep hk48
              have hbz_w48 := hbz_w47.keep hk48
              have hb39_w48 := hb39_w47.keep hk48
              have hHA2_w48 := hHA2_w47.keep hk48
              have hb42_w48 := hb42_w47.keep hk48
              have hHB2_w48 := hHB2_w47.keep hk48
              have hb45_w48 := hb45_w47.keep hk48
              have hHC2_w48 := hHC2.keep hk48
              have hs48 := hk48.size
              refine wl_storeAgg (b := b48) (o := 0) (cs := [.int .i64 hd.a, .int .i64 hd.b]) ti28 rfl rfl rfl rfl rfl (by simp [Value.oneCell']) hb48 (Nat.le_of_ble_eq_true rfl) ?_
              intro w49 hk49 hb49
              have hp_w49 := hp_w48.kp hk49 (fun y hy e => by have := hFp y hy; omega)
              have hkw_w49 := hkw_w48.comp hk49 (fun y hy e => by omega)
              have hkl0_w49 := hkl0_w48.comp hk49 (fun y hy e => by omega)
              have hOv_w49 := hOv_w48.kp hk49 (fun y hy e => by have := hGO y hy; omega)
              have hVv_w49 := hVv_w48.kp hk49 (fun y hy e => by have := hGV y hy; omega)
              have hb4_w49 := hb4_w48.kp hk49 ne48_b4
              have hb7_w49 := hb7_w48.kp hk49 ne48_b7
              have hbz_w49 := hbz_w48.kp hk49 ne48_b7
              have hb39_w49 := hb39_w48.kp hk49 ne48_b39
              have hHA2_w49 := hHA2_w48.kp hk49 (fun y hy e => by have := (hTA y).1 hy; omega)
              have hb42_w49 := hb42_w48.kp hk49 ne48_b42
              have hHB2_w49 := hHB2_w48.kp hk49 (fun y hy e => by have := (hTB y).1 hy; omega)
              have hb45_w49 := hb45_w48.kp hk49 ne48_b45
              have hHC2_w49 := hHC2_w48.kp hk49 (fun y hy e => by have := (hTC y).1 hy; omega)
              have hs49 := hk49.size
              replace hb49 : Blk w49 b48 (.cells #[.int .i64 hd.a, .int .i64 hd.b] _ (0, 0)) := hb49
              refine wl_valE (v := .bool xb) rfl (rf_assign rfl) rfl ?_
              refine wl_nil ?_
              refine thn ?_
              refine seq_ ?_
              refine seq_ ?_
              refine region_ ?_
              refine wl_valE (v := .agg #[.int .i64 hd.a, .int .i64 hd.b]) rfl (rf_loadBlk Try.underlying28 rfl ti28 rfl rfl hb42_w49 (Nat.le_of_ble_eq_true rfl)) rfl ?_
              refine wl_valE (v := .agg #[.int .i64 hd.a, .int .i64 hd.b]) rfl (rf_loadBlk Try.underlying28 rfl ti28 rfl rfl hbz_w49 (Nat.le_of_ble_eq_true rfl)) rfl ?_
              refine wl_valE (v := .bool false) rfl (rf_neqS (by kernel_rfl) (eqPV hd hd _) rfl rfl rfl rfl) (congrArg Value.bool (by simp)) ?_
              refine wl_valE (v := .bool false) rfl (rf_move rfl) rfl ?_
              refine wl_guardT rfl rfl rfl rfl ?_
              refine wl_valE (v := .agg #[.int .i64 hd.a, .int .i64 hd.b]) rfl (rf_loadBlk Try.underlying28 rfl ti28 rfl rfl hb45_w49 (Nat.le_of_ble_eq_true rfl)) rfl ?_
              refine wl_guardT rfl rfl rfl rfl ?_
              refine wl_valE (v := .agg #[.int .i64 hd.a, .int .i64 hd.b]) rfl (rf_loadBlk Try.underlying28 rfl ti28 rfl rfl hbz_w49 (Nat.le_of_ble_eq_true rfl)) rfl ?_
              refine wl_guardT rfl rfl rfl rfl ?_
              refine wl_valE (v := .bool false) rfl (rf_neqS (by kernel_rfl) (eqPV hd hd _) rfl rfl rfl rfl) (congrArg Value.bool (by simp)) ?_
              refine wl_valE (v := .bool false) rfl (rf_pickF rfl rfl rfl rfl) rfl ?_
              refine wl_valE (v := .bool false) rfl (rf_move rfl) rfl ?_
              refine wl_guardT rfl rfl rfl rfl ?_
              refine wl_valE (v := .agg #[.int .i64 hd.a, .int .i64 hd.b]) rfl (rf_loadBlk Try.underlying28 rfl ti28 rfl rfl hb49 (Nat.le_of_ble_eq_true rfl)) rfl ?_
              refine wl_guardT rfl rfl rfl rfl ?_
              refine wl_valE (v := .agg #[.int .i64 hd.a, .int .i64 hd.b]) rfl (rf_loadBlk Try.underlying28 rfl ti28 rfl rfl hbz_w49 (Nat.le_of_ble_eq_true rfl)) rfl ?_
              refine wl_guardT rfl rfl rfl rfl ?_
              refine wl_valE (v := .bool false) rfl (rf_neqS (by kernel_rfl) (eqPV hd hd _) rfl rfl rfl rfl) (congrArg Value.bool (by simp)) ?_
              refine wl_valE (v := .bool false) rfl (rf_pickF rfl rfl rfl rfl) rfl ?_
              refine wl_valE (v := .bool false) rfl (rf_move rfl) rfl ?_
              refine wl_guardT rfl rfl rfl rfl ?_
              refine wl_valE (v := .bool xb) rfl (rf_move rfl) rfl ?_
              refine wl_guardT rfl rfl rfl rfl ?_
              refine wl_valE (v := .int .i64 (-1 : Int)) rfl (rf_move rfl) rfl ?_
              refine wl_guardT rfl rfl rfl rfl ?_
              refine wl_valE (v := .bool xb) rfl (rf_geq rfl rfl rfl rfl) (congrArg Value.bool (by rw [hxb]; simp)) ?_
              refine wl_guardT rfl rfl rfl rfl ?_
              refine wl_valE (v := .bool false) rfl (rf_neqB Try.underlying4 rfl rfl rfl rfl) (congrArg Value.bool (by simp)) ?_
              refine wl_valE (v := .bool false) rfl (rf_pickF rfl rfl rfl rfl) rfl ?_
              refine wl_valE (v := .bool false) rfl (rf_move rfl) rfl ?_
              refine wl_guardT rfl rfl rfl rfl ?_
              refine wl_valE (v := .bool xb) rfl (rf_move rfl) rfl ?_
              refine wl_guardT rfl rfl rfl rfl ?_
              refine wl_valE (v := .bool xb) rfl (rf_move rfl) rfl ?_
              refine wl_guardT rfl rfl rfl rfl ?_
              refine wl_valE (v := .bool false) rfl (rf_neqB Try.underlying4 rfl rfl rfl rfl) (congrArg Value.bool (by simp)) ?_
              refine wl_valE (v := .bool false) rfl (rf_pickF rfl rfl rfl rfl) rfl ?_
              refine wl_valE (v := .bool false) rfl (rf_move rfl) rfl ?_
              refine wl_guardT rfl rfl rfl rfl ?_
              refine wl_valE (v := .bool xb) rfl (rf_move rfl) rfl ?_
              refine wl_guardT rfl rfl rfl rfl ?_
              refine wl_valE (v := .bool xb) rfl (rf_move rfl) rfl ?_
              refine wl_guardT rfl rfl rfl rfl ?_
              refine wl_valE (v := .bool false) rfl (rf_neqB Try.underlying4 rfl rfl rfl rfl) (congrArg Value.bool (by simp)) ?_
              refine wl_valE (v := .bool false) rfl (rf_pickF rfl rfl rfl rfl) rfl ?_
              refine wl_nil ?_
              refine thn ?_
              refine condF rfl rfl ?_
              refine skip_ ?_
              refine thn ?_
              refine seq_ ?_
              refine seq_ ?_
              refine region_ ?_
              refine wl_valE (v := .int .i64 (-1 : Int)) rfl (rf_move rfl) rfl ?_
              refine wl_valE (v := .bool false) rfl (rf_geq rfl rfl rfl rfl) (congrArg Value.bool (by simp)) ?_
              refine wl_nil ?_
              refine thn ?_
              refine condF rfl rfl ?_
              refine skip_ ?_
              refine thn ?_
              refine exit_ ?_
              refine thx (blx ?_)
              refine thn ?_
              refine region_ ?_
              refine wl_valE (v := .int .i64 ((i : Nat) : Int)) rfl (rf_move rfl) rfl ?_
              refine wl_valE (v := .int .i64 ((i + 1 : Nat) : Int)) rfl (rf_add rfl rfl rfl rfl (IntWalk.i64_in _ (by omega))) rfl ?_
              refine wl_valE (v := .int .i64 ((i + 1 : Nat) : Int)) rfl (rf_assign rfl) rfl ?_
              refine wl_nil ?_
              refine thn ?_
              refine ⟨lk0 - 1, _, rfl, (by omega), _, i + 1, K2, A2, (.slice oa K.length oc), (.slice va A.length vc), GO, GV, upds_self ⟨rfl, rfl, rfl, rfl, rfl, rfl, rfl, trivial⟩, ?_⟩
              exact ⟨by omega, hHA2_w49, hHB2_w49, hHC2_w49, by rw [hK2]; exact hOv_w49, by rw [hA2]; exact hVv_w49, by rw [hK2]; omega, fun k hk => hKs k (by rw [hK2] at hk; exact hk), fun y hy => by have := hGO y hy; omega, fun y hy => by have := hGV y hy; exact ⟨by omega, by omega, this.2.2⟩, hkl0_w49⟩
            · refine skip_ ?_
              refine thn ?_
              refine seq_ ?_
              refine region_ ?_
              refine wl_valE (v := .pointer (some ⟨bA, 0, none⟩)) rfl (rf_move rfl) rfl ?_
              refine wl_valE (v := .pointer (some ⟨b4, 0, none⟩)) rfl (rf_fieldAddr Try.underlying34 rfl ti9 rfl rfl) rfl ?_
              refine wl_valE (v := .string o.text) rfl (rf_load Try.underlying9 rfl rfl rfl (hb4_w40.cell rfl)) rfl ?_
              refine wl_valE (v := .agg #[.int .i64 o.num, .int .i64 ((i : Nat) : Int)]) rfl (rf_loadBlk Try.underlying28 rfl ti28 rfl rfl hb40 (Nat.le_of_ble_eq_true rfl)) rfl ?_
              refine wl_ret rfl (HsS.put hHA_w40 (by omega) (by omega) o.text hts (⟨o.num, ((i : Nat) : Int)⟩ : PairV) hd xb K3 A3 hcP) (rf_call Try.call8 rfl rfl) ?_
              rintro vq w50 ⟨rfl, hHA2, hk50⟩
              have hp_w50 := hp_w40.kp hk50 (fun y hy e => by have := hFp y hy; have := (hTA y).1 e; omega)
              have hkw_w50 := hkw_w40.comp hk50 (fun y hy e => by have := (hTA y).1 e; omega)
              have hkl0_w50 := hkl0_w40.comp hk50 (fun y hy e => by have := (hTA y).1 e; omega)
              have hHB_w50 := hHB_w40.kp hk50 (fun y hy e => by have := (hTB y).1 hy; have := (hTA y).1 e; omega)
              have hHC_w50 := hHC_w40.kp hk50 (fun y hy e => by have := (hTC y).1 hy; have := (hTA y).1 e; omega)
              have hOv_w50 := hOv_w40.kp hk50 (fun y hy e => by have := hGO y hy; have := (hTA y).1 e; omega)
              have hVv_w50 := hVv_w40.kp hk50 (fun y hy e => by have := hGV y hy; have := (hTA y).1 e; omega)
              have hb4_w50 := hb4_w40.kp hk50 (fun e => by have := (hTA _).1 e; omega)
              have hb7_w50 := hb7_w40.kp hk50 (fun e => by have := (hTA _).1 e; omega)
              have hbz_w50 := hbz_w40.kp hk50 (fun e => by have := (hTA _).1 e; omega)
              have hb39_w50 := hb40.kp hk50 (fun e => by have := (hTA _).1 e; omega)
              have hs50 := hk50.size
              refine wl_valE (v := .tuple #[.agg #[.int .i64 hd.a, .int .i64 hd.b], .bool xb]) rfl (rf_move rfl) rfl ?_
              refine wl_valE (v := .agg #[.int .i64 hd.a, .int .i64 hd.b]) rfl (rf_extract rfl rfl rfl) rfl ?_
              refine wl_valE (v := .bool xb) rfl (rf_extract rfl rfl rfl) rfl ?_
              refine wl_alloc ti28 ?_
              intro b51 w51 hg51 hk51 hb51
              have ne51_b4 : b4 ≠ b51 := Nat.ne_of_lt (Nat.lt_of_lt_of_le hb4_w50.lt hg51)
              have ne51_b7 : b7 ≠ b51 := Nat.ne_of_lt (Nat.lt_of_lt_of_le hb7_w50.lt hg51)
              have ne51_b7 : b7 ≠ b51 := Nat.ne_of_lt (Nat.lt_of_lt_of_le hbz_w50.lt hg51)
              have ne51_b39 : b39 ≠ b51 := Nat.ne_of_lt (Nat.lt_of_lt_of_le hb39_w50.lt hg51)
              have hp_w51 := hp_w50.keep hk51
              have hkw_w51 := hkw_w50.comp hk51 (fun _ _ e => e.elim)
              have hkl0_w51 := hkl0_w50.comp hk51 (fun _ _ e => e.elim)
              have hHB_w51 := hHB_w50.keep hk51
              have hHC_w51 := hHC_w50.keep hk51
              have hOv_w51 := hOv_w50.keep hk51
              have hVv_w51 := hVv_w50.keep hk51
              have hb4_w51 := hb4_w50.keep hk51
              have hb7_w51 := hb7_w50.keep hk51
              have hbz_w51 := hbz_w50.keep hk51
              have hb39_w51 := hb39_w50.keep hk51
              have hHA2_w51 := hHA2.keep hk51
              have hs51 := hk51.size
              refine wl_storeAgg (b := b51) (o := 0) (cs := [.int .i64 hd.a, .int .i64 hd.b]) ti28 rfl rfl rfl rfl rfl (by simp [Value.oneCell']) hb51 (Nat.le_of_ble_eq_true rfl) ?_
              intro w52 hk52 hb52
              have hp_w52 := hp_w51.kp hk52 (fun y hy e => by have := hFp y hy; omega)
              have hkw_w52 := hkw_w51.comp hk52 (fun y hy e => by omega)
              have hkl0_w52 := hkl0_w51.comp hk52 (fun y hy e => by omega)
              have hHB_w52 := hHB_w51.kp hk52 (fun y hy e => by have := (hTB y).1 hy; omega)
              have hHC_w52 := hHC_w51.kp hk52 (fun y hy e => by have := (hTC y).1 hy; omega)
              have hOv_w52 := hOv_w51.kp hk52 (fun y hy e => by have := hGO y hy; omega)
              have hVv_w52 := hVv_w51.kp hk52 (fun y hy e => by have := hGV y hy; omega)
              have hb4_w52 := hb4_w51.kp hk52 ne51_b4
              have hb7_w52 := hb7_w51.kp hk52 ne51_b7
              have hbz_w52 := hbz_w51.kp hk52 ne51_b7
              have hb39_w52 := hb39_w51.kp hk52 ne51_b39
              have hHA2_w52 := hHA2_w51.kp hk52 (fun y hy e => by have := (hTA y).1 hy; omega)
              have hs52 := hk52.size
              replace hb52 : Blk w52 b51 (.cells #[.int .i64 hd.a, .int .i64 hd.b] _ (0, 0)) := hb52
              refine wl_valE (v := .bool xb) rfl (rf_assign rfl) rfl ?_
              refine wl_nil ?_
              refine thn ?_
              refine seq_ ?_
              refine region_ ?_
              refine wl_valE (v := .pointer (some ⟨bB, 0, none⟩)) rfl (rf_move rfl) rfl ?_
              refine wl_valE (v := .pointer (some ⟨b4, 0, none⟩)) rfl (rf_fieldAddr Try.underlying34 rfl ti9 rfl rfl) rfl ?_
              refine wl_valE (v := .string o.text) rfl (rf_load Try.underlying9 rfl rfl rfl (hb4_w52.cell rfl)) rfl ?_
              refine wl_valE (v := .agg #[.int .i64 o.num, .int .i64 ((i : Nat) : Int)]) rfl (rf_loadBlk Try.underlying28 rfl ti28 rfl rfl hb39_w52 (Nat.le_of_ble_eq_true rfl)) rfl ?_
              refine wl_ret rfl (HsG.put hHB_w52 (by omega) (by omega) o.text hts (⟨o.num, ((i : Nat) : Int)⟩ : PairV) hd xb K3 A3 hcP) (rf_call Try.call8 rfl rfl) ?_
              rintro vq w53 ⟨rfl, hHB2, hk53⟩
              have hp_w53 := hp_w52.kp hk53 (fun y hy e => by have := hFp y hy; have := (hTB y).1 e; omega)
              have hkw_w53 := hkw_w52.comp hk53 (fun y hy e => by have := (hTB y).1 e; omega)
              have hkl0_w53 := hkl0_w52.comp hk53 (fun y hy e => by have := (hTB y).1 e; omega)
              have hHC_w53 := hHC_w52.kp hk53 (fun y hy e => by have := (hTC y).1 hy; have := (hTB y).1 e; omega)
              have hOv_w53 := hOv_w52.kp hk53 (fun y hy e => by have := hGO y hy; have := (hTB y).1 e; omega)
              have hVv_w53 := hVv_w52.kp hk53 (fun y hy e => by have := hGV y hy; have := (hTB y).1 e; omega)
              have hb4_w53 := hb4_w52.kp hk53 (fun e => by have := (hTB _).1 e; omega)
              have hb7_w53 := hb7_w52.kp hk53 (fun e => by have := (hTB _).1 e; omega)
              have hbz_w53 := hbz_w52.kp hk53 (fun e => by have := (hTB _).1 e; omega)
              have hb39_w53 := hb39_w52.kp hk53 (fun e => by have := (hTB _).1 e; omega)
              have hHA2_w53 := hHA2_w52.kp hk53 (fun y hy e => by have := (hTA y).1 hy; have := (hTB y).1 e; omega)
              have hb51_w53 := hb52.kp hk53 (fun e => by have := (hTB _).1 e; omega)
              have hs53 := hk53.size
              refine wl_valE (v := .tuple #[.agg #[.int .i64 hd.a, .int .i64 hd.b], .bool xb]) rfl (rf_move rfl) rfl ?_
              refine wl_valE (v := .agg #[.int .i64 hd.a, .int .i64 hd.b]) rfl (rf_extract rfl rfl rfl) rfl ?_
              refine wl_valE (v := .bool xb) rfl (rf_extract rfl rfl rfl) rfl ?_
              refine wl_alloc ti28 ?_
              intro b54 w54 hg54 hk54 hb54
              have ne54_b4 : b4 ≠ b54 := Nat.ne_of_lt (Nat.lt_of_lt_of_le hb4_w53.lt hg54)
              have ne54_b7 : b7 ≠ b54 := Nat.ne_of_lt (Nat.lt_of_lt_of_le hb7_w53.lt hg54)
              have ne54_b7 : b7 ≠ b54 := Nat.ne_of_lt (Nat.lt_of_lt_of_le hbz_w53.lt hg54)
              have ne54_b39 : b39 ≠ b54 := Nat.ne_of_lt (Nat.lt_of_lt_of_le hb39_w53.lt hg54)
              have ne54_b51 : b51 ≠ b54 := Nat.ne_of_lt (Nat.lt_of_lt_of_le hb51_w53.lt hg54)
              have hp_w54 := hp_w53.keep hk54
              have hkw_w54 := hkw_w53.comp hk54 (fun _ _ e => e.elim)
              have hkl0_w54 := hkl0_w53.comp hk54 (fun _ _ e => e.elim)
              have hHC_w54 := hHC_w53.keep hk54
              have hOv_w54 := hOv_w53.keep hk54
              have hVv_w54 := hVv_w53.keep hk54
              have hb4_w54 := hb4_w53.keep hk54
              have hb7_w54 := hb7_w53.keep hk54
              have hbz_w54 := hbz_w53.keep hk54
              have hb39_w54 := hb39_w53.keep hk54
              have hHA2_w54 := hHA2_w53.keep hk54
              have hb51_w54 := hb51_w53.keep hk54
              have hHB2_w54 := hHB2.keep hk54
              have hs54 := hk54.size
              refine wl_storeAgg (b := b54) (o := 0) (cs := [.int .i64 hd.a, .int .i64 hd.b]) ti28 rfl rfl rfl rfl rfl (by simp [Value.oneCell']) hb54 (Nat.le_of_ble_eq_true rfl) ?_
              intro w55 hk55 hb55
              have hp_w55 := hp_w54.kp hk55 (fun y hy e => by have := hFp y hy; omega)
              have hkw_w55 := hkw_w54.comp hk55 (fun y hy e => by omega)
              have hkl0_w55 := hkl0_w54.comp hk55 (fun y hy e => by omega)
              have hHC_w55 := hHC_w54.kp hk55 (fun y hy e => by have := (hTC y).1 hy; omega)
              have hOv_w55 := hOv_w54.kp hk55 (fun y hy e => by have := hGO y hy; omega)
              have hVv_w55 := hVv_w54.kp hk55 (fun y hy e => by have := hGV y hy; omega)
              have hb4_w55 := hb4_w54.kp hk55 ne54_b4
              have hb7_w55 := hb7_w54.kp hk55 ne54_b7
              have hbz_w55 := hbz_w54.kp hk55 ne54_b7
              have hb39_w55 := hb39_w54.kp hk55 ne54_b39
              have hHA2_w55 := hHA2_w54.kp hk55 (fun y hy e => by have := (hTA y).1 hy; omega)
              have hb51_w55 := hb51_w54.kp hk55 ne54_b51
              have hHB2_w55 := hHB2_w54.kp hk55 (fun y hy e => by have := (hTB y).1 hy; omega)
              have hs55 := hk55.size
              replace hb55 : Blk w55 b54 (.cells #[.int .i64 hd.a, .int .i64 hd.b] _ (0, 0)) := hb55
              refine wl_valE (v := .bool xb) rfl (rf_assign rfl) rfl ?_
              refine wl_nil ?_
              refine thn ?_
              refine seq_ ?_
              refine region_ ?_
              refine wl_valE (v := .pointer (some ⟨bC, 0, none⟩)) rfl (rf_move rfl) rfl ?_
              refine wl_valE (v := .pointer (some ⟨b4, 0, none⟩)) rfl (rf_fieldAddr Try.underlying34 rfl ti9 rfl rfl) rfl ?_
              refine wl_valE (v := .string o.text) rfl (rf_load Try.underlying9 rfl rfl rfl (hb4_w55.cell rfl)) rfl ?_
              refine wl_valE (v := .agg #[.int .i64 o.num, .int .i64 ((i : Nat) : Int)]) rfl (rf_loadBlk Try.underlying28 rfl ti28 rfl rfl hb39_w55 (Nat.le_of_ble_eq_true rfl)) rfl ?_
              refine wl_ret rfl (HsZ.put hHC_w55 (by omega) (by omega) o.text hts (⟨o.num, ((i : Nat) : Int)⟩ : PairV) hd xb K3 A3 hcP) (rf_call Try.call8 rfl rfl) ?_
              rintro vq w56 ⟨rfl, hHC2, hk56⟩
              have hp_w56 := hp_w55.kp hk56 (fun y hy e => by have := hFp y hy; have := (hTC y).1 e; omega)
              have hkw_w56 := hkw_w55.comp hk56 (fun y hy e => by have := (hTC y).1 e; omega)
              have hkl0_w56 := hkl0_w55.comp hk56 (fun y hy e => by have := (hTC y).1 e; omega)
              have hOv_w56 := hOv_w55.kp hk56 (fun y hy e => by have := hGO y hy; have := (hTC y).1 e; omega)
              have hVv_w56 := hVv_w55.kp hk56 (fun y hy e => by have := hGV y hy; have := (hTC y).1 e; omega)
              have hb4_w56 := hb4_w55.kp hk56 (fun e => by have := (hTC _).1 e; omega)
              have hb7_w56 := hb7_w55.kp hk56 (fun e => by have := (hTC _).1 e; omega)
              have hbz_w56 := hbz_w55.kp hk56 (fun e => by have := (hTC _).1 e; omega)
              have hb39_w56 := hb39_w55.kp hk56 (fun e => by have := (hTC _).1 e; omega)
              have hHA2_w56 := hHA2_w55.kp hk56 (fun y hy e => by have := (hTA y).1 hy; have := (hTC y).1 e; omega)
              have hb51_w56 := hb51_w55.kp hk56 (fun e => by have := (hTC _).1 e; omega)
              have hHB2_w56 := hHB2_w55.kp hk56 (fun y hy e => by have := (hTB y).1 hy; have := (hTC y).1 e; omega)
              have hb54_w56 := hb55.kp hk56 (fun e => by have := (hTC _).1 e; omega)
              have hs56 := hk56.size
              refine wl_valE (v := .tuple #[.agg #[.int .i64 hd.a, .int .i64 hd.b], .bool xb]) rfl (rf_move rfl) rfl ?_
              refine wl_valE (v := .agg #[.int .i64 hd.a, .int .i64 hd.b]) rfl (rf_extract rfl rfl rfl) rfl ?_
              refine wl_valE (v := .bool xb) rfl (rf_extract rfl rfl rfl) rfl ?_
              refine wl_alloc ti28 ?_
              intro b57 w57 hg57 hk57 hb57
              have ne57_b4 : b4 ≠ b57 := Nat.ne_of_lt (Nat.lt_of_lt_of_le hb4_w56.lt hg57)
              have ne57_b7 : b7 ≠ b57 := Nat.ne_of_lt (Nat.lt_of_lt_of_le hb7_w56.lt hg57)
              have ne57_b7 : b7 ≠ b57 := Nat.ne_of_lt (Nat.lt_of_lt_of_le hbz_w56.lt hg57)
              have ne57_b39 : b39 ≠ b57 := Nat.ne_of_lt (Nat.lt_of_lt_of_le hb39_w56.lt hg57)
              have ne57_b51 : b51 ≠ b57 := Nat.ne_of_lt (Nat.lt_of_lt_of_le hb51_w56.lt hg57)
              have ne57_b54 : b54 ≠ b57 := Nat.ne_of_lt (Nat.lt_of_lt_of_le hb54_w56.lt hg57)
              have hp_w57 := hp_w56.keep hk57
              have hkw_w57 := hkw_w56.comp hk57 (fun _ _ e => e.elim)
              have hkl0_w57 := hkl0_w56.comp hk57 (fun _ _ e => e.elim)
              have hOv_w57 := hOv_w56.keep hk57
              have hVv_w57 := hVv_w56.keep hk57
              have hb4_w57 := hb4_w56.keep hk57
              have hb7_w57 := hb7_w56.keep hk57
              have hbz_w57 := hbz_w56.keep hk57
              have hb39_w57 := hb39_w56.keep hk57
              have hHA2_w57 := hHA2_w56.keep hk57
              have hb51_w57 := hb51_w56.keep hk57
              have hHB2_w57 := hHB2_w56.keep hk57
              have hb54_w57 := hb54_w56.keep hk57
              have hHC2_w57 := hHC2.keep hk57
              have hs57 := hk57.size
              refine wl_storeAgg (b := b57) (o := 0) (cs := [.int .i64 hd.a, .int .i64 hd.b]) ti28 rfl rfl rfl rfl rfl (by simp [Value.oneCell']) hb57 (Nat.le_of_ble_eq_true rfl) ?_
              intro w58 hk58 hb58
              have hp_w58 := hp_w57.kp hk58 (fun y hy e => by have := hFp y hy; omega)
              have hkw_w58 := hkw_w57.comp hk58 (fun y hy e => by omega)
              have hkl0_w58 := hkl0_w57.comp hk58 (fun y hy e => by omega)
              have hOv_w58 := hOv_w57.kp hk58 (fun y hy e => by have := hGO y hy; omega)
              have hVv_w58 := hVv_w57.kp hk58 (fun y hy e => by have := hGV y hy; omega)
              have hb4_w58 := hb4_w57.kp hk58 ne57_b4
              have hb7_w58 := hb7_w57.kp hk58 ne57_b7
              have hbz_w58 := hbz_w57.kp hk58 ne57_b7
              have hb39_w58 := hb39_w57.kp hk58 ne57_b39
              have hHA2_w58 := hHA2_w57.kp hk58 (fun y hy e => by have := (hTA y).1 hy; omega)
              have hb51_w58 := hb51_w57.kp hk58 ne57_b51
              have hHB2_w58 := hHB2_w57.kp hk58 (fun y hy e => by have := (hTB y).1 hy; omega)
              have hb54_w58 := hb54_w57.kp hk58 ne57_b54
              have hHC2_w58 := hHC2_w57.kp hk58 (fun y hy e => by have := (hTC y).1 hy; omega)
              have hs58 := hk58.size
              replace hb58 : Blk w58 b57 (.cells #[.int .i64 hd.a, .int .i64 hd.b] _ (0, 0)) := hb58
              refine wl_valE (v := .bool xb) rfl (rf_assign rfl) rfl ?_
              refine wl_nil ?_
              refine thn ?_
              refine seq_ ?_
              refine seq_ ?_
              refine region_ ?_
              refine wl_valE (v := .agg #[.int .i64 hd.a, .int .i64 hd.b]) rfl (rf_loadBlk Try.underlying28 rfl ti28 rfl rfl hb51_w58 (Nat.le_of_ble_eq_true rfl)) rfl ?_
              refine wl_valE (v := .agg #[.int .i64 hd.a, .int .i64 hd.b]) rfl (rf_loadBlk Try.underlying28 rfl ti28 rfl rfl hbz_w58 (Nat.le_of_ble_eq_true rfl)) rfl ?_
              refine wl_valE (v := .bool false) rfl (rf_neqS (by kernel_rfl) (eqPV hd hd _) rfl rfl rfl rfl) (congrArg Value.bool (by simp)) ?_
              refine wl_valE (v := .bool false) rfl (rf_move rfl) rfl ?_
              refine wl_guardT rfl rfl rfl rfl ?_
              refine wl_valE (v := .agg #[.int .i64 hd.a, .int .i64 hd.b]) rfl (rf_loadBlk Try.underlying28 rfl ti28 rfl rfl hb54_w58 (Nat.le_of_ble_eq_true rfl)) rfl ?_
              refine wl_guardT rfl rfl rfl rfl ?_
              refine wl_valE (v := .agg #[.int .i64 hd.a, .int .i64 hd.b]) rfl (rf_loadBlk Try.underlying28 rfl ti28 rfl rfl hbz_w58 (Nat.le_of_ble_eq_true rfl)) rfl ?_
              refine wl_guardT rfl rfl rfl rfl ?_
              refine wl_valE (v := .bool false) rfl (rf_neqS (by kernel_rfl) (eqPV hd hd _) rfl rfl rfl rfl) (congrArg Value.bool (by simp)) ?_
              refine wl_valE (v := .bool false) rfl (rf_pickF rfl rfl rfl rfl) rfl ?_
              refine wl_valE (v := .bool false) rfl (rf_move rfl) rfl ?_
              refine wl_guardT rfl rfl rfl rfl ?_
              refine wl_valE (v := .agg #[.int .i64 hd.a, .int .i64 hd.b]) rfl (rf_loadBlk Try.underlying28 rfl ti28 rfl rfl hb58 (Nat.le_of_ble_eq_true rfl)) rfl ?_
              refine wl_guardT rfl rfl rfl rfl ?_
              refine wl_valE (v := .agg #[.int .i64 hd.a, .int .i64 hd.b]) rfl (rf_loadBlk Try.underlying28 rfl ti28 rfl rfl hbz_w58 (Nat.le_of_ble_eq_true rfl)) rfl ?_
              refine wl_guardT rfl rfl rfl rfl ?_
              refine wl_valE (v := .bool false) rfl (rf_neqS (by kernel_rfl) (eqPV hd hd _) rfl rfl rfl rfl) (congrArg Value.bool (by simp)) ?_
              refine wl_valE (v := .bool false) rfl (rf_pickF rfl rfl rfl rfl) rfl ?_
              refine wl_valE (v := .bool false) rfl (rf_move rfl) rfl ?_
              refine wl_guardT rfl rfl rfl rfl ?_
              refine wl_valE (v := .bool xb) rfl (rf_move rfl) rfl ?_
              refine wl_guardT rfl rfl rfl rfl ?_
              refine wl_valE (v := .int .i64 (-1 : Int)) rfl (rf_move rfl) rfl ?_
              refine wl_guardT rfl rfl rfl rfl ?_
              refine wl_valE (v := .bool xb) rfl (rf_geq rfl rfl rfl rfl) (congrArg Value.bool (by rw [hxb]; simp)) ?_
              refine wl_guardT rfl rfl rfl rfl ?_
              refine wl_valE (v := .bool false) rfl (rf_neqB Try.underlying4 rfl rfl rfl rfl) (congrArg Value.bool (by simp)) ?_
              refine wl_valE (v := .bool false) rfl (rf_pickF rfl rfl rfl rfl) rfl ?_
              refine wl_valE (v := .bool false) rfl (rf_move rfl) rfl ?_
              refine wl_guardT rfl rfl rfl rfl ?_
              refine wl_valE (v := .bool xb) rfl (rf_move rfl) rfl ?_
              refine wl_guardT rfl rfl rfl rfl ?_
              refine wl_valE (v := .bool xb) rfl (rf_move rfl) rfl ?_
              refine wl_guardT rfl rfl rfl rfl ?_
              refine wl_valE (v := .bool false) rfl (rf_neqB Try.underlying4 rfl rfl rfl rfl) (congrArg Value.bool (by simp)) ?_
              refine wl_valE (v := .bool false) rfl (rf_pickF rfl rfl rfl rfl) rfl ?_
              refine wl_valE (v := .bool false) rfl (rf_move rfl) rfl ?_
              refine wl_guardT rfl rfl rfl rfl ?_
              refine wl_valE (v := .bool xb) rfl (rf_move rfl) rfl ?_
              refine wl_guardT rfl rfl rfl rfl ?_
              refine wl_valE (v := .bool xb) rfl (rf_move rfl) rfl ?_
              refine wl_guardT rfl rfl rfl rfl ?_
              refine wl_valE (v := .bool false) rfl (rf_neqB Try.underlying4 rfl rfl rfl rfl) (congrArg Value.bool (by simp)) ?_
              refine wl_valE (v := .bool false) rfl (rf_pickF rfl rfl rfl rfl) rfl ?_
              refine wl_nil ?_
              refine thn ?_
              refine condF rfl rfl ?_
              refine skip_ ?_
              refine thn ?_
              refine seq_ ?_
              refine region_ ?_
              refine wl_valE (v := .int .i64 (-1 : Int)) rfl (rf_move rfl) rfl ?_
              refine wl_valE (v := .bool false) rfl (rf_geq rfl rfl rfl rfl) (congrArg Value.bool (by simp)) ?_
              refine wl_nil ?_
              refine thn ?_
              refine condF rfl rfl ?_
              refine seq_ ?_
              refine region_ ?_
              refine wl_valE (v := .slice oa K.length oc) rfl (rf_move rfl) rfl ?_
              refine wl_valE (v := .pointer (some ⟨b4, 0, none⟩)) rfl (rf_fieldAddr Try.underlying34 rfl ti9 rfl rfl) rfl ?_
              refine wl_valE (v := .string o.text) rfl (rf_load Try.underlying9 rfl rfl rfl (hb4_w58.cell rfl)) rfl ?_
              refine wl_buildSlice (css := [[.string o.text]]) Try.underlying31 ti9 rfl rfl rfl (.cons rfl rfl rfl rfl rfl rfl .nil) (by simp) ?_
              intro b59 w59 hg59 hk59 hb59
              have ne59_b4 : b4 ≠ b59 := Nat.ne_of_lt (Nat.lt_of_lt_of_le hb4_w58.lt hg59)
              have ne59_b39 : b39 ≠ b59 := Nat.ne_of_lt (Nat.lt_of_lt_of_le hb39_w58.lt hg59)
              have hp_w59 := hp_w58.keep hk59
              have hkw_w59 := hkw_w58.comp hk59 (fun _ _ e => e.elim)
              have hkl0_w59 := hkl0_w58.comp hk59 (fun _ _ e => e.elim)
              have hOv_w59 := hOv_w58.keep hk59
              have hVv_w59 := hVv_w58.keep hk59
              have hb4_w59 := hb4_w58.keep hk59
              have hb39_w59 := hb39_w58.keep hk59
              have hHA2_w59 := hHA2_w58.keep hk59
              have hHB2_w59 := hHB2_w58.keep hk59
              have hHC2_w59 := hHC2_w58.keep hk59
              have hs59 := hk59.size
              obtain ⟨W11, hW11⟩ : ∃ n, n = w59.heap.size := ⟨_, rfl⟩
              refine wl_append encStr_len encStr_one Try.underlying31 ti9 rfl rfl rfl rfl rfl (hOv_w59) ((SlAt.of_blk (l := [o.text]) encStr_len (by simp) hb59).rd (F := fun b => b = b59) rfl) (by simp; omega) (by simp; omega) ?_
              intro v60 w60 hk60 ha60
              have hp_w60 := hp_w59.kp hk60 (fun y hy e => by have := hFp y hy; have := hGO y e; omega)
              have hkw_w60 := hkw_w59.comp hk60 (fun y hy e => by have := hGO y e; omega)
              have hkl0_w60 := hkl0_w59.comp hk60 (fun y hy e => by have := hGO y e; omega)
              have hVv_w60 := hVv_w59.kp hk60 (fun y hy e => (hGV y hy).2.2 e)
              have hb4_w60 := hb4_w59.kp hk60 (fun e => by have := hGO _ e; omega)
              have hb39_w60 := hb39_w59.kp hk60 (fun e => by have := hGO _ e; omega)
              have hHA2_w60 := hHA2_w59.kp hk60 (fun y hy e => by have := (hTA y).1 hy; have := hGO y e; omega)
              have hHB2_w60 := hHB2_w59.kp hk60 (fun y hy e => by have := (hTB y).1 hy; have := hGO y e; omega)
              have hHC2_w60 := hHC2_w59.kp hk60 (fun y hy e => by have := (hTC y).1 hy; have := hGO y e; omega)
              have hs60 := hk60.size
              replace ha60 := ha60.tight
              obtain ⟨W12, hW12⟩ : ∃ n, n = w60.heap.size := ⟨_, rfl⟩
              rw [← hW12] at ha60
              refine wl_valE (v := v60) rfl (rf_assign rfl) rfl ?_
              refine wl_nil ?_
              refine thn ?_
              refine region_ ?_
              refine wl_valE (v := .slice va A.length vc) rfl (rf_move rfl) rfl ?_
              refine wl_valE (v := .agg #[.int .i64 o.num, .int .i64 ((i : Nat) : Int)]) rfl (rf_loadBlk Try.underlying28 rfl ti28 rfl rfl hb39_w60 (Nat.le_of_ble_eq_true rfl)) rfl ?_
              refine wl_buildSlice (css := [[.int .i64 o.num, .int .i64 ((i : Nat) : Int)]]) Try.underlying32 ti28 rfl rfl rfl (.cons rfl rfl rfl rfl rfl rfl .nil) (by simp) ?_
              intro b61 w61 hg61 hk61 hb61
              have ne61_b4 : b4 ≠ b61 := Nat.ne_of_lt (Nat.lt_of_lt_of_le hb4_w60.lt hg61)
              have ne61_b39 : b39 ≠ b61 := Nat.ne_of_lt (Nat.lt_of_lt_of_le hb39_w60.lt hg61)
              have hp_w61 := hp_w60.keep hk61
              have hkw_w61 := hkw_w60.comp hk61 (fun _ _ e => e.elim)
              have hkl0_w61 := hkl0_w60.comp hk61 (fun _ _ e => e.elim)
              have hVv_w61 := hVv_w60.keep hk61
              have hb4_w61 := hb4_w60.keep hk61
              have hb39_w61 := hb39_w60.keep hk61
              have hHA2_w61 := hHA2_w60.keep hk61
              have hHB2_w61 := hHB2_w60.keep hk61
              have hHC2_w61 := hHC2_w60.keep hk61
              have hon_w61 := ha60.keep hk61
              have hs61 := hk61.size
              refine wl_append encPV_len encPV_one Try.underlying32 ti28 rfl rfl rfl rfl rfl (hVv_w61) ((SlAt.of_blk (l := [(⟨o.num, ((i : Nat) : Int)⟩ : PairV)]) encPV_len (by simp) hb61).rd (F := fun b => b = b61) rfl) (by simp; omega) (by simp; omega) ?_
              intro v62 w62 hk62 ha62
              have hp_w62 := hp_w61.kp hk62 (fun y hy e => by have := hFp y hy; have := hGV y e; omega)
              have hkw_w62 := hkw_w61.comp hk62 (fun y hy e => by have := hGV y e; omega)
              have hkl0_w62 := hkl0_w61.comp hk62 (fun y hy e => by have := hGV y e; omega)
              have hb4_w62 := hb4_w61.kp hk62 (fun e => by have := hGV _ e; omega)
              have hb39_w62 := hb39_w61.kp hk62 (fun e => by have := hGV _ e; omega)
              have hHA2_w62 := hHA2_w61.kp hk62 (fun y hy e => by have := (hTA y).1 hy; have := hGV y e; omega)
              have hHB2_w62 := hHB2_w61.kp hk62 (fun y hy e => by have := (hTB y).1 hy; have := hGV y e; omega)
              have hHC2_w62 := hHC2_w61.kp hk62 (fun y hy e => by have := (hTC y).1 hy; have := hGV y e; omega)
              have hon_w62 := hon_w61.kp hk62 (fun y hy e => by have := hGV y e; rcases hy.1 with h | h; exact this.2.2 h; omega)
              have hs62 := hk62.size
              refine wl_valE (v := v62) rfl (rf_assign rfl) rfl ?_
              refine wl_nil ?_
              refine bln ?_
              refine thn ?_
              refine region_ ?_
              refine wl_valE (v := .int .i64 ((i : Nat) : Int)) rfl (rf_move rfl) rfl ?_
              refine wl_valE (v := .int .i64 ((i + 1 : Nat) : Int)) rfl (rf_add rfl rfl rfl rfl (IntWalk.i64_in _ (by omega))) rfl ?_
              refine wl_valE (v := .int .i64 ((i + 1 : Nat) : Int)) rfl (rf_assign rfl) rfl ?_
              refine wl_nil ?_
              refine thn ?_
              refine ⟨lk0 - 1, _, rfl, (by omega), _, i + 1, K3, A3, (v60), (v62), (fun y => (GO y ∨ W11 ≤ y) ∧ y < W12), (fun y => (GV y ∨ W12 ≤ y) ∧ y < w62.heap.size), upds_self ⟨rfl, rfl, rfl, rfl, rfl, rfl, rfl, trivial⟩, ?_⟩
              have h2 := ha62.tight
              refine ⟨by omega, hHA2_w62, hHB2_w62, hHC2_w62, by rw [hK3]; exact hon_w62.mono (fun y hy => ⟨hy.1.elim .inl (fun e => .inr (by omega)), hy.2⟩), by rw [hA3]; exact h2.mono (fun y hy => ⟨hy.1.elim .inl (fun e => .inr (by omega)), hy.2⟩), by rw [hK3]; simp; omega, fun k hk => ?_, fun y hy => ?_, fun y hy => ?_, hkl0_w62⟩
              · rw [hK3] at hk
                rcases List.mem_append.1 hk with h | h
                · exact hKs k h
                · rw [List.mem_singleton.1 h]; exact hts
              · obtain ⟨h1 | h1, h3⟩ := hy
                · have := hGO y h1; exact ⟨by omega, by omega⟩
                · exact ⟨by omega, by omega⟩
              · obtain ⟨h1 | h1, h3⟩ := hy
                · have := hGV y h1; exact ⟨by omega, by omega, fun h => by obtain ⟨h5 | h5, h6⟩ := h; exact this.2.2 h5; omega⟩
                · exact ⟨by omega, by omega, fun h => by obtain ⟨h5, h6⟩ := h; omega⟩
    · have c80p := of_decide_eq_false c80
      refine exit_ ?_
      refine thx (thx (blx ?_))
      refine thn ?_
      refine seq_ ?_
      refine region_ ?_
      refine wl_valE (v := .pointer (some ⟨bA, 0, none⟩)) rfl (rf_move rfl) rfl ?_
      refine wl_valE (v := ov) rfl (rf_move rfl) rfl ?_
      refine wl_valE (v := vv) rfl (rf_move rfl) rfl ?_
      refine wl_ret rfl (HsS.end_ hHA (by omega) hKs (by omega) _ _ GO GV hOv.rd hVv.rd (fun y h => by have := hGO y h; omega) (fun y h => by have := hGV y h; omega)) (rf_call Try.call9 rfl rfl) ?_
      rintro _ w63 ⟨rfl, hk63⟩
      have hp_w63 := hp_wl.keep hk63
      have hkw_w63 := hkw_wl.comp hk63 (fun _ _ e => e.elim)
      have hkl0_w63 := hkl0.comp hk63 (fun _ _ e => e.elim)
      have hHA_w63 := hHA.keep hk63
      have hHB_w63 := hHB.keep hk63
      have hHC_w63 := hHC.keep hk63
      have hOv_w63 := hOv.keep hk63
      have hVv_w63 := hVv.keep hk63
      have hs63 := hk63.size
      refine wl_valE (v := .bool true) rfl (rf_move rfl) rfl ?_
      refine wl_guardT rfl rfl rfl rfl ?_
      refine wl_valE (v := .pointer (some ⟨bB, 0, none⟩)) rfl (rf_move rfl) rfl ?_
      refine wl_guardT rfl rfl rfl rfl ?_
      refine wl_valE (v := ov) rfl (rf_move rfl) rfl ?_
      refine wl_guardT rfl rfl rfl rfl ?_
      refine wl_valE (v := vv) rfl (rf_move rfl) rfl ?_
      refine wl_guardT rfl rfl rfl rfl ?_
      refine wl_ret rfl (HsG.end_ hHB_w63 (by omega) hKs (by omega) _ _ GO GV hOv_w63.rd hVv_w63.rd (fun y h => by have := hGO y h; omega) (fun y h => by have := hGV y h; omega)) (rf_call Try.call9 rfl rfl) ?_
      rintro _ w64 ⟨rfl, hk64⟩
      have hp_w64 := hp_w63.keep hk64
      have hkw_w64 := hkw_w63.comp hk64 (fun _ _ e => e.elim)
      have hkl0_w64 := hkl0_w63.comp hk64 (fun _ _ e => e.elim)
      have hHA_w64 := hHA_w63.keep hk64
      have hHB_w64 := hHB_w63.keep hk64
      have hHC_w64 := hHC_w63.keep hk64
      have hOv_w64 := hOv_w63.keep hk64
      have hVv_w64 := hVv_w63.keep hk64
      have hs64 := hk64.size
      refine wl_valE (v := .bool true) rfl (rf_pickT rfl rfl rfl rfl) rfl ?_
      refine wl_valE (v := .bool true) rfl (rf_move rfl) rfl ?_
      refine wl_guardT rfl rfl rfl rfl ?_
      refine wl_valE (v := .pointer (some ⟨bC, 0, none⟩)) rfl (rf_move rfl) rfl ?_
      refine wl_guardT rfl rfl rfl rfl ?_
      refine wl_valE (v := ov) rfl (rf_move rfl) rfl ?_
      refine wl_guardT rfl rfl rfl rfl ?_
      refine wl_valE (v := vv) rfl (rf_move rfl) rfl ?_
      refine wl_guardT rfl rfl rfl rfl ?_
      refine wl_ret rfl (HsZ.end_ hHC_w64 (by omega) hKs (by omega) _ _ GO GV hOv_w64.rd hVv_w64.rd (fun y h => by have := hGO y h; omega) (fun y h => by have := hGV y h; omega)) (rf_call Try.call10 rfl rfl) ?_
      rintro _ w65 ⟨rfl, hk65⟩
      have hp_w65 := hp_w64.keep hk65
      have hkw_w65 := hkw_w64.comp hk65 (fun _ _ e => e.elim)
      have hkl0_w65 := hkl0_w64.comp hk65 (fun _ _ e => e.elim)
      have hHA_w65 := hHA_w64.keep hk65
      have hHB_w65 := hHB_w64.keep hk65
      have hHC_w65 := hHC_w64.keep hk65
      have hOv_w65 := hOv_w64.keep hk65
      have hVv_w65 := hVv_w64.keep hk65
      have hs65 := hk65.size
      refine wl_valE (v := .bool true) rfl (rf_pickT rfl rfl rfl rfl) rfl ?_
      refine wl_valE (v := .bool true) rfl (rf_assign rfl) rfl ?_
      refine wl_nil ?_
      refine thn ?_
      refine ret_ ?_
      refine fin1 (v := .bool true) Try.results3 rfl rfl ?_
      exact ⟨rfl, hkw_w65⟩
end Go.Proofs.Ytngpghddmehmhaa.W
