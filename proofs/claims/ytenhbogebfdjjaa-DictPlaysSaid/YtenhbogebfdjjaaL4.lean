import Derived.Test.YtenhbogebfdjjaaL3M
import Derived.Test.YtenhbogebfdjjaaL3R
import Derived.KernelRfl
namespace Go.Proofs.Ytenhbogebfdjjaa.W
open Go Go.Wk
set_option linter.unusedVariables false
set_option maxRecDepth 100000 in
theorem lawPlays11_ret (m1 : Nat) (h1 : 1 ≤ m1 ∧ m1 ≤ 256) (m2 : Nat) (h2 : 1 ≤ m2 ∧ m2 ≤ 256) (vp : Value) (Fp : Nat → Prop) (L : List OpR) (w : World) (hL : L.length ≤ 2932031007390) (hp : Rd encOp 6 w Fp vp L) (hFp : ∀ b, Fp b → b < w.heap.size) : Ret Try.prog 3 [.int .i64 ((m1 : Nat) : Int), .int .i64 ((m2 : Nat) : Int), vp] w fun v w' => v = .bool true ∧ Kp none_ w w' := by
  obtain ⟨pa, pcap, rfl, hpcap⟩ := hp.form
  have hkw : Kp none_ w w := Kp.refl w
  refine enterR Try.func3 rfl Try.ntmps3 rfl ?_
  intro g0
  refine seq_ ?_
  refine region_ ?_
  refine wl_valE (v := .bool false) rfl (rf_assign rfl) rfl ?_
  refine wl_nil ?_
  refine thn ?_
  refine seq_ ?_
  refine region_ ?_
  refine wl_valE (v := .int .i64 ((m1 : Nat) : Int)) rfl (rf_move rfl) rfl ?_
  refine wl_ret rfl (newDM_ret ((m1 : Nat) : Int) w) (rf_call Try.call4 rfl rfl) ?_
  rintro vq w1 ⟨hv1, hv2⟩
  obtain ⟨bA, bpA, rsA, rfl, hdA, hknA, hfA⟩ := hv2 ⟨by omega, by omega⟩
  obtain ⟨WA, hWA⟩ : ∃ n, n = w1.heap.size := ⟨_, rfl⟩
  obtain ⟨VA, hVA⟩ : ∃ n, n = w.heap.size := ⟨_, rfl⟩
  rw [← hVA] at hfA
  have hltA : ∀ x, fpD bA bpA rsA x → x < WA := fun x hx => by rw [hWA]; exact hdA.lt x hx
  have hp_w1 := hp.keep hknA
  have hkw_w1 := hkw.comp hknA (fun _ _ e => e.elim)
  have hs1 := hknA.size
  refine wl_valE (v := .tuple #[.pointer (some ⟨bA, 0, none⟩), .int .i64 0]) rfl (rf_move rfl) rfl ?_
  refine wl_valE (v := .pointer (some ⟨bA, 0, none⟩)) rfl (rf_extract rfl rfl rfl) rfl ?_
  refine wl_valE (v := .int .i64 0) rfl (rf_extract rfl rfl rfl) rfl ?_
  refine wl_valE (v := .pointer (some ⟨bA, 0, none⟩)) rfl (rf_assign rfl) rfl ?_
  refine wl_valE (v := .int .i64 0) rfl (rf_assign rfl) rfl ?_
  refine wl_nil ?_
  refine thn ?_
  refine seq_ ?_
  refine region_ ?_
  refine wl_valE (v := .int .i64 ((m2 : Nat) : Int)) rfl (rf_move rfl) rfl ?_
  refine wl_ret rfl (newDR_ret ((m2 : Nat) : Int) w1) (rf_call Try.call4 rfl rfl) ?_
  rintro vq w2 ⟨hv1, hv2⟩
  obtain ⟨bB, bpB, rsB, rfl, hdB, hknB, hfB⟩ := hv2 ⟨by omega, by omega⟩
  obtain ⟨WB, hWB⟩ : ∃ n, n = w2.heap.size := ⟨_, rfl⟩
  obtain ⟨VB, hVB⟩ : ∃ n, n = w1.heap.size := ⟨_, rfl⟩
  rw [← hVB] at hfB
  have hltB : ∀ x, fpD bB bpB rsB x → x < WB := fun x hx => by rw [hWB]; exact hdB.lt x hx
  have hp_w2 := hp_w1.keep hknB
  have hkw_w2 := hkw_w1.comp hknB (fun _ _ e => e.elim)
  have hdA_w2 := hdA.keep hknB
  have hs2 := hknB.size
  refine wl_valE (v := .tuple #[.pointer (some ⟨bB, 0, none⟩), .int .i64 0]) rfl (rf_move rfl) rfl ?_
  refine wl_valE (v := .pointer (some ⟨bB, 0, none⟩)) rfl (rf_extract rfl rfl rfl) rfl ?_
  refine wl_valE (v := .int .i64 0) rfl (rf_extract rfl rfl rfl) rfl ?_
  refine wl_valE (v := .pointer (some ⟨bB, 0, none⟩)) rfl (rf_assign rfl) rfl ?_
  refine wl_valE (v := .int .i64 0) rfl (rf_assign rfl) rfl ?_
  refine wl_nil ?_
  refine thn ?_
  refine seq_ ?_
  refine region_ ?_
  refine wl_valE (v := .int .i64 ((m1 : Nat) : Int)) rfl (rf_move rfl) rfl ?_
  refine wl_ret rfl (refNew_ret ((m1 : Nat) : Int) w2) (rf_call Try.call7 rfl rfl) ?_
  rintro vq w3 ⟨hv1, hv2⟩
  obtain ⟨rA, rfl, hrA, hkrA, hgA⟩ := hv2 ⟨by omega, by omega⟩
  have hltrA := hrA.blk.lt
  have hp_w3 := hp_w2.keep hkrA
  have hkw_w3 := hkw_w2.comp hkrA (fun _ _ e => e.elim)
  have hdA_w3 := hdA_w2.keep hkrA
  have hdB_w3 := hdB.keep hkrA
  have hs3 := hkrA.size
  refine wl_valE (v := .tuple #[.pointer (some ⟨rA, 0, none⟩), .int .i64 0]) rfl (rf_move rfl) rfl ?_
  refine wl_valE (v := .pointer (some ⟨rA, 0, none⟩)) rfl (rf_extract rfl rfl rfl) rfl ?_
  refine wl_valE (v := .int .i64 0) rfl (rf_extract rfl rfl rfl) rfl ?_
  refine wl_valE (v := .pointer (some ⟨rA, 0, none⟩)) rfl (rf_assign rfl) rfl ?_
  refine wl_valE (v := .int .i64 0) rfl (rf_assign rfl) rfl ?_
  refine wl_nil ?_
  refine thn ?_
  refine seq_ ?_
  refine region_ ?_
  refine wl_valE (v := .int .i64 ((m2 : Nat) : Int)) rfl (rf_move rfl) rfl ?_
  refine wl_ret rfl (refNew_ret ((m2 : Nat) : Int) w3) (rf_call Try.call7 rfl rfl) ?_
  rintro vq w4 ⟨hv1, hv2⟩
  obtain ⟨rB, rfl, hrB, hkrB, hgB⟩ := hv2 ⟨by omega, by omega⟩
  have hltrB := hrB.blk.lt
  have hp_w4 := hp_w3.keep hkrB
  have hkw_w4 := hkw_w3.comp hkrB (fun _ _ e => e.elim)
  have hdA_w4 := hdA_w3.keep hkrB
  have hdB_w4 := hdB_w3.keep hkrB
  have hrA_w4 := hrA.keep hkrB
  have hs4 := hkrB.size
  refine wl_valE (v := .tuple #[.pointer (some ⟨rB, 0, none⟩), .int .i64 0]) rfl (rf_move rfl) rfl ?_
  refine wl_valE (v := .pointer (some ⟨rB, 0, none⟩)) rfl (rf_extract rfl rfl rfl) rfl ?_
  refine wl_valE (v := .int .i64 0) rfl (rf_extract rfl rfl rfl) rfl ?_
  refine wl_valE (v := .pointer (some ⟨rB, 0, none⟩)) rfl (rf_assign rfl) rfl ?_
  refine wl_valE (v := .int .i64 0) rfl (rf_assign rfl) rfl ?_
  refine wl_nil ?_
  refine thn ?_
  refine seq_ ?_
  refine seq_ ?_
  refine region_ ?_
  refine wl_valE (v := .int .i64 0) rfl (rf_move rfl) rfl ?_
  refine wl_valE (v := .int .i64 0) rfl (rf_move rfl) rfl ?_
  refine wl_valE (v := .bool false) rfl (rf_neq rfl rfl rfl rfl) (congrArg Value.bool (by decide)) ?_
  refine wl_valE (v := .bool false) rfl (rf_move rfl) rfl ?_
  refine wl_guardT rfl rfl rfl rfl ?_
  refine wl_valE (v := .int .i64 0) rfl (rf_move rfl) rfl ?_
  refine wl_guardT rfl rfl rfl rfl ?_
  refine wl_valE (v := .int .i64 0) rfl (rf_move rfl) rfl ?_
  refine wl_guardT rfl rfl rfl rfl ?_
  refine wl_valE (v := .bool false) rfl (rf_neq rfl rfl rfl rfl) (congrArg Value.bool (by decide)) ?_
  refine wl_valE (v := .bool false) rfl (rf_pickF rfl rfl rfl rfl) rfl ?_
  refine wl_valE (v := .bool false) rfl (rf_move rfl) rfl ?_
  refine wl_guardT rfl rfl rfl rfl ?_
  refine wl_valE (v := .pointer (some ⟨bA, 0, none⟩)) rfl (rf_move rfl) rfl ?_
  refine wl_guardT rfl rfl rfl rfl ?_
  refine wl_valE (v := .bool false) rfl (rf_eqlPN Try.underlying23 rfl rfl rfl rfl) rfl ?_
  refine wl_guardT rfl rfl rfl rfl ?_
  refine wl_valE (v := .pointer (some ⟨rA, 0, none⟩)) rfl (rf_move rfl) rfl ?_
  refine wl_guardT rfl rfl rfl rfl ?_
  refine wl_valE (v := .bool false) rfl (rf_eqlPN Try.underlying30 rfl rfl rfl rfl) rfl ?_
  refine wl_guardT rfl rfl rfl rfl ?_
  refine wl_valE (v := .bool false) rfl (rf_neqB Try.underlying4 rfl rfl rfl rfl) rfl ?_
  refine wl_valE (v := .bool false) rfl (rf_pickF rfl rfl rfl rfl) rfl ?_
  refine wl_valE (v := .bool false) rfl (rf_move rfl) rfl ?_
  refine wl_guardT rfl rfl rfl rfl ?_
  refine wl_valE (v := .pointer (some ⟨bB, 0, none⟩)) rfl (rf_move rfl) rfl ?_
  refine wl_guardT rfl rfl rfl rfl ?_
  refine wl_valE (v := .bool false) rfl (rf_eqlPN Try.underlying23 rfl rfl rfl rfl) rfl ?_
  refine wl_guardT rfl rfl rfl rfl ?_
  refine wl_valE (v := .pointer (some ⟨rB, 0, none⟩)) rfl (rf_move rfl) rfl ?_
  refine wl_guardT rfl rfl rfl rfl ?_
  refine wl_valE (v := .bool false) rfl (rf_eqlPN Try.underlying30 rfl rfl rfl rfl) rfl ?_
  refine wl_guardT rfl rfl rfl rfl ?_
  refine wl_valE (v := .bool false) rfl (rf_neqB Try.underlying4 rfl rfl rfl rfl) rfl ?_
  refine wl_valE (v := .bool false) rfl (rf_pickF rfl rfl rfl rfl) rfl ?_
  refine wl_nil ?_
  refine thn ?_
  refine condF rfl rfl ?_
  refine skip_ ?_
  refine thn ?_
  refine seq_ ?_
  refine seq_ ?_
  refine region_ ?_
  refine wl_valE (v := .int .i64 ((0 : Nat) : Int)) rfl (rf_assign rfl) rfl ?_
  refine wl_nil ?_
  refine thn ?_
  refine block_ ?_
  refine loop_ (fun lk lf lw => ∃ (g : Nat → Value) (i : Nat) (TA : Nat → Prop) (TB : Nat → Prop), lf = upds g [(0, .int .i64 ((m1 : Nat) : Int)), (2, .slice pa L.length pcap), (7, .pointer (some ⟨bA, 0, none⟩)), (9, .pointer (some ⟨bB, 0, none⟩)), (11, .pointer (some ⟨rA, 0, none⟩)), (13, .pointer (some ⟨rB, 0, none⟩)), (15, .int .i64 ((i : Nat) : Int))] ∧ i + lk = L.length ∧ SideM lw bA rA m1 i TA ∧ (∀ y, TA y → w.heap.size ≤ y) ∧ SideR lw bB rB m2 i TB ∧ (∀ y, TB y → w.heap.size ≤ y) ∧ (∀ y, TA y → ¬ TB y) ∧ Kp (fun y => w.heap.size ≤ y) w4 lw) (L.length) ?_ ?_
  · refine ⟨_, 0, (fun y => (VA ≤ y ∧ y < WA) ∨ y = rA), (fun y => (VB ≤ y ∧ y < WB) ∨ y = rB), upds_self ⟨rfl, rfl, rfl, rfl, rfl, rfl, rfl, trivial⟩, ?_⟩
    refine ⟨by omega, SideM.new h1.1 hdA_w4 hrA_w4 (fun e => by have := hltA _ e; omega) (fun y hy => ?_) (fun y hy => by omega), fun y hy => by omega, SideR.new h2.1 hdB_w4 hrB (fun e => by have := hltB _ e; omega) (fun y hy => ?_) (fun y hy => by omega), fun y hy => by omega, fun y hy e => by omega, Kp.refl _⟩
    · rcases hy with e | e
      · exact .inl ⟨hfA y e, by have := hltA y e; omega⟩
      · exact .inr e
    · rcases hy with e | e
      · exact .inl ⟨by have := hfB y e; omega, by have := hltB y e; omega⟩
      · exact .inr e
  · intro lk0 lf0 wl hI0
    obtain ⟨gl0, i, TA, TB, rfl, hik, hsA, htA, hsB, htB, hdis, hkl0⟩ := hI0
    have hp_wl := hp_w4.kp hkl0 (fun y hy e => by have := hFp y hy; first | omega | (have := htB y e; omega) | (have := htA y e; omega))
    have hkw_wl := hkw_w4.comp hkl0 (fun y hy e => by first | omega | (have := htB y e; omega) | (have := htA y e; omega))
    have hsl := hkl0.size
    have hsA0 := hsA
    have hsB0 := hsB
    refine seq_ ?_
    refine seq_ ?_
    refine region_ ?_
    refine wl_valE (v := .int .i64 ((i : Nat) : Int)) rfl (rf_move rfl) rfl ?_
    refine wl_valE (v := .slice pa L.length pcap) rfl (rf_move rfl) rfl ?_
    refine wl_valE (v := .int .i64 ((L.length : Nat) : Int)) rfl (rf_len_slice Try.underlying22 rfl rfl) rfl ?_
    refine wl_valE (v := .bool (decide (((i : Nat) : Int) < ((L.length : Nat) : Int)))) rfl (rf_lss rfl rfl rfl rfl) rfl ?_
    refine wl_nil ?_
    refine thn ?_
    refine cond_ (t := decide (((i : Nat) : Int) < ((L.length : Nat) : Int))) rfl rfl (fun c64 => ?_) (fun c64 => ?_)
    · have c64p := of_decide_eq_true c64
      obtain ⟨o, ho⟩ : ∃ o, L[i]? = some o := ⟨_, List.getElem?_eq_getElem (by omega)⟩
      obtain ⟨bx9, ox9, capx9, ex9, hcapx9, hFx9, hltx9, hcellx9⟩ := hp_wl.get (by omega)
      cases ex9
      refine skip_ ?_
      refine thn ?_
      refine seq_ ?_
      refine block_ ?_
      refine seq_ ?_
      refine region_ ?_
      refine wl_valE (v := .slice (some ⟨bx9, ox9, none⟩) L.length pcap) rfl (rf_move rfl) rfl ?_
      refine wl_valE (v := .int .i64 ((i : Nat) : Int)) rfl (rf_move rfl) rfl ?_
      refine wl_valE (v := .pointer (some ⟨bx9, ox9 + i * 6, none⟩)) rfl (rf_indexAddr Try.underlying22 ti34 rfl rfl rfl rfl (by omega) (by omega)) rfl ?_
      refine wl_valE (v := .agg #[.int .i64 o.kind, .int .i64 o.key.table, .int .i64 o.key.row, .int .i64 o.v, .int .i64 o.num, .bool o.two]) rfl (rf_loadAgg Try.underlying34 rfl ti34 rfl rfl (el_cells (hcellx9 i o ho)) rfl) rfl ?_
      refine wl_alloc ti34 ?_
      intro b5 w5 hg5 hk5 hb5
      have hp_w5 := hp_wl.keep hk5
      have hkw_w5 := hkw_wl.comp hk5 (fun _ _ e => e.elim)
      have hkl0_w5 := hkl0.comp hk5 (fun _ _ e => e.elim)
      have hsA_w5 := hsA.keep hk5
      have hsB_w5 := hsB.keep hk5
      have hs5 := hk5.size
      refine wl_storeAgg (b := b5) (o := 0) (cs := [.int .i64 o.kind, .int .i64 o.key.table, .int .i64 o.key.row, .int .i64 o.v, .int .i64 o.num, .bool o.two]) ti34 rfl rfl rfl rfl rfl (by simp [Value.oneCell']) hb5 (Nat.le_of_ble_eq_true rfl) ?_
      intro w6 hk6 hb6
      have hp_w6 := hp_w5.kp hk6 (fun y hy e => by have := hFp y hy; omega)
      have hkw_w6 := hkw_w5.comp hk6 (fun y hy e => by omega)
      have hkl0_w6 := hkl0_w5.comp hk6 (fun y hy e => by omega)
      have hsA_w6 := hsA_w5.kp hk6 (fun y hy e => by have := hsA0.lt y hy; omega)
      have hsB_w6 := hsB_w5.kp hk6 (fun y hy e => by have := hsB0.lt y hy; omega)
      have hs6 := hk6.size
      replace hb6 : Blk w6 b5 (.cells #[.int .i64 o.kind, .int .i64 o.key.table, .int .i64 o.key.row, .int .i64 o.v, .int .i64 o.num, .bool o.two] _ (0, 0)) := hb6
      refine wl_nil ?_
      refine thn ?_
      refine seq_ ?_
      refine region_ ?_
      refine wl_valE (v := .bool true) rfl (rf_assign rfl) rfl ?_
      refine wl_nil ?_
      refine thn ?_
      refine seq_ ?_
      refine seq_ ?_
      refine cut_ (fun lf lw => ∃ (g : Nat → Value) (q76 : Bool), lf = upds g [(0, .int .i64 ((m1 : Nat) : Int)), (2, .slice (some ⟨bx9, ox9, none⟩) L.length pcap), (7, .pointer (some ⟨bA, 0, none⟩)), (9, .pointer (some ⟨bB, 0, none⟩)), (11, .pointer (some ⟨rA, 0, none⟩)), (13, .pointer (some ⟨rB, 0, none⟩)), (15, .int .i64 ((i : Nat) : Int)), (16, .pointer (some ⟨b5, 0, none⟩)), (17, .bool true), (61, .int .i64 ((i : Nat) : Int)), (62, .slice (some ⟨bx9, ox9, none⟩) L.length pcap), (63, .int .i64 ((L.length : Nat) : Int)), (64, .bool (decide (((i : Nat) : Int) < ((L.length : Nat) : Int)))), (67, .slice (some ⟨bx9, ox9, none⟩) L.length pcap), (68, .int .i64 ((i : Nat) : Int)), (69, .pointer (some ⟨bx9, ox9 + i * 6, none⟩)), (70, .agg #[.int .i64 o.kind, .int .i64 o.key.table, .int .i64 o.key.row, .int .i64 o.v, .int .i64 o.num, .bool o.two]), (76, .bool q76)] ∧ Kp (none_) w6 lw) ?_ ?_
      · refine region_ ?_
        refine wl_valE (v := .pointer (some ⟨b5, 5, none⟩)) rfl (rf_fieldAddr Try.underlying34 rfl ti4 rfl rfl) rfl ?_
        refine wl_valE (v := .bool o.two) rfl (rf_load Try.underlying4 rfl rfl rfl (hb6.cell rfl)) rfl ?_
        refine wl_valE (v := .bool o.two) rfl (rf_move rfl) rfl ?_
        refine wl_split (o.two) (fun u12_2 => ?_) (fun u12_2 => ?_)
        · refine wl_guardT rfl rfl rfl u12_2 ?_
          refine wl_valE (v := .pointer (some ⟨bB, 0, none⟩)) rfl (rf_move rfl) rfl ?_
          refine wl_guardT rfl rfl rfl u12_2 ?_
          refine wl_valE (v := .bool true) rfl (rf_neqPN Try.underlying23 rfl rfl rfl rfl) rfl ?_
          refine wl_valE (v := .bool true) rfl (rf_pickT rfl rfl rfl u12_2) rfl ?_
          refine wl_nil ?_
          refine cxn ⟨_, _, upds_self ⟨rfl, rfl, rfl, rfl, rfl, rfl, rfl, rfl, rfl, rfl, rfl, rfl, rfl, rfl, rfl, rfl, rfl, rfl, trivial⟩, ?_⟩
          exact Kp.refl _
        · refine wl_guardF rfl rfl rfl u12_2 ?_
          refine wl_guardF rfl rfl rfl u12_2 ?_
          refine wl_valE (v := .bool false) rfl (rf_pickF rfl rfl rfl u12_2) rfl ?_
          refine wl_nil ?_
          refine cxn ⟨_, _, upds_self ⟨rfl, rfl, rfl, rfl, rfl, rfl, rfl, rfl, rfl, rfl, rfl, rfl, rfl, rfl, rfl, rfl, rfl, rfl, trivial⟩, ?_⟩
          exact Kp.refl _
      · intro lfcutr12 wcB hIcutr12
        obtain ⟨glcutr12, q76, rfl, hkcB⟩ := hIcutr12
        have hp_wcB := hp_w6.keep hkcB
        have hkw_wcB := hkw_w6.comp hkcB (fun _ _ e => e.elim)
        have hkl0_wcB := hkl0_w6.comp hkcB (fun _ _ e => e.elim)
        have hsA_wcB := hsA_w6.keep hkcB
        have hsB_wcB := hsB_w6.keep hkcB
        have hb5_wcB := hb6.keep hkcB
        have hscB := hkcB.size
        refine thn ?_
        refine cut_ (fun lf lw => ∃ (g : Nat → Value) (TB2 : Nat → Prop), lf = upds g [(0, .int .i64 ((m1 : Nat) : Int)), (2, .slice (some ⟨bx9, ox9, none⟩) L.length pcap), (7, .pointer (some ⟨bA, 0, none⟩)), (9, .pointer (some ⟨bB, 0, none⟩)), (11, .pointer (some ⟨rA, 0, none⟩)), (13, .pointer (some ⟨rB, 0, none⟩)), (15, .int .i64 ((i : Nat) : Int)), (16, .pointer (some ⟨b5, 0, none⟩)), (17, .bool true), (61, .int .i64 ((i : Nat) : Int)), (62, .slice (some ⟨bx9, ox9, none⟩) L.length pcap), (63, .int .i64 ((L.length : Nat) : Int)), (64, .bool (decide (((i : Nat) : Int) < ((L.length : Nat) : Int)))), (67, .slice (some ⟨bx9, ox9, none⟩) L.length pcap), (68, .int .i64 ((i : Nat) : Int)), (69, .pointer (some ⟨bx9, ox9 + i * 6, none⟩)), (70, .agg #[.int .i64 o.kind, .int .i64 o.key.table, .int .i64 o.key.row, .int .i64 o.v, .int .i64 o.num, .bool o.two]), (76, .bool q76)] ∧ SideR lw bB rB m2 (i + 1) TB2 ∧ (∀ y, TB2 y → TB y ∨ wcB.heap.size ≤ y) ∧ Kp (TB) wcB lw) ?_ ?_
        · refine cond_ (t := q76) rfl rfl (fun c76 => ?_) (fun c76 => ?_)
          · refine region_h (S := fun wq => Kp (TB) wcB wq) mixedP ?_
            intro w7 hk7
            have hp_w7 := hp_wcB.keep hk7
            have hkw_w7 := hkw_wcB.comp hk7 (fun _ _ e => e.elim)
            have hkl0_w7 := hkl0_wcB.comp hk7 (fun _ _ e => e.elim)
            have hsA_w7 := hsA_wcB.keep hk7
            have hsB_w7 := hsB_wcB.keep hk7
            have hb5_w7 := hb5_wcB.keep hk7
            have hs7 := hk7.size
            have hS7 : Kp (TB) wcB w7 := hk7.of_none
            refine wh_take (i := 0) (v := .pointer (some ⟨bB, 0, none⟩)) rfl (by kernel_rfl) (by kernel_rfl) (by kernel_rfl) hS7 rfl (fun wq hq => rf_move rfl) rfl ?_
            refine wh_take (i := 1) (v := .pointer (some ⟨rB, 0, none⟩)) rfl (by kernel_rfl) (by kernel_rfl) (by kernel_rfl) hS7 rfl (fun wq hq => rf_move rfl) rfl ?_
            refine wh_take (i := 2) (v := .agg #[.int .i64 o.kind, .int .i64 o.key.table, .int .i64 o.key.row, .int .i64 o.v, .int .i64 o.num, .bool o.two]) rfl (by kernel_rfl) (by kernel_rfl) (by kernel_rfl) hS7 rfl (fun wq hq => rf_loadBlk Try.underlying34 rfl ti34 rfl rfl (hb5_wcB.kp hq (fun e => by have := hsB0.lt _ e; omega)) (Nat.le_of_ble_eq_true rfl)) rfl ?_
            refine wh_take (i := 3) (v := .pointer (some ⟨b5, 1, none⟩)) rfl (by kernel_rfl) (by kernel_rfl) (by kernel_rfl) hS7 rfl (fun wq hq => rf_fieldAddr Try.underlying34 rfl ti28 rfl rfl) rfl ?_
            refine wh_take (i := 4) (v := .agg #[.int .i64 o.key.table, .int .i64 o.key.row]) rfl (by kernel_rfl) (by kernel_rfl) (by kernel_rfl) hS7 rfl (fun wq hq => rf_loadBlk Try.underlying28 rfl ti28 rfl rfl (hb5_wcB.kp hq (fun e => by have := hsB0.lt _ e; omega)) (Nat.le_of_ble_eq_true rfl)) rfl ?_
            refine wh_one (i := 5) (by kernel_rfl) rfl ?_
            refine wl_ret rfl (rough_ret o.key w7) (rf_call Try.call6 rfl rfl) ?_
            rintro _ w8 ⟨rfl, hk8⟩
            have hp_w8 := hp_w7.keep hk8
            have hkw_w8 := hkw_w7.comp hk8 (fun _ _ e => e.elim)
            have hkl0_w8 := hkl0_w7.comp hk8 (fun _ _ e => e.elim)
            have hsA_w8 := hsA_w7.keep hk8
            have hsB_w8 := hsB_w7.keep hk8
            have hb5_w8 := hb5_w7.keep hk8
            have hS_w8 := hS7.comp hk8 (fun _ _ e => e.elim)
            have hs8 := hk8.size
            refine wl_nil ?_
            refine wh_back hS_w8 ?_
            refine wh_one (i := 6) (by kernel_rfl) rfl ?_
            refine wl_ret rfl (sideR_played hsB_w8 (by omega) o) (rf_call Try.call8 rfl rfl) ?_
            rintro vq w9 ⟨rfl, TB3, hsB3, htB3, hk9⟩
            have hp_w9 := hp_w8.kp hk9 (fun y hy e => by have := hFp y hy; have := htB y e; omega)
            have hkw_w9 := hkw_w8.comp hk9 (fun y hy e => by have := htB y e; omega)
            have hkl0_w9 := hkl0_w8.comp hk9 (fun y hy e => htB y e)
            have hsA_w9 := hsA_w8.kp hk9 (fun y hy e => hdis y hy e)
            have hb5_w9 := hb5_w8.kp hk9 (fun e => by have := hsB0.lt _ e; omega)
            have hS_w9 := hS_w8.comp hk9 (fun y hy e => e)
            have hs9 := hk9.size
            refine wl_nil ?_
            refine wh_back hS_w9 ?_
            refine wh_take (i := 7) (v := .bool true) rfl (by kernel_rfl) (by kernel_rfl) (by kernel_rfl) hS_w9 rfl (fun wq hq => rf_assign rfl) rfl ?_
            refine wh_done (by kernel_rfl) ?_
            refine cxn ⟨_, TB3, upds_self ⟨rfl, rfl, rfl, rfl, rfl, rfl, rfl, rfl, rfl, rfl, rfl, rfl, rfl, rfl, rfl, rfl, rfl, rfl, trivial⟩, ?_⟩
            exact ⟨hsB3, fun y hy => (htB3 y hy).imp id (fun h => by omega), hS_w9⟩
          · refine skip_ ?_
            refine cxn ⟨_, TB, upds_self ⟨rfl, rfl, rfl, rfl, rfl, rfl, rfl, rfl, rfl, rfl, rfl, rfl, rfl, rfl, rfl, rfl, rfl, rfl, trivial⟩, ?_⟩
            exact ⟨hsB_wcB.step, fun y hy => .inl hy, Kp.refl _⟩
        · intro lfcutc76 wdB hIcutc76
          obtain ⟨glcutc76, TB2, rfl, hsB2, htB2, hkdB⟩ := hIcutc76
          have hp_wdB := hp_wcB.kp hkdB (fun y hy e => by have := hFp y hy; first | omega | (have := htB y e; omega) | (have := htA y e; omega))
          have hkw_wdB := hkw_wcB.comp hkdB (fun y hy e => by first | omega | (have := htB y e; omega) | (have := htA y e; omega))
          have hkl0_wdB := hkl0_wcB.comp hkdB (fun y hy e => by first | exact htB y e | exact htA y e)
          have hsA_wdB := hsA_wcB.kp hkdB (fun y hy e => hdis y hy e)
          have hb5_wdB := hb5_wcB.kp hkdB (fun e => by first | (have := hsB0.lt _ e; omega) | (have := hsA0.lt _ e; omega))
          have hsdB := hkdB.size
          refine thn ?_
          refine seq_ ?_
          refine seq_ ?_
          refine cut_ (fun lf lw => ∃ (g : Nat → Value) (q90 : Bool), lf = upds g [(0, .int .i64 ((m1 : Nat) : Int)), (2, .slice (some ⟨bx9, ox9, none⟩) L.length pcap), (7, .pointer (some ⟨bA, 0, none⟩)), (9, .pointer (some ⟨bB, 0, none⟩)), (11, .pointer (some ⟨rA, 0, none⟩)), (13, .pointer (some ⟨rB, 0, none⟩)), (15, .int .i64 ((i : Nat) : Int)), (16, .pointer (some ⟨b5, 0, none⟩)), (17, .bool true), (61, .int .i64 ((i : Nat) : Int)), (62, .slice (some ⟨bx9, ox9, none⟩) L.length pcap), (63, .int .i64 ((L.length : Nat) : Int)), (64, .bool (decide (((i : Nat) : Int) < ((L.length : Nat) : Int)))), (67, .slice (some ⟨bx9, ox9, none⟩) L.length pcap), (68, .int .i64 ((i : Nat) : Int)), (69, .pointer (some ⟨bx9, ox9 + i * 6, none⟩)), (70, .agg #[.int .i64 o.kind, .int .i64 o.key.table, .int .i64 o.key.row, .int .i64 o.v, .int .i64 o.num, .bool o.two]), (76, .bool q76), (90, .bool q90)] ∧ Kp (none_) wdB lw) ?_ ?_
          · refine region_ ?_
            refine wl_valE (v := .pointer (some ⟨b5, 5, none⟩)) rfl (rf_fieldAddr Try.underlying34 rfl ti4 rfl rfl) rfl ?_
            refine wl_valE (v := .bool o.two) rfl (rf_load Try.underlying4 rfl rfl rfl (hb5_wdB.cell rfl)) rfl ?_
            refine wl_valE (v := .bool (!o.two)) rfl (rf_not rfl rfl) rfl ?_
            refine wl_valE (v := .bool (!o.two)) rfl (rf_move rfl) rfl ?_
            refine wl_split (!o.two) (fun u14_3 => ?_) (fun u14_3 => ?_)
            · refine wl_guardT rfl rfl rfl u14_3 ?_
              refine wl_valE (v := .pointer (some ⟨bA, 0, none⟩)) rfl (rf_move rfl) rfl ?_
              refine wl_guardT rfl rfl rfl u14_3 ?_
              refine wl_valE (v := .bool true) rfl (rf_neqPN Try.underlying23 rfl rfl rfl rfl) rfl ?_
              refine wl_valE (v := .bool true) rfl (rf_pickT rfl rfl rfl u14_3) rfl ?_
              refine wl_nil ?_
              refine cxn ⟨_, _, upds_self ⟨rfl, rfl, rfl, rfl, rfl, rfl, rfl, rfl, rfl, rfl, rfl, rfl, rfl, rfl, rfl, rfl, rfl, rfl, rfl, trivial⟩, ?_⟩
              exact Kp.refl _
            · refine wl_guardF rfl rfl rfl u14_3 ?_
              refine wl_guardF rfl rfl rfl u14_3 ?_
              refine wl_valE (v := .bool false) rfl (rf_pickF rfl rfl rfl u14_3) rfl ?_
              refine wl_nil ?_
              refine cxn ⟨_, _, upds_self ⟨rfl, rfl, rfl, rfl, rfl, rfl, rfl, rfl, rfl, rfl, rfl, rfl, rfl, rfl, rfl, rfl, rfl, rfl, rfl, trivial⟩, ?_⟩
              exact Kp.refl _
          · intro lfcutr14 wcA hIcutr14
            obtain ⟨glcutr14, q90, rfl, hkcA⟩ := hIcutr14
            have hp_wcA := hp_wdB.keep hkcA
            have hkw_wcA := hkw_wdB.comp hkcA (fun _ _ e => e.elim)
            have hkl0_wcA := hkl0_wdB.comp hkcA (fun _ _ e => e.elim)
            have hsA_wcA := hsA_wdB.keep hkcA
            have hb5_wcA := hb5_wdB.keep hkcA
            have hsB2_wcA := hsB2.keep hkcA
            have hscA := hkcA.size
            refine thn ?_
            refine cut_ (fun lf lw => ∃ (g : Nat → Value) (TA2 : Nat → Prop), lf = upds g [(0, .int .i64 ((m1 : Nat) : Int)), (2, .slice (some ⟨bx9, ox9, none⟩) L.length pcap), (7, .pointer (some ⟨bA, 0, none⟩)), (9, .pointer (some ⟨bB, 0, none⟩)), (11, .pointer (some ⟨rA, 0, none⟩)), (13, .pointer (some ⟨rB, 0, none⟩)), (15, .int .i64 ((i : Nat) : Int)), (16, .pointer (some ⟨b5, 0, none⟩)), (17, .bool true), (61, .int .i64 ((i : Nat) : Int)), (62, .slice (some ⟨bx9, ox9, none⟩) L.length pcap), (63, .int .i64 ((L.length : Nat) : Int)), (64, .bool (decide (((i : Nat) : Int) < ((L.length : Nat) : Int)))), (67, .slice (some ⟨bx9, ox9, none⟩) L.length pcap), (68, .int .i64 ((i : Nat) : Int)), (69, .pointer (some ⟨bx9, ox9 + i * 6, none⟩)), (70, .agg #[.int .i64 o.kind, .int .i64 o.key.table, .int .i64 o.key.row, .int .i64 o.v, .int .i64 o.num, .bool o.two]), (76, .bool q76), (90, .bool q90)] ∧ SideM lw bA rA m1 (i + 1) TA2 ∧ (∀ y, TA2 y → TA y ∨ wcA.heap.size ≤ y) ∧ Kp (TA) wcA lw) ?_ ?_
            · refine cond_ (t := q90) rfl rfl (fun c90 => ?_) (fun c90 => ?_)
              · refine region_h (S := fun wq => Kp (TA) wcA wq) mixedP ?_
                intro w10 hk10
                have hp_w10 := hp_wcA.keep hk10
                have hkw_w10 := hkw_wcA.comp hk10 (fun _ _ e => e.elim)
                have hkl0_w10 := hkl0_wcA.comp hk10 (fun _ _ e => e.elim)
                have hsA_w10 := hsA_wcA.keep hk10
                have hb5_w10 := hb5_wcA.keep hk10
                have hsB2_w10 := hsB2_wcA.keep hk10
                have hs10 := hk10.size
                have hS10 : Kp (TA) wcA w10 := hk10.of_none
                refine wh_take (i := 0) (v := .pointer (some ⟨bA, 0, none⟩)) rfl (by kernel_rfl) (by kernel_rfl) (by kernel_rfl) hS10 rfl (fun wq hq => rf_move rfl) rfl ?_
                refine wh_take (i := 1) (v := .pointer (some ⟨rA, 0, none⟩)) rfl (by kernel_rfl) (by kernel_rfl) (by kernel_rfl) hS10 rfl (fun wq hq => rf_move rfl) rfl ?_
                refine wh_take (i := 2) (v := .agg #[.int .i64 o.kind, .int .i64 o.key.table, .int .i64 o.key.row, .int .i64 o.v, .int .i64 o.num, .bool o.two]) rfl (by kernel_rfl) (by kernel_rfl) (by kernel_rfl) hS10 rfl (fun wq hq => rf_loadBlk Try.underlying34 rfl ti34 rfl rfl (hb5_wcA.kp hq (fun e => by have := hsA0.lt _ e; omega)) (Nat.le_of_ble_eq_true rfl)) rfl ?_
                refine wh_take (i := 3) (v := .pointer (some ⟨b5, 1, none⟩)) rfl (by kernel_rfl) (by kernel_rfl) (by kernel_rfl) hS10 rfl (fun wq hq => rf_fieldAddr Try.underlying34 rfl ti28 rfl rfl) rfl ?_
                refine wh_take (i := 4) (v := .agg #[.int .i64 o.key.table, .int .i64 o.key.row]) rfl (by kernel_rfl) (by kernel_rfl) (by kernel_rfl) hS10 rfl (fun wq hq => rf_loadBlk Try.underlying28 rfl ti28 rfl rfl (hb5_wcA.kp hq (fun e => by have := hsA0.lt _ e; omega)) (Nat.le_of_ble_eq_true rfl)) rfl ?_
                refine wh_one (i := 5) (by kernel_rfl) rfl ?_
                refine wl_ret rfl (mixed_ret o.key w10) (rf_call Try.call5 rfl rfl) ?_
                rintro _ w11 ⟨rfl, hk11⟩
                have hp_w11 := hp_w10.keep hk11
                have hkw_w11 := hkw_w10.comp hk11 (fun _ _ e => e.elim)
                have hkl0_w11 := hkl0_w10.comp hk11 (fun _ _ e => e.elim)
                have hsA_w11 := hsA_w10.keep hk11
                have hb5_w11 := hb5_w10.keep hk11
                have hsB2_w11 := hsB2_w10.keep hk11
                have hS_w11 := hS10.comp hk11 (fun _ _ e => e.elim)
                have hs11 := hk11.size
                refine wl_nil ?_
                refine wh_back hS_w11 ?_
                refine wh_one (i := 6) (by kernel_rfl) rfl ?_
                refine wl_ret rfl (sideM_played hsA_w11 (by omega) o) (rf_call Try.call8 rfl rfl) ?_
                rintro vq w12 ⟨rfl, TA3, hsA3, htA3, hk12⟩
                have hp_w12 := hp_w11.kp hk12 (fun y hy e => by have := hFp y hy; have := htA y e; omega)
                have hkw_w12 := hkw_w11.comp hk12 (fun y hy e => by have := htA y e; omega)
                have hkl0_w12 := hkl0_w11.comp hk12 (fun y hy e => htA y e)
                have hb5_w12 := hb5_w11.kp hk12 (fun e => by have := hsA0.lt _ e; omega)
                have hsB2_w12 := hsB2_w11.kp hk12 (fun y hy e => (htB2 y hy).elim (fun h => hdis y e h) (fun h => by have := hsA0.lt y e; omega))
                have hS_w12 := hS_w11.comp hk12 (fun y hy e => e)
                have hs12 := hk12.size
                refine wl_nil ?_
                refine wh_back hS_w12 ?_
                refine wh_take (i := 7) (v := .bool true) rfl (by kernel_rfl) (by kernel_rfl) (by kernel_rfl) hS_w12 rfl (fun wq hq => rf_assign rfl) rfl ?_
                refine wh_done (by kernel_rfl) ?_
                refine cxn ⟨_, TA3, upds_self ⟨rfl, rfl, rfl, rfl, rfl, rfl, rfl, rfl, rfl, rfl, rfl, rfl, rfl, rfl, rfl, rfl, rfl, rfl, rfl, trivial⟩, ?_⟩
                exact ⟨hsA3, fun y hy => (htA3 y hy).imp id (fun h => by omega), hS_w12⟩
              · refine skip_ ?_
                refine cxn ⟨_, TA, upds_self ⟨rfl, rfl, rfl, rfl, rfl, rfl, rfl, rfl, rfl, rfl, rfl, rfl, rfl, rfl, rfl, rfl, rfl, rfl, rfl, trivial⟩, ?_⟩
                exact ⟨hsA_wcA.step, fun y hy => .inl hy, Kp.refl _⟩
            · intro lfcutc90 wdA hIcutc90
              obtain ⟨glcutc90, TA2, rfl, hsA2, htA2, hkdA⟩ := hIcutc90
              have hp_wdA := hp_wcA.kp hkdA (fun y hy e => by have := hFp y hy; first | omega | (have := htB y e; omega) | (have := htA y e; omega))
              have hkw_wdA := hkw_wcA.comp hkdA (fun y hy e => by first | omega | (have := htB y e; omega) | (have := htA y e; omega))
              have hkl0_wdA := hkl0_wcA.comp hkdA (fun y hy e => by first | exact htB y e | exact htA y e)
              have hb5_wdA := hb5_wcA.kp hkdA (fun e => by first | (have := hsB0.lt _ e; omega) | (have := hsA0.lt _ e; omega))
              have hsB2_wdA := hsB2_wcA.kp hkdA (fun y hy e => (htB2 y hy).elim (fun h => hdis y e h) (fun h => by have := hsA0.lt y e; omega))
              have hsdA := hkdA.size
              refine thn ?_
              refine seq_ ?_
              refine region_ ?_
              refine wl_valE (v := .bool true) rfl (rf_move rfl) rfl ?_
              refine wl_valE (v := .bool false) rfl (rf_not rfl rfl) rfl ?_
              refine wl_nil ?_
              refine thn ?_
              refine condF rfl rfl ?_
              refine skip_ ?_
              refine bln ?_
              refine thn ?_
              refine region_ ?_
              refine wl_valE (v := .int .i64 ((i : Nat) : Int)) rfl (rf_move rfl) rfl ?_
              refine wl_valE (v := .int .i64 ((i + 1 : Nat) : Int)) rfl (rf_add rfl rfl rfl rfl (IntWalk.i64_in _ (by omega))) rfl ?_
              refine wl_valE (v := .int .i64 ((i + 1 : Nat) : Int)) rfl (rf_assign rfl) rfl ?_
              refine wl_nil ?_
              refine thn ?_
              refine ⟨lk0 - 1, _, rfl, (by omega), _, i + 1, TA2, TB2, upds_self ⟨rfl, rfl, rfl, rfl, rfl, rfl, rfl, trivial⟩, ?_⟩
              have hsB2l := hsB2.lt
              refine ⟨by omega, hsA2, fun y ht => (htA2 y ht).elim (fun h => htA y h) (fun h => by omega), hsB2_wdA, fun y ht => (htB2 y ht).elim (fun h => htB y h) (fun h => by omega), fun y ha hb => ?_, hkl0_wdA⟩
              have q := hsB2l y hb
              rcases htA2 y ha with h | h
              · rcases htB2 y hb with h' | h'
                · exact hdis y h h'
                · have := hsA0.lt y h; omega
              · omega
    · have c64p := of_decide_eq_false c64
      obtain ⟨bp, rs, ls, S, came, n, av, F, hdM, hIM, hrM, hlm, hSi, hci, _, hTs, _⟩ := hsA
      refine exit_ ?_
      refine thx (thx (blx ?_))
      refine thn ?_
      refine seq_ ?_
      refine seq_ ?_
      refine region_ ?_
      refine wl_valE (v := .pointer (some ⟨bA, 0, none⟩)) rfl (rf_move rfl) rfl ?_
      refine wl_valE (v := .bool true) rfl (rf_neqPN Try.underlying23 rfl rfl rfl rfl) rfl ?_
      refine wl_nil ?_
      refine thn ?_
      refine condT rfl rfl ?_
      refine seq_ ?_
      refine region_ ?_
      refine wl_valE (v := .int .i64 (-1 : Int)) rfl (rf_assign rfl) rfl ?_
      refine wl_nil ?_
      refine thn ?_
      refine block_ ?_
      refine loop_ (fun lk lf lw => ∃ (g : Nat → Value) (q : Nat), lf = upds g [(0, .int .i64 ((m1 : Nat) : Int)), (7, .pointer (some ⟨bA, 0, none⟩)), (11, .pointer (some ⟨rA, 0, none⟩)), (18, .int .i64 (((q : Nat) : Int) - 1))] ∧ q + lk = m1 + 2 ∧ Kp (none_) wl lw) (m1 + 2) ?_ ?_
      · refine ⟨_, 0, upds_self ⟨rfl, rfl, rfl, rfl, trivial⟩, ?_⟩
        exact ⟨by omega, Kp.refl _⟩
      · intro lk1 lf1 wq hI1
        obtain ⟨gl1, q, rfl, hqk, hkl1⟩ := hI1
        have hp_wq := hp_wl.keep hkl1
        have hkw_wq := hkw_wl.comp hkl1 (fun _ _ e => e.elim)
        have hkl0_wq := hkl0.comp hkl1 (fun _ _ e => e.elim)
        have hsB_wq := hsB.keep hkl1
        have hdM_wq := hdM.keep hkl1
        have hrM_wq := hrM.keep hkl1
        have hsq := hkl1.size
        refine seq_ ?_
        refine seq_ ?_
        refine region_ ?_
        refine wl_valE (v := .int .i64 (((q : Nat) : Int) - 1)) rfl (rf_move rfl) rfl ?_
        refine wl_valE (v := .int .i64 ((m1 : Nat) : Int)) rfl (rf_move rfl) rfl ?_
        refine wl_valE (v := .bool (decide (((q : Nat) : Int) - 1 ≤ ((m1 : Nat) : Int)))) rfl (rf_leq rfl rfl rfl rfl) rfl ?_
        refine wl_nil ?_
        refine thn ?_
        refine cond_ (t := decide (((q : Nat) : Int) - 1 ≤ ((m1 : Nat) : Int))) rfl rfl (fun c104 => ?_) (fun c104 => ?_)
        · have c104p := of_decide_eq_true c104
          refine skip_ ?_
          refine thn ?_
          refine seq_ ?_
          refine block_ ?_
          refine seq_ ?_
          refine region_ ?_
          refine wl_valE (v := .pointer (some ⟨bA, 0, none⟩)) rfl (rf_move rfl) rfl ?_
          refine wl_valE (v := .int .i64 (((q : Nat) : Int) - 1)) rfl (rf_move rfl) rfl ?_
          refine wl_ret rfl (toldM_ret bA bp rs ls S came n wq hdM_wq hIM (by omega) (by omega) (((q : Nat) : Int) - 1)) (rf_call Try.call10 rfl rfl) ?_
          rintro vt1 w13 ⟨htl, hk13⟩
          have hp_w13 := hp_wq.keep hk13
          have hkw_w13 := hkw_wq.comp hk13 (fun _ _ e => e.elim)
          have hkl0_w13 := hkl0_wq.comp hk13 (fun _ _ e => e.elim)
          have hsB_w13 := hsB_wq.keep hk13
          have hdM_w13 := hdM_wq.keep hk13
          have hrM_w13 := hrM_wq.keep hk13
          have hkl1_w13 := hkl1.comp hk13 (fun _ _ e => e.elim)
          have hs13 := hk13.size
          refine wl_valE (v := .pointer (some ⟨rA, 0, none⟩)) rfl (rf_move rfl) rfl ?_
          refine wl_valE (v := .int .i64 (((q : Nat) : Int) - 1)) rfl (rf_move rfl) rfl ?_
          refine wl_ret rfl (refEach_ret rA _ _ _ F w13 hrM_w13 (((q : Nat) : Int) - 1) (by simp; omega)) (rf_call Try.call11 rfl rfl) ?_
          rintro ve1 w14 ⟨hel, hk14⟩
          rw [eachM_eq] at hel
          have hp_w14 := hp_w13.keep hk14
          have hkw_w14 := hkw_w13.comp hk14 (fun _ _ e => e.elim)
          have hkl0_w14 := hkl0_w13.comp hk14 (fun _ _ e => e.elim)
          have hsB_w14 := hsB_w13.keep hk14
          have hdM_w14 := hdM_w13.keep hk14
          have hrM_w14 := hrM_w13.keep hk14
          have hkl1_w14 := hkl1_w13.comp hk14 (fun _ _ e => e.elim)
          have htl_w14 := htl.keep hk14
          have hs14 := hk14.size
          refine wl_ret rfl (same_ret vt1 ve1 _ _ _ w14 htl_w14.rd hel.rd (by simp; have := List.length_filter_le (inPM ls.length (((q : Nat) : Int) - 1)) S; omega)) (rf_call Try.call9 rfl rfl) ?_
          rintro _ w15 ⟨rfl, hk15⟩
          have hp_w15 := hp_w14.keep hk15
          have hkw_w15 := hkw_w14.comp hk15 (fun _ _ e => e.elim)
          have hkl0_w15 := hkl0_w14.comp hk15 (fun _ _ e => e.elim)
          have hsB_w15 := hsB_w14.keep hk15
          have hdM_w15 := hdM_w14.keep hk15
          have hrM_w15 := hrM_w14.keep hk15
          have hkl1_w15 := hkl1_w14.comp hk15 (fun _ _ e => e.elim)
          have htl_w15 := htl_w14.keep hk15
          have hel_w15 := hel.keep hk15
          have hs15 := hk15.size
          refine wl_valE (v := .bool false) rfl (rf_not rfl rfl) rfl ?_
          refine wl_nil ?_
          refine thn ?_
          refine condF rfl rfl ?_
          refine skip_ ?_
          refine bln ?_
          refine thn ?_
          refine region_ ?_
          refine wl_valE (v := .int .i64 (((q : Nat) : Int) - 1)) rfl (rf_move rfl) rfl ?_
          refine wl_valE (v := .int .i64 (((q + 1 : Nat) : Int) - 1)) rfl (rf_add rfl rfl rfl rfl (by rw [IntWalk.i64_in _ (by omega)]; omega)) rfl ?_
          refine wl_valE (v := .int .i64 (((q + 1 : Nat) : Int) - 1)) rfl (rf_assign rfl) rfl ?_
          refine wl_nil ?_
          refine thn ?_
          refine ⟨lk1 - 1, _, rfl, (by omega), _, q + 1, upds_self ⟨rfl, rfl, rfl, rfl, trivial⟩, ?_⟩
          exact ⟨by omega, hkl1_w15⟩
        · have c104p := of_decide_eq_false c104
          refine exit_ ?_
          refine thx (thx (blx ?_))
          refine thn ?_
          refine seq_ ?_
          refine region_ ?_
          refine wl_valE (v := .bool true) rfl (rf_assign rfl) rfl ?_
          refine wl_nil ?_
          refine thn ?_
          refine ret_ ?_
          refine fin1 (v := .bool true) Try.results3 rfl rfl ?_
          exact ⟨rfl, hkw_wq⟩
set_option maxRecDepth 100000 in
theorem lawPlays10_ret (m1 : Nat) (h1 : 1 ≤ m1 ∧ m1 ≤ 256) (c2 : Int) (h2 : ¬ (1 ≤ c2 ∧ c2 ≤ 256)) (vp : Value) (Fp : Nat → Prop) (L : List OpR) (w : World) (hL : L.length ≤ 2932031007390) (hp : Rd encOp 6 w Fp vp L) (hFp : ∀ b, Fp b → b < w.heap.size) : Ret Try.prog 3 [.int .i64 ((m1 : Nat) : Int), .int .i64 c2, vp] w fun v w' => v = .bool true ∧ Kp none_ w w' := by
  obtain ⟨pa, pcap, rfl, hpcap⟩ := hp.form
  have hkw : Kp none_ w w := Kp.refl w
  refine enterR Try.func3 rfl Try.ntmps3 rfl ?_
  intro g0
  refine seq_ ?_
  refine region_ ?_
  refine wl_valE (v := .bool false) rfl (rf_assign rfl) rfl ?_
  refine wl_nil ?_
  refine thn ?_
  refine seq_ ?_
  refine region_ ?_
  refine wl_valE (v := .int .i64 ((m1 : Nat) : Int)) rfl (rf_move rfl) rfl ?_
  refine wl_ret rfl (newDM_ret ((m1 : Nat) : Int) w) (rf_call Try.call4 rfl rfl) ?_
  rintro vq w1 ⟨hv1, hv2⟩
  obtain ⟨bA, bpA, rsA, rfl, hdA, hknA, hfA⟩ := hv2 ⟨by omega, by omega⟩
  obtain ⟨WA, hWA⟩ : ∃ n, n = w1.heap.size := ⟨_, rfl⟩
  obtain ⟨VA, hVA⟩ : ∃ n, n = w.heap.size := ⟨_, rfl⟩
  rw [← hVA] at hfA
  have hltA : ∀ x, fpD bA bpA rsA x → x < WA := fun x hx => by rw [hWA]; exact hdA.lt x hx
  have hp_w1 := hp.keep hknA
  have hkw_w1 := hkw.comp hknA (fun _ _ e => e.elim)
  have hs1 := hknA.size
  refine wl_valE (v := .tuple #[.pointer (some ⟨bA, 0, none⟩), .int .i64 0]) rfl (rf_move rfl) rfl ?_
  refine wl_valE (v := .pointer (some ⟨bA, 0, none⟩)) rfl (rf_extract rfl rfl rfl) rfl ?_
  refine wl_valE (v := .int .i64 0) rfl (rf_extract rfl rfl rfl) rfl ?_
  refine wl_valE (v := .pointer (some ⟨bA, 0, none⟩)) rfl (rf_assign rfl) rfl ?_
  refine wl_valE (v := .int .i64 0) rfl (rf_assign rfl) rfl ?_
  refine wl_nil ?_
  refine thn ?_
  refine seq_ ?_
  refine region_ ?_
  refine wl_valE (v := .int .i64 c2) rfl (rf_move rfl) rfl ?_
  refine wl_ret rfl (newDR_ret c2 w1) (rf_call Try.call4 rfl rfl) ?_
  rintro vq w2 ⟨hv1, hv2⟩
  obtain ⟨rfl, hknB⟩ := hv1 h2
  have hp_w2 := hp_w1.keep hknB
  have hkw_w2 := hkw_w1.comp hknB (fun _ _ e => e.elim)
  have hdA_w2 := hdA.keep hknB
  have hs2 := hknB.size
  refine wl_valE (v := .tuple #[.pointer none, .int .i64 21]) rfl (rf_move rfl) rfl ?_
  refine wl_valE (v := .pointer none) rfl (rf_extract rfl rfl rfl) rfl ?_
  refine wl_valE (v := .int .i64 21) rfl (rf_extract rfl rfl rfl) rfl ?_
  refine wl_valE (v := .pointer none) rfl (rf_assign rfl) rfl ?_
  refine wl_valE (v := .int .i64 21) rfl (rf_assign rfl) rfl ?_
  refine wl_nil ?_
  refine thn ?_
  refine seq_ ?_
  refine region_ ?_
  refine wl_valE (v := .int .i64 ((m1 : Nat) : Int)) rfl (rf_move rfl) rfl ?_
  refine wl_ret rfl (refNew_ret ((m1 : Nat) : Int) w2) (rf_call Try.call7 rfl rfl) ?_
  rintro vq w3 ⟨hv1, hv2⟩
  obtain ⟨rA, rfl, hrA, hkrA, hgA⟩ := hv2 ⟨by omega, by omega⟩
  have hltrA := hrA.blk.lt
  have hp_w3 := hp_w2.keep hkrA
  have hkw_w3 := hkw_w2.comp hkrA (fun _ _ e => e.elim)
  have hdA_w3 := hdA_w2.keep hkrA
  have hs3 := hkrA.size
  refine wl_valE (v := .tuple #[.pointer (some ⟨rA, 0, none⟩), .int .i64 0]) rfl (rf_move rfl) rfl ?_
  refine wl_valE (v := .pointer (some ⟨rA, 0, none⟩)) rfl (rf_extract rfl rfl rfl) rfl ?_
  refine wl_valE (v := .int .i64 0) rfl (rf_extract rfl rfl rfl) rfl ?_
  refine wl_valE (v := .pointer (some ⟨rA, 0, none⟩)) rfl (rf_assign rfl) rfl ?_
  refine wl_valE (v := .int .i64 0) rfl (rf_assign rfl) rfl ?_
  refine wl_nil ?_
  refine thn ?_
  refine seq_ ?_
  refine region_ ?_
  refine wl_valE (v := .int .i64 c2) rfl (rf_move rfl) rfl ?_
  refine wl_ret rfl (refNew_ret c2 w3) (rf_call Try.call7 rfl rfl) ?_
  rintro vq w4 ⟨hv1, hv2⟩
  obtain ⟨rfl, hkrB⟩ := hv1 h2
  have hp_w4 := hp_w3.keep hkrB
  have hkw_w4 := hkw_w3.comp hkrB (fun _ _ e => e.elim)
  have hdA_w4 := hdA_w3.keep hkrB
  have hrA_w4 := hrA.keep hkrB
  have hs4 := hkrB.size
  refine wl_valE (v := .tuple #[.pointer none, .int .i64 21]) rfl (rf_move rfl) rfl ?_
  refine wl_valE (v := .pointer none) rfl (rf_extract rfl rfl rfl) rfl ?_
  refine wl_valE (v := .int .i64 21) rfl (rf_extract rfl rfl rfl) rfl ?_
  refine wl_valE (v := .pointer none) rfl (rf_assign rfl) rfl ?_
  refine wl_valE (v := .int .i64 21) rfl (rf_assign rfl) rfl ?_
  refine wl_nil ?_
  refine thn ?_
  refine seq_ ?_
  refine seq_ ?_
  refine region_ ?_
  refine wl_valE (v := .int .i64 0) rfl (rf_move rfl) rfl ?_
  refine wl_valE (v := .int .i64 0) rfl (rf_move rfl) rfl ?_
  refine wl_valE (v := .bool false) rfl (rf_neq rfl rfl rfl rfl) (congrArg Value.bool (by decide)) ?_
  refine wl_valE (v := .bool false) rfl (rf_move rfl) rfl ?_
  refine wl_guardT rfl rfl rfl rfl ?_
  refine wl_valE (v := .int .i64 21) rfl (rf_move rfl) rfl ?_
  refine wl_guardT rfl rfl rfl rfl ?_
  refine wl_valE (v := .int .i64 21) rfl (rf_move rfl) rfl ?_
  refine wl_guardT rfl rfl rfl rfl ?_
  refine wl_valE (v := .bool false) rfl (rf_neq rfl rfl rfl rfl) (congrArg Value.bool (by decide)) ?_
  refine wl_valE (v := .bool false) rfl (rf_pickF rfl rfl rfl rfl) rfl ?_
  refine wl_valE (v := .bool false) rfl (rf_move rfl) rfl ?_
  refine wl_guardT rfl rfl rfl rfl ?_
  refine wl_valE (v := .pointer (some ⟨bA, 0, none⟩)) rfl (rf_move rfl) rfl ?_
  refine wl_guardT rfl rfl rfl rfl ?_
  refine wl_valE (v := .bool false) rfl (rf_eqlPN Try.underlying23 rfl rfl rfl rfl) rfl ?_
  refine wl_guardT rfl rfl rfl rfl ?_
  refine wl_valE (v := .pointer (some ⟨rA, 0, none⟩)) rfl (rf_move rfl) rfl ?_
  refine wl_guardT rfl rfl rfl rfl ?_
  refine wl_valE (v := .bool false) rfl (rf_eqlPN Try.underlying30 rfl rfl rfl rfl) rfl ?_
  refine wl_guardT rfl rfl rfl rfl ?_
  refine wl_valE (v := .bool false) rfl (rf_neqB Try.underlying4 rfl rfl rfl rfl) rfl ?_
  refine wl_valE (v := .bool false) rfl (rf_pickF rfl rfl rfl rfl) rfl ?_
  refine wl_valE (v := .bool false) rfl (rf_move rfl) rfl ?_
  refine wl_guardT rfl rfl rfl rfl ?_
  refine wl_valE (v := .pointer none) rfl (rf_move rfl) rfl ?_
  refine wl_guardT rfl rfl rfl rfl ?_
  refine wl_valE (v := .bool true) rfl (rf_eqlPN Try.underlying23 rfl rfl rfl rfl) rfl ?_
  refine wl_guardT rfl rfl rfl rfl ?_
  refine wl_valE (v := .pointer none) rfl (rf_move rfl) rfl ?_
  refine wl_guardT rfl rfl rfl rfl ?_
  refine wl_valE (v := .bool true) rfl (rf_eqlPN Try.underlying30 rfl rfl rfl rfl) rfl ?_
  refine wl_guardT rfl rfl rfl rfl ?_
  refine wl_valE (v := .bool false) rfl (rf_neqB Try.underlying4 rfl rfl rfl rfl) rfl ?_
  refine wl_valE (v := .bool false) rfl (rf_pickF rfl rfl rfl rfl) rfl ?_
  refine wl_nil ?_
  refine thn ?_
  refine condF rfl rfl ?_
  refine skip_ ?_
  refine thn ?_
  refine seq_ ?_
  refine seq_ ?_
  refine region_ ?_
  refine wl_valE (v := .int .i64 ((0 : Nat) : Int)) rfl (rf_assign rfl) rfl ?_
  refine wl_nil ?_
  refine thn ?_
  refine block_ ?_
  refine loop_ (fun lk lf lw => ∃ (g : Nat → Value) (i : Nat) (TA : Nat → Prop), lf = upds g [(0, .int .i64 ((m1 : Nat) : Int)), (2, .slice pa L.length pcap), (7, .pointer (some ⟨bA, 0, none⟩)), (9, .pointer none), (11, .pointer (some ⟨rA, 0, none⟩)), (13, .pointer none), (15, .int .i64 ((i : Nat) : Int))] ∧ i + lk = L.length ∧ SideM lw bA rA m1 i TA ∧ (∀ y, TA y → w.heap.size ≤ y) ∧ Kp (fun y => w.heap.size ≤ y) w4 lw) (L.length) ?_ ?_
  · refine ⟨_, 0, (fun y => (VA ≤ y ∧ y < WA) ∨ y = rA), upds_self ⟨rfl, rfl, rfl, rfl, rfl, rfl, rfl, trivial⟩, ?_⟩
    refine ⟨by omega, SideM.new h1.1 hdA_w4 hrA_w4 (fun e => by have := hltA _ e; omega) (fun y hy => ?_) (fun y hy => by omega), fun y hy => by omega, Kp.refl _⟩
    · rcases hy with e | e
      · exact .inl ⟨hfA y e, by have := hltA y e; omega⟩
      · exact .inr e
  · intro lk0 lf0 wl hI0
    obtain ⟨gl0, i, TA, rfl, hik, hsA, htA, hkl0⟩ := hI0
    have hp_wl := hp_w4.kp hkl0 (fun y hy e => by have := hFp y hy; first | omega | (have := htB y e; omega) | (have := htA y e; omega))
    have hkw_wl := hkw_w4.comp hkl0 (fun y hy e => by first | omega | (have := htB y e; omega) | (have := htA y e; omega))
    have hsl := hkl0.size
    have hsA0 := hsA
    refine seq_ ?_
    refine seq_ ?_
    refine region_ ?_
    refine wl_valE (v := .int .i64 ((i : Nat) : Int)) rfl (rf_move rfl) rfl ?_
    refine wl_valE (v := .slice pa L.length pcap) rfl (rf_move rfl) rfl ?_
    refine wl_valE (v := .int .i64 ((L.length : Nat) : Int)) rfl (rf_len_slice Try.underlying22 rfl rfl) rfl ?_
    refine wl_valE (v := .bool (decide (((i : Nat) : Int) < ((L.length : Nat) : Int)))) rfl (rf_lss rfl rfl rfl rfl) rfl ?_
    refine wl_nil ?_
    refine thn ?_
    refine cond_ (t := decide (((i : Nat) : Int) < ((L.length : Nat) : Int))) rfl rfl (fun c64 => ?_) (fun c64 => ?_)
    · have c64p := of_decide_eq_true c64
      obtain ⟨o, ho⟩ : ∃ o, L[i]? = some o := ⟨_, List.getElem?_eq_getElem (by omega)⟩
      obtain ⟨bx9, ox9, capx9, ex9, hcapx9, hFx9, hltx9, hcellx9⟩ := hp_wl.get (by omega)
      cases ex9
      refine skip_ ?_
      refine thn ?_
      refine seq_ ?_
      refine block_ ?_
      refine seq_ ?_
      refine region_ ?_
      refine wl_valE (v := .slice (some ⟨bx9, ox9, none⟩) L.length pcap) rfl (rf_move rfl) rfl ?_
      refine wl_valE (v := .int .i64 ((i : Nat) : Int)) rfl (rf_move rfl) rfl ?_
      refine wl_valE (v := .pointer (some ⟨bx9, ox9 + i * 6, none⟩)) rfl (rf_indexAddr Try.underlying22 ti34 rfl rfl rfl rfl (by omega) (by omega)) rfl ?_
      refine wl_valE (v := .agg #[.int .i64 o.kind, .int .i64 o.key.table, .int .i64 o.key.row, .int .i64 o.v, .int .i64 o.num, .bool o.two]) rfl (rf_loadAgg Try.underlying34 rfl ti34 rfl rfl (el_cells (hcellx9 i o ho)) rfl) rfl ?_
      refine wl_alloc ti34 ?_
      intro b5 w5 hg5 hk5 hb5
      have hp_w5 := hp_wl.keep hk5
      have hkw_w5 := hkw_wl.comp hk5 (fun _ _ e => e.elim)
      have hkl0_w5 := hkl0.comp hk5 (fun _ _ e => e.elim)
      have hsA_w5 := hsA.keep hk5
      have hs5 := hk5.size
      refine wl_storeAgg (b := b5) (o := 0) (cs := [.int .i64 o.kind, .int .i64 o.key.table, .int .i64 o.key.row, .int .i64 o.v, .int .i64 o.num, .bool o.two]) ti34 rfl rfl rfl rfl rfl (by simp [Value.oneCell']) hb5 (Nat.le_of_ble_eq_true rfl) ?_
      intro w6 hk6 hb6
      have hp_w6 := hp_w5.kp hk6 (fun y hy e => by have := hFp y hy; omega)
      have hkw_w6 := hkw_w5.comp hk6 (fun y hy e => by omega)
      have hkl0_w6 := hkl0_w5.comp hk6 (fun y hy e => by omega)
      have hsA_w6 := hsA_w5.kp hk6 (fun y hy e => by have := hsA0.lt y hy; omega)
      have hs6 := hk6.size
      replace hb6 : Blk w6 b5 (.cells #[.int .i64 o.kind, .int .i64 o.key.table, .int .i64 o.key.row, .int .i64 o.v, .int .i64 o.num, .bool o.two] _ (0, 0)) := hb6
      refine wl_nil ?_
      refine thn ?_
      refine seq_ ?_
      refine region_ ?_
      refine wl_valE (v := .bool true) rfl (rf_assign rfl) rfl ?_
      refine wl_nil ?_
      refine thn ?_
      refine seq_ ?_
      refine seq_ ?_
      refine cut_ (fun lf lw => ∃ (g : Nat → Value) (q76 : Bool), lf = upds g [(0, .int .i64 ((m1 : Nat) : Int)), (2, .slice (some ⟨bx9, ox9, none⟩) L.length pcap), (7, .pointer (some ⟨bA, 0, none⟩)), (9, .pointer none), (11, .pointer (some ⟨rA, 0, none⟩)), (13, .pointer none), (15, .int .i64 ((i : Nat) : Int)), (16, .pointer (some ⟨b5, 0, none⟩)), (17, .bool true), (61, .int .i64 ((i : Nat) : Int)), (62, .slice (some ⟨bx9, ox9, none⟩) L.length pcap), (63, .int .i64 ((L.length : Nat) : Int)), (64, .bool (decide (((i : Nat) : Int) < ((L.length : Nat) : Int)))), (67, .slice (some ⟨bx9, ox9, none⟩) L.length pcap), (68, .int .i64 ((i : Nat) : Int)), (69, .pointer (some ⟨bx9, ox9 + i * 6, none⟩)), (70, .agg #[.int .i64 o.kind, .int .i64 o.key.table, .int .i64 o.key.row, .int .i64 o.v, .int .i64 o.num, .bool o.two]), (76, .bool q76)] ∧ q76 = false ∧ Kp (none_) w6 lw) ?_ ?_
      · refine region_ ?_
        refine wl_valE (v := .pointer (some ⟨b5, 5, none⟩)) rfl (rf_fieldAddr Try.underlying34 rfl ti4 rfl rfl) rfl ?_
        refine wl_valE (v := .bool o.two) rfl (rf_load Try.underlying4 rfl rfl rfl (hb6.cell rfl)) rfl ?_
        refine wl_valE (v := .bool o.two) rfl (rf_move rfl) rfl ?_
        refine wl_split (o.two) (fun u12_2 => ?_) (fun u12_2 => ?_)
        · refine wl_guardT rfl rfl rfl u12_2 ?_
          refine wl_valE (v := .pointer none) rfl (rf_move rfl) rfl ?_
          refine wl_guardT rfl rfl rfl u12_2 ?_
          refine wl_valE (v := .bool false) rfl (rf_neqPN Try.underlying23 rfl rfl rfl rfl) rfl ?_
          refine wl_valE (v := .bool false) rfl (rf_pickT rfl rfl rfl u12_2) rfl ?_
          refine wl_nil ?_
          refine cxn ⟨_, _, upds_self ⟨rfl, rfl, rfl, rfl, rfl, rfl, rfl, rfl, rfl, rfl, rfl, rfl, rfl, rfl, rfl, rfl, rfl, rfl, trivial⟩, ?_⟩
          exact ⟨rfl, Kp.refl _⟩
        · refine wl_guardF rfl rfl rfl u12_2 ?_
          refine wl_guardF rfl rfl rfl u12_2 ?_
          refine wl_valE (v := .bool false) rfl (rf_pickF rfl rfl rfl u12_2) rfl ?_
          refine wl_nil ?_
          refine cxn ⟨_, _, upds_self ⟨rfl, rfl, rfl, rfl, rfl, rfl, rfl, rfl, rfl, rfl, rfl, rfl, rfl, rfl, rfl, rfl, rfl, rfl, trivial⟩, ?_⟩
          exact ⟨rfl, Kp.refl _⟩
      · intro lfcutr12 wcB hIcutr12
        obtain ⟨glcutr12, q76, rfl, hfB, hkcB⟩ := hIcutr12
        have hp_wcB := hp_w6.keep hkcB
        have hkw_wcB := hkw_w6.comp hkcB (fun _ _ e => e.elim)
        have hkl0_wcB := hkl0_w6.comp hkcB (fun _ _ e => e.elim)
        have hsA_wcB := hsA_w6.keep hkcB
        have hb5_wcB := hb6.keep hkcB
        have hscB := hkcB.size
        refine thn ?_
        refine cond_ (t := q76) rfl rfl (fun c76 => ?_) (fun c76 => ?_)
        · simp [hfB] at c76
        · refine skip_ ?_
          refine thn ?_
          refine seq_ ?_
          refine seq_ ?_
          refine cut_ (fun lf lw => ∃ (g : Nat → Value) (q90 : Bool), lf = upds g [(0, .int .i64 ((m1 : Nat) : Int)), (2, .slice (some ⟨bx9, ox9, none⟩) L.length pcap), (7, .pointer (some ⟨bA, 0, none⟩)), (9, .pointer none), (11, .pointer (some ⟨rA, 0, none⟩)), (13, .pointer none), (15, .int .i64 ((i : Nat) : Int)), (16, .pointer (some ⟨b5, 0, none⟩)), (17, .bool true), (61, .int .i64 ((i : Nat) : Int)), (62, .slice (some ⟨bx9, ox9, none⟩) L.length pcap), (63, .int .i64 ((L.length : Nat) : Int)), (64, .bool (decide (((i : Nat) : Int) < ((L.length : Nat) : Int)))), (67, .slice (some ⟨bx9, ox9, none⟩) L.length pcap), (68, .int .i64 ((i : Nat) : Int)), (69, .pointer (some ⟨bx9, ox9 + i * 6, none⟩)), (70, .agg #[.int .i64 o.kind, .int .i64 o.key.table, .int .i64 o.key.row, .int .i64 o.v, .int .i64 o.num, .bool o.two]), (76, .bool q76), (90, .bool q90)] ∧ Kp (none_) wcB lw) ?_ ?_
          · refine region_ ?_
            refine wl_valE (v := .pointer (some ⟨b5, 5, none⟩)) rfl (rf_fieldAddr Try.underlying34 rfl ti4 rfl rfl) rfl ?_
            refine wl_valE (v := .bool o.two) rfl (rf_load Try.underlying4 rfl rfl rfl (hb5_wcB.cell rfl)) rfl ?_
            refine wl_valE (v := .bool (!o.two)) rfl (rf_not rfl rfl) rfl ?_
            refine wl_valE (v := .bool (!o.two)) rfl (rf_move rfl) rfl ?_
            refine wl_split (!o.two) (fun u14_3 => ?_) (fun u14_3 => ?_)
            · refine wl_guardT rfl rfl rfl u14_3 ?_
              refine wl_valE (v := .pointer (some ⟨bA, 0, none⟩)) rfl (rf_move rfl) rfl ?_
              refine wl_guardT rfl rfl rfl u14_3 ?_
              refine wl_valE (v := .bool true) rfl (rf_neqPN Try.underlying23 rfl rfl rfl rfl) rfl ?_
              refine wl_valE (v := .bool true) rfl (rf_pickT rfl rfl rfl u14_3) rfl ?_
              refine wl_nil ?_
              refine cxn ⟨_, _, upds_self ⟨rfl, rfl, rfl, rfl, rfl, rfl, rfl, rfl, rfl, rfl, rfl, rfl, rfl, rfl, rfl, rfl, rfl, rfl, rfl, trivial⟩, ?_⟩
              exact Kp.refl _
            · refine wl_guardF rfl rfl rfl u14_3 ?_
              refine wl_guardF rfl rfl rfl u14_3 ?_
              refine wl_valE (v := .bool false) rfl (rf_pickF rfl rfl rfl u14_3) rfl ?_
              refine wl_nil ?_
              refine cxn ⟨_, _, upds_self ⟨rfl, rfl, rfl, rfl, rfl, rfl, rfl, rfl, rfl, rfl, rfl, rfl, rfl, rfl, rfl, rfl, rfl, rfl, rfl, trivial⟩, ?_⟩
              exact Kp.refl _
          · intro lfcutr14 wcA hIcutr14
            obtain ⟨glcutr14, q90, rfl, hkcA⟩ := hIcutr14
            have hp_wcA := hp_wcB.keep hkcA
            have hkw_wcA := hkw_wcB.comp hkcA (fun _ _ e => e.elim)
            have hkl0_wcA := hkl0_wcB.comp hkcA (fun _ _ e => e.elim)
            have hsA_wcA := hsA_wcB.keep hkcA
            have hb5_wcA := hb5_wcB.keep hkcA
            have hscA := hkcA.size
            refine thn ?_
            refine cut_ (fun lf lw => ∃ (g : Nat → Value) (TA2 : Nat → Prop), lf = upds g [(0, .int .i64 ((m1 : Nat) : Int)), (2, .slice (some ⟨bx9, ox9, none⟩) L.length pcap), (7, .pointer (some ⟨bA, 0, none⟩)), (9, .pointer none), (11, .pointer (some ⟨rA, 0, none⟩)), (13, .pointer none), (15, .int .i64 ((i : Nat) : Int)), (16, .pointer (some ⟨b5, 0, none⟩)), (17, .bool true), (61, .int .i64 ((i : Nat) : Int)), (62, .slice (some ⟨bx9, ox9, none⟩) L.length pcap), (63, .int .i64 ((L.length : Nat) : Int)), (64, .bool (decide (((i : Nat) : Int) < ((L.length : Nat) : Int)))), (67, .slice (some ⟨bx9, ox9, none⟩) L.length pcap), (68, .int .i64 ((i : Nat) : Int)), (69, .pointer (some ⟨bx9, ox9 + i * 6, none⟩)), (70, .agg #[.int .i64 o.kind, .int .i64 o.key.table, .int .i64 o.key.row, .int .i64 o.v, .int .i64 o.num, .bool o.two]), (76, .bool q76), (90, .bool q90)] ∧ SideM lw bA rA m1 (i + 1) TA2 ∧ (∀ y, TA2 y → TA y ∨ wcA.heap.size ≤ y) ∧ Kp (TA) wcA lw) ?_ ?_
            · refine cond_ (t := q90) rfl rfl (fun c90 => ?_) (fun c90 => ?_)
              · refine region_h (S := fun wq => Kp (TA) wcA wq) mixedP ?_
                intro w7 hk7
                have hp_w7 := hp_wcA.keep hk7
                have hkw_w7 := hkw_wcA.comp hk7 (fun _ _ e => e.elim)
                have hkl0_w7 := hkl0_wcA.comp hk7 (fun _ _ e => e.elim)
                have hsA_w7 := hsA_wcA.keep hk7
                have hb5_w7 := hb5_wcA.keep hk7
                have hs7 := hk7.size
                have hS7 : Kp (TA) wcA w7 := hk7.of_none
                refine wh_take (i := 0) (v := .pointer (some ⟨bA, 0, none⟩)) rfl (by kernel_rfl) (by kernel_rfl) (by kernel_rfl) hS7 rfl (fun wq hq => rf_move rfl) rfl ?_
                refine wh_take (i := 1) (v := .pointer (some ⟨rA, 0, none⟩)) rfl (by kernel_rfl) (by kernel_rfl) (by kernel_rfl) hS7 rfl (fun wq hq => rf_move rfl) rfl ?_
                refine wh_take (i := 2) (v := .agg #[.int .i64 o.kind, .int .i64 o.key.table, .int .i64 o.key.row, .int .i64 o.v, .int .i64 o.num, .bool o.two]) rfl (by kernel_rfl) (by kernel_rfl) (by kernel_rfl) hS7 rfl (fun wq hq => rf_loadBlk Try.underlying34 rfl ti34 rfl rfl (hb5_wcA.kp hq (fun e => by have := hsA0.lt _ e; omega)) (Nat.le_of_ble_eq_true rfl)) rfl ?_
                refine wh_take (i := 3) (v := .pointer (some ⟨b5, 1, none⟩)) rfl (by kernel_rfl) (by kernel_rfl) (by kernel_rfl) hS7 rfl (fun wq hq => rf_fieldAddr Try.underlying34 rfl ti28 rfl rfl) rfl ?_
                refine wh_take (i := 4) (v := .agg #[.int .i64 o.key.table, .int .i64 o.key.row]) rfl (by kernel_rfl) (by kernel_rfl) (by kernel_rfl) hS7 rfl (fun wq hq => rf_loadBlk Try.underlying28 rfl ti28 rfl rfl (hb5_wcA.kp hq (fun e => by have := hsA0.lt _ e; omega)) (Nat.le_of_ble_eq_true rfl)) rfl ?_
                refine wh_one (i := 5) (by kernel_rfl) rfl ?_
                refine wl_ret rfl (mixed_ret o.key w7) (rf_call Try.call5 rfl rfl) ?_
                rintro _ w8 ⟨rfl, hk8⟩
                have hp_w8 := hp_w7.keep hk8
                have hkw_w8 := hkw_w7.comp hk8 (fun _ _ e => e.elim)
                have hkl0_w8 := hkl0_w7.comp hk8 (fun _ _ e => e.elim)
                have hsA_w8 := hsA_w7.keep hk8
                have hb5_w8 := hb5_w7.keep hk8
                have hS_w8 := hS7.comp hk8 (fun _ _ e => e.elim)
                have hs8 := hk8.size
                refine wl_nil ?_
                refine wh_back hS_w8 ?_
                refine wh_one (i := 6) (by kernel_rfl) rfl ?_
                refine wl_ret rfl (sideM_played hsA_w8 (by omega) o) (rf_call Try.call8 rfl rfl) ?_
                rintro vq w9 ⟨rfl, TA3, hsA3, htA3, hk9⟩
                have hp_w9 := hp_w8.kp hk9 (fun y hy e => by have := hFp y hy; have := htA y e; omega)
                have hkw_w9 := hkw_w8.comp hk9 (fun y hy e => by have := htA y e; omega)
                have hkl0_w9 := hkl0_w8.comp hk9 (fun y hy e => htA y e)
                have hb5_w9 := hb5_w8.kp hk9 (fun e => by have := hsA0.lt _ e; omega)
                have hS_w9 := hS_w8.comp hk9 (fun y hy e => e)
                have hs9 := hk9.size
                refine wl_nil ?_
                refine wh_back hS_w9 ?_
                refine wh_take (i := 7) (v := .bool true) rfl (by kernel_rfl) (by kernel_rfl) (by kernel_rfl) hS_w9 rfl (fun wq hq => rf_assign rfl) rfl ?_
                refine wh_done (by kernel_rfl) ?_
                refine cxn ⟨_, TA3, upds_self ⟨rfl, rfl, rfl, rfl, rfl, rfl, rfl, rfl, rfl, rfl, rfl, rfl, rfl, rfl, rfl, rfl, rfl, rfl, rfl, trivial⟩, ?_⟩
                exact ⟨hsA3, fun y hy => (htA3 y hy).imp id (fun h => by omega), hS_w9⟩
              · refine skip_ ?_
                refine cxn ⟨_, TA, upds_self ⟨rfl, rfl, rfl, rfl, rfl, rfl, rfl, rfl, rfl, rfl, rfl, rfl, rfl, rfl, rfl, rfl, rfl, rfl, rfl, trivial⟩, ?_⟩
                exact ⟨hsA_wcA.step, fun y hy => .inl hy, Kp.refl _⟩
            · intro lfcutc90 wdA hIcutc90
              obtain ⟨glcutc90, TA2, rfl, hsA2, htA2, hkdA⟩ := hIcutc90
              have hp_wdA := hp_wcA.kp hkdA (fun y hy e => by have := hFp y hy; first | omega | (have := htB y e; omega) | (have := htA y e; omega))
              have hkw_wdA := hkw_wcA.comp hkdA (fun y hy e => by first | omega | (have := htB y e; omega) | (have := htA y e; omega))
              have hkl0_wdA := hkl0_wcA.comp hkdA (fun y hy e => by first | exact htB y e | exact htA y e)
              have hb5_wdA := hb5_wcA.kp hkdA (fun e => by first | (have := hsB0.lt _ e; omega) | (have := hsA0.lt _ e; omega))
              have hsdA := hkdA.size
              refine thn ?_
              refine seq_ ?_
              refine region_ ?_
              refine wl_valE (v := .bool true) rfl (rf_move rfl) rfl ?_
              refine wl_valE (v := .bool false) rfl (rf_not rfl rfl) rfl ?_
              refine wl_nil ?_
              refine thn ?_
              refine condF rfl rfl ?_
              refine skip_ ?_
              refine bln ?_
              refine thn ?_
              refine region_ ?_
              refine wl_valE (v := .int .i64 ((i : Nat) : Int)) rfl (rf_move rfl) rfl ?_
              refine wl_valE (v := .int .i64 ((i + 1 : Nat) : Int)) rfl (rf_add rfl rfl rfl rfl (IntWalk.i64_in _ (by omega))) rfl ?_
              refine wl_valE (v := .int .i64 ((i + 1 : Nat) : Int)) rfl (rf_assign rfl) rfl ?_
              refine wl_nil ?_
              refine thn ?_
              refine ⟨lk0 - 1, _, rfl, (by omega), _, i + 1, TA2, upds_self ⟨rfl, rfl, rfl, rfl, rfl, rfl, rfl, trivial⟩, ?_⟩
              refine ⟨by omega, hsA2, fun y ht => (htA2 y ht).elim (fun h => htA y h) (fun h => by omega), hkl0_wdA⟩
    · have c64p := of_decide_eq_false c64
      obtain ⟨bp, rs, ls, S, came, n, av, F, hdM, hIM, hrM, hlm, hSi, hci, _, hTs, _⟩ := hsA
      refine exit_ ?_
      refine thx (thx (blx ?_))
      refine thn ?_
      refine seq_ ?_
      refine seq_ ?_
      refine region_ ?_
      refine wl_valE (v := .pointer (some ⟨bA, 0, none⟩)) rfl (rf_move rfl) rfl ?_
      refine wl_valE (v := .bool true) rfl (rf_neqPN Try.underlying23 rfl rfl rfl rfl) rfl ?_
      refine wl_nil ?_
      refine thn ?_
      refine condT rfl rfl ?_
      refine seq_ ?_
      refine region_ ?_
      refine wl_valE (v := .int .i64 (-1 : Int)) rfl (rf_assign rfl) rfl ?_
      refine wl_nil ?_
      refine thn ?_
      refine block_ ?_
      refine loop_ (fun lk lf lw => ∃ (g : Nat → Value) (q : Nat), lf = upds g [(0, .int .i64 ((m1 : Nat) : Int)), (7, .pointer (some ⟨bA, 0, none⟩)), (11, .pointer (some ⟨rA, 0, none⟩)), (18, .int .i64 (((q : Nat) : Int) - 1))] ∧ q + lk = m1 + 2 ∧ Kp (none_) wl lw) (m1 + 2) ?_ ?_
      · refine ⟨_, 0, upds_self ⟨rfl, rfl, rfl, rfl, trivial⟩, ?_⟩
        exact ⟨by omega, Kp.refl _⟩
      · intro lk1 lf1 wq hI1
        obtain ⟨gl1, q, rfl, hqk, hkl1⟩ := hI1
        have hp_wq := hp_wl.keep hkl1
        have hkw_wq := hkw_wl.comp hkl1 (fun _ _ e => e.elim)
        have hkl0_wq := hkl0.comp hkl1 (fun _ _ e => e.elim)
        have hdM_wq := hdM.keep hkl1
        have hrM_wq := hrM.keep hkl1
        have hsq := hkl1.size
        refine seq_ ?_
        refine seq_ ?_
        refine region_ ?_
        refine wl_valE (v := .int .i64 (((q : Nat) : Int) - 1)) rfl (rf_move rfl) rfl ?_
        refine wl_valE (v := .int .i64 ((m1 : Nat) : Int)) rfl (rf_move rfl) rfl ?_
        refine wl_valE (v := .bool (decide (((q : Nat) : Int) - 1 ≤ ((m1 : Nat) : Int)))) rfl (rf_leq rfl rfl rfl rfl) rfl ?_
        refine wl_nil ?_
        refine thn ?_
        refine cond_ (t := decide (((q : Nat) : Int) - 1 ≤ ((m1 : Nat) : Int))) rfl rfl (fun c104 => ?_) (fun c104 => ?_)
        · have c104p := of_decide_eq_true c104
          refine skip_ ?_
          refine thn ?_
          refine seq_ ?_
          refine block_ ?_
          refine seq_ ?_
          refine region_ ?_
          refine wl_valE (v := .pointer (some ⟨bA, 0, none⟩)) rfl (rf_move rfl) rfl ?_
          refine wl_valE (v := .int .i64 (((q : Nat) : Int) - 1)) rfl (rf_move rfl) rfl ?_
          refine wl_ret rfl (toldM_ret bA bp rs ls S came n wq hdM_wq hIM (by omega) (by omega) (((q : Nat) : Int) - 1)) (rf_call Try.call10 rfl rfl) ?_
          rintro vt1 w10 ⟨htl, hk10⟩
          have hp_w10 := hp_wq.keep hk10
          have hkw_w10 := hkw_wq.comp hk10 (fun _ _ e => e.elim)
          have hkl0_w10 := hkl0_wq.comp hk10 (fun _ _ e => e.elim)
          have hdM_w10 := hdM_wq.keep hk10
          have hrM_w10 := hrM_wq.keep hk10
          have hkl1_w10 := hkl1.comp hk10 (fun _ _ e => e.elim)
          have hs10 := hk10.size
          refine wl_valE (v := .pointer (some ⟨rA, 0, none⟩)) rfl (rf_move rfl) rfl ?_
          refine wl_valE (v := .int .i64 (((q : Nat) : Int) - 1)) rfl (rf_move rfl) rfl ?_
          refine wl_ret rfl (refEach_ret rA _ _ _ F w10 hrM_w10 (((q : Nat) : Int) - 1) (by simp; omega)) (rf_call Try.call11 rfl rfl) ?_
          rintro ve1 w11 ⟨hel, hk11⟩
          rw [eachM_eq] at hel
          have hp_w11 := hp_w10.keep hk11
          have hkw_w11 := hkw_w10.comp hk11 (fun _ _ e => e.elim)
          have hkl0_w11 := hkl0_w10.comp hk11 (fun _ _ e => e.elim)
          have hdM_w11 := hdM_w10.keep hk11
          have hrM_w11 := hrM_w10.keep hk11
          have hkl1_w11 := hkl1_w10.comp hk11 (fun _ _ e => e.elim)
          have htl_w11 := htl.keep hk11
          have hs11 := hk11.size
          refine wl_ret rfl (same_ret vt1 ve1 _ _ _ w11 htl_w11.rd hel.rd (by simp; have := List.length_filter_le (inPM ls.length (((q : Nat) : Int) - 1)) S; omega)) (rf_call Try.call9 rfl rfl) ?_
          rintro _ w12 ⟨rfl, hk12⟩
          have hp_w12 := hp_w11.keep hk12
          have hkw_w12 := hkw_w11.comp hk12 (fun _ _ e => e.elim)
          have hkl0_w12 := hkl0_w11.comp hk12 (fun _ _ e => e.elim)
          have hdM_w12 := hdM_w11.keep hk12
          have hrM_w12 := hrM_w11.keep hk12
          have hkl1_w12 := hkl1_w11.comp hk12 (fun _ _ e => e.elim)
          have htl_w12 := htl_w11.keep hk12
          have hel_w12 := hel.keep hk12
          have hs12 := hk12.size
          refine wl_valE (v := .bool false) rfl (rf_not rfl rfl) rfl ?_
          refine wl_nil ?_
          refine thn ?_
          refine condF rfl rfl ?_
          refine skip_ ?_
          refine bln ?_
          refine thn ?_
          refine region_ ?_
          refine wl_valE (v := .int .i64 (((q : Nat) : Int) - 1)) rfl (rf_move rfl) rfl ?_
          refine wl_valE (v := .int .i64 (((q + 1 : Nat) : Int) - 1)) rfl (rf_add rfl rfl rfl rfl (by rw [IntWalk.i64_in _ (by omega)]; omega)) rfl ?_
          refine wl_valE (v := .int .i64 (((q + 1 : Nat) : Int) - 1)) rfl (rf_assign rfl) rfl ?_
          refine wl_nil ?_
          refine thn ?_
          refine ⟨lk1 - 1, _, rfl, (by omega), _, q + 1, upds_self ⟨rfl, rfl, rfl, rfl, trivial⟩, ?_⟩
          exact ⟨by omega, hkl1_w12⟩
        · have c104p := of_decide_eq_false c104
          refine exit_ ?_
          refine thx (thx (blx ?_))
          refine thn ?_
          refine seq_ ?_
          refine region_ ?_
          refine wl_valE (v := .bool true) rfl (rf_assign rfl) rfl ?_
          refine wl_nil ?_
          refine thn ?_
          refine ret_ ?_
          refine fin1 (v := .bool true) Try.results3 rfl rfl ?_
          exact ⟨rfl, hkw_wq⟩
set_option maxRecDepth 100000 in
theorem lawPlays01_ret (c1 : Int) (h1 : ¬ (1 ≤ c1 ∧ c1 ≤ 256)) (m2 : Nat) (h2 : 1 ≤ m2 ∧ m2 ≤ 256) (vp : Value) (Fp : Nat → Prop) (L : List OpR) (w : World) (hL : L.length ≤ 2932031007390) (hp : Rd encOp 6 w Fp vp L) (hFp : ∀ b, Fp b → b < w.heap.size) : Ret Try.prog 3 [.int .i64 c1, .int .i64 ((m2 : Nat) : Int), vp] w fun v w' => v = .bool true ∧ Kp none_ w w' := by
  obtain ⟨pa, pcap, rfl, hpcap⟩ := hp.form
  have hkw : Kp none_ w w := Kp.refl w
  refine enterR Try.func3 rfl Try.ntmps3 rfl ?_
  intro g0
  refine seq_ ?_
  refine region_ ?_
  refine wl_valE (v := .bool false) rfl (rf_assign rfl) rfl ?_
  refine wl_nil ?_
  refine thn ?_
  refine seq_ ?_
  refine region_ ?_
  refine wl_valE (v := .int .i64 c1) rfl (rf_move rfl) rfl ?_
  refine wl_ret rfl (newDM_ret c1 w) (rf_call Try.call4 rfl rfl) ?_
  rintro vq w1 ⟨hv1, hv2⟩
  obtain ⟨rfl, hknA⟩ := hv1 h1
  have hp_w1 := hp.keep hknA
  have hkw_w1 := hkw.comp hknA (fun _ _ e => e.elim)
  have hs1 := hknA.size
  refine wl_valE (v := .tuple #[.pointer none, .int .i64 21]) rfl (rf_move rfl) rfl ?_
  refine wl_valE (v := .pointer none) rfl (rf_extract rfl rfl rfl) rfl ?_
  refine wl_valE (v := .int .i64 21) rfl (rf_extract rfl rfl rfl) rfl ?_
  refine wl_valE (v := .pointer none) rfl (rf_assign rfl) rfl ?_
  refine wl_valE (v := .int .i64 21) rfl (rf_assign rfl) rfl ?_
  refine wl_nil ?_
  refine thn ?_
  refine seq_ ?_
  refine region_ ?_
  refine wl_valE (v := .int .i64 ((m2 : Nat) : Int)) rfl (rf_move rfl) rfl ?_
  refine wl_ret rfl (newDR_ret ((m2 : Nat) : Int) w1) (rf_call Try.call4 rfl rfl) ?_
  rintro vq w2 ⟨hv1, hv2⟩
  obtain ⟨bB, bpB, rsB, rfl, hdB, hknB, hfB⟩ := hv2 ⟨by omega, by omega⟩
  obtain ⟨WB, hWB⟩ : ∃ n, n = w2.heap.size := ⟨_, rfl⟩
  obtain ⟨VB, hVB⟩ : ∃ n, n = w1.heap.size := ⟨_, rfl⟩
  rw [← hVB] at hfB
  have hltB : ∀ x, fpD bB bpB rsB x → x < WB := fun x hx => by rw [hWB]; exact hdB.lt x hx
  have hp_w2 := hp_w1.keep hknB
  have hkw_w2 := hkw_w1.comp hknB (fun _ _ e => e.elim)
  have hs2 := hknB.size
  refine wl_valE (v := .tuple #[.pointer (some ⟨bB, 0, none⟩), .int .i64 0]) rfl (rf_move rfl) rfl ?_
  refine wl_valE (v := .pointer (some ⟨bB, 0, none⟩)) rfl (rf_extract rfl rfl rfl) rfl ?_
  refine wl_valE (v := .int .i64 0) rfl (rf_extract rfl rfl rfl) rfl ?_
  refine wl_valE (v := .pointer (some ⟨bB, 0, none⟩)) rfl (rf_assign rfl) rfl ?_
  refine wl_valE (v := .int .i64 0) rfl (rf_assign rfl) rfl ?_
  refine wl_nil ?_
  refine thn ?_
  refine seq_ ?_
  refine region_ ?_
  refine wl_valE (v := .int .i64 c1) rfl (rf_move rfl) rfl ?_
  refine wl_ret rfl (refNew_ret c1 w2) (rf_call Try.call7 rfl rfl) ?_
  rintro vq w3 ⟨hv1, hv2⟩
  obtain ⟨rfl, hkrA⟩ := hv1 h1
  have hp_w3 := hp_w2.keep hkrA
  have hkw_w3 := hkw_w2.comp hkrA (fun _ _ e => e.elim)
  have hdB_w3 := hdB.keep hkrA
  have hs3 := hkrA.size
  refine wl_valE (v := .tuple #[.pointer none, .int .i64 21]) rfl (rf_move rfl) rfl ?_
  refine wl_valE (v := .pointer none) rfl (rf_extract rfl rfl rfl) rfl ?_
  refine wl_valE (v := .int .i64 21) rfl (rf_extract rfl rfl rfl) rfl ?_
  refine wl_valE (v := .pointer none) rfl (rf_assign rfl) rfl ?_
  refine wl_valE (v := .int .i64 21) rfl (rf_assign rfl) rfl ?_
  refine wl_nil ?_
  refine thn ?_
  refine seq_ ?_
  refine region_ ?_
  refine wl_valE (v := .int .i64 ((m2 : Nat) : Int)) rfl (rf_move rfl) rfl ?_
  refine wl_ret rfl (refNew_ret ((m2 : Nat) : Int) w3) (rf_call Try.call7 rfl rfl) ?_
  rintro vq w4 ⟨hv1, hv2⟩
  obtain ⟨rB, rfl, hrB, hkrB, hgB⟩ := hv2 ⟨by omega, by omega⟩
  have hltrB := hrB.blk.lt
  have hp_w4 := hp_w3.keep hkrB
  have hkw_w4 := hkw_w3.comp hkrB (fun _ _ e => e.elim)
  have hdB_w4 := hdB_w3.keep hkrB
  have hs4 := hkrB.size
  refine wl_valE (v := .tuple #[.pointer (some ⟨rB, 0, none⟩), .int .i64 0]) rfl (rf_move rfl) rfl ?_
  refine wl_valE (v := .pointer (some ⟨rB, 0, none⟩)) rfl (rf_extract rfl rfl rfl) rfl ?_
  refine wl_valE (v := .int .i64 0) rfl (rf_extract rfl rfl rfl) rfl ?_
  refine wl_valE (v := .pointer (some ⟨rB, 0, none⟩)) rfl (rf_assign rfl) rfl ?_
  refine wl_valE (v := .int .i64 0) rfl (rf_assign rfl) rfl ?_
  refine wl_nil ?_
  refine thn ?_
  refine seq_ ?_
  refine seq_ ?_
  refine region_ ?_
  refine wl_valE (v := .int .i64 21) rfl (rf_move rfl) rfl ?_
  refine wl_valE (v := .int .i64 21) rfl (rf_move rfl) rfl ?_
  refine wl_valE (v := .bool false) rfl (rf_neq rfl rfl rfl rfl) (congrArg Value.bool (by decide)) ?_
  refine wl_valE (v := .bool false) rfl (rf_move rfl) rfl ?_
  refine wl_guardT rfl rfl rfl rfl ?_
  refine wl_valE (v := .int .i64 0) rfl (rf_move rfl) rfl ?_
  refine wl_guardT rfl rfl rfl rfl ?_
  refine wl_valE (v := .int .i64 0) rfl (rf_move rfl) rfl ?_
  refine wl_guardT rfl rfl rfl rfl ?_
  refine wl_valE (v := .bool false) rfl (rf_neq rfl rfl rfl rfl) (congrArg Value.bool (by decide)) ?_
  refine wl_valE (v := .bool false) rfl (rf_pickF rfl rfl rfl rfl) rfl ?_
  refine wl_valE (v := .bool false) rfl (rf_move rfl) rfl ?_
  refine wl_guardT rfl rfl rfl rfl ?_
  refine wl_valE (v := .pointer none) rfl (rf_move rfl) rfl ?_
  refine wl_guardT rfl rfl rfl rfl ?_
  refine wl_valE (v := .bool true) rfl (rf_eqlPN Try.underlying23 rfl rfl rfl rfl) rfl ?_
  refine wl_guardT rfl rfl rfl rfl ?_
  refine wl_valE (v := .pointer none) rfl (rf_move rfl) rfl ?_
  refine wl_guardT rfl rfl rfl rfl ?_
  refine wl_valE (v := .bool true) rfl (rf_eqlPN Try.underlying30 rfl rfl rfl rfl) rfl ?_
  refine wl_guardT rfl rfl rfl rfl ?_
  refine wl_valE (v := .bool false) rfl (rf_neqB Try.underlying4 rfl rfl rfl rfl) rfl ?_
  refine wl_valE (v := .bool false) rfl (rf_pickF rfl rfl rfl rfl) rfl ?_
  refine wl_valE (v := .bool false) rfl (rf_move rfl) rfl ?_
  refine wl_guardT rfl rfl rfl rfl ?_
  refine wl_valE (v := .pointer (some ⟨bB, 0, none⟩)) rfl (rf_move rfl) rfl ?_
  refine wl_guardT rfl rfl rfl rfl ?_
  refine wl_valE (v := .bool false) rfl (rf_eqlPN Try.underlying23 rfl rfl rfl rfl) rfl ?_
  refine wl_guardT rfl rfl rfl rfl ?_
  refine wl_valE (v := .pointer (some ⟨rB, 0, none⟩)) rfl (rf_move rfl) rfl ?_
  refine wl_guardT rfl rfl rfl rfl ?_
  refine wl_valE (v := .bool false) rfl (rf_eqlPN Try.underlying30 rfl rfl rfl rfl) rfl ?_
  refine wl_guardT rfl rfl rfl rfl ?_
  refine wl_valE (v := .bool false) rfl (rf_neqB Try.underlying4 rfl rfl rfl rfl) rfl ?_
  refine wl_valE (v := .bool false) rfl (rf_pickF rfl rfl rfl rfl) rfl ?_
  refine wl_nil ?_
  refine thn ?_
  refine condF rfl rfl ?_
  refine skip_ ?_
  refine thn ?_
  refine seq_ ?_
  refine seq_ ?_
  refine region_ ?_
  refine wl_valE (v := .int .i64 ((0 : Nat) : Int)) rfl (rf_assign rfl) rfl ?_
  refine wl_nil ?_
  refine thn ?_
  refine block_ ?_
  refine loop_ (fun lk lf lw => ∃ (g : Nat → Value) (i : Nat) (TB : Nat → Prop), lf = upds g [(0, .int .i64 c1), (2, .slice pa L.length pcap), (7, .pointer none), (9, .pointer (some ⟨bB, 0, none⟩)), (11, .pointer none), (13, .pointer (some ⟨rB, 0, none⟩)), (15, .int .i64 ((i : Nat) : Int))] ∧ i + lk = L.length ∧ SideR lw bB rB m2 i TB ∧ (∀ y, TB y → w.heap.size ≤ y) ∧ Kp (fun y => w.heap.size ≤ y) w4 lw) (L.length) ?_ ?_
  · refine ⟨_, 0, (fun y => (VB ≤ y ∧ y < WB) ∨ y = rB), upds_self ⟨rfl, rfl, rfl, rfl, rfl, rfl, rfl, trivial⟩, ?_⟩
    refine ⟨by omega, SideR.new h2.1 hdB_w4 hrB (fun e => by have := hltB _ e; omega) (fun y hy => ?_) (fun y hy => by omega), fun y hy => by omega, Kp.refl _⟩
    · rcases hy with e | e
      · exact .inl ⟨by have := hfB y e; omega, by have := hltB y e; omega⟩
      · exact .inr e
  · intro lk0 lf0 wl hI0
    obtain ⟨gl0, i, TB, rfl, hik, hsB, htB, hkl0⟩ := hI0
    have hp_wl := hp_w4.kp hkl0 (fun y hy e => by have := hFp y hy; first | omega | (have := htB y e; omega) | (have := htA y e; omega))
    have hkw_wl := hkw_w4.comp hkl0 (fun y hy e => by first | omega | (have := htB y e; omega) | (have := htA y e; omega))
    have hsl := hkl0.size
    have hsB0 := hsB
    refine seq_ ?_
    refine seq_ ?_
    refine region_ ?_
    refine wl_valE (v := .int .i64 ((i : Nat) : Int)) rfl (rf_move rfl) rfl ?_
    refine wl_valE (v := .slice pa L.length pcap) rfl (rf_move rfl) rfl ?_
    refine wl_valE (v := .int .i64 ((L.length : Nat) : Int)) rfl (rf_len_slice Try.underlying22 rfl rfl) rfl ?_
    refine wl_valE (v := .bool (decide (((i : Nat) : Int) < ((L.length : Nat) : Int)))) rfl (rf_lss rfl rfl rfl rfl) rfl ?_
    refine wl_nil ?_
    refine thn ?_
    refine cond_ (t := decide (((i : Nat) : Int) < ((L.length : Nat) : Int))) rfl rfl (fun c64 => ?_) (fun c64 => ?_)
    · have c64p := of_decide_eq_true c64
      obtain ⟨o, ho⟩ : ∃ o, L[i]? = some o := ⟨_, List.getElem?_eq_getElem (by omega)⟩
      obtain ⟨bx9, ox9, capx9, ex9, hcapx9, hFx9, hltx9, hcellx9⟩ := hp_wl.get (by omega)
      cases ex9
      refine skip_ ?_
      refine thn ?_
      refine seq_ ?_
      refine block_ ?_
      refine seq_ ?_
      refine region_ ?_
      refine wl_valE (v := .slice (some ⟨bx9, ox9, none⟩) L.length pcap) rfl (rf_move rfl) rfl ?_
      refine wl_valE (v := .int .i64 ((i : Nat) : Int)) rfl (rf_move rfl) rfl ?_
      refine wl_valE (v := .pointer (some ⟨bx9, ox9 + i * 6, none⟩)) rfl (rf_indexAddr Try.underlying22 ti34 rfl rfl rfl rfl (by omega) (by omega)) rfl ?_
      refine wl_valE (v := .agg #[.int .i64 o.kind, .int .i64 o.key.table, .int .i64 o.key.row, .int .i64 o.v, .int .i64 o.num, .bool o.two]) rfl (rf_loadAgg Try.underlying34 rfl ti34 rfl rfl (el_cells (hcellx9 i o ho)) rfl) rfl ?_
      refine wl_alloc ti34 ?_
      intro b5 w5 hg5 hk5 hb5
      have hp_w5 := hp_wl.keep hk5
      have hkw_w5 := hkw_wl.comp hk5 (fun _ _ e => e.elim)
      have hkl0_w5 := hkl0.comp hk5 (fun _ _ e => e.elim)
      have hsB_w5 := hsB.keep hk5
      have hs5 := hk5.size
      refine wl_storeAgg (b := b5) (o := 0) (cs := [.int .i64 o.kind, .int .i64 o.key.table, .int .i64 o.key.row, .int .i64 o.v, .int .i64 o.num, .bool o.two]) ti34 rfl rfl rfl rfl rfl (by simp [Value.oneCell']) hb5 (Nat.le_of_ble_eq_true rfl) ?_
      intro w6 hk6 hb6
      have hp_w6 := hp_w5.kp hk6 (fun y hy e => by have := hFp y hy; omega)
      have hkw_w6 := hkw_w5.comp hk6 (fun y hy e => by omega)
      have hkl0_w6 := hkl0_w5.comp hk6 (fun y hy e => by omega)
      have hsB_w6 := hsB_w5.kp hk6 (fun y hy e => by have := hsB0.lt y hy; omega)
      have hs6 := hk6.size
      replace hb6 : Blk w6 b5 (.cells #[.int .i64 o.kind, .int .i64 o.key.table, .int .i64 o.key.row, .int .i64 o.v, .int .i64 o.num, .bool o.two] _ (0, 0)) := hb6
      refine wl_nil ?_
      refine thn ?_
      refine seq_ ?_
      refine region_ ?_
      refine wl_valE (v := .bool true) rfl (rf_assign rfl) rfl ?_
      refine wl_nil ?_
      refine thn ?_
      refine seq_ ?_
      refine seq_ ?_
      refine cut_ (fun lf lw => ∃ (g : Nat → Value) (q76 : Bool), lf = upds g [(0, .int .i64 c1), (2, .slice (some ⟨bx9, ox9, none⟩) L.length pcap), (7, .pointer none), (9, .pointer (some ⟨bB, 0, none⟩)), (11, .pointer none), (13, .pointer (some ⟨rB, 0, none⟩)), (15, .int .i64 ((i : Nat) : Int)), (16, .pointer (some ⟨b5, 0, none⟩)), (17, .bool true), (61, .int .i64 ((i : Nat) : Int)), (62, .slice (some ⟨bx9, ox9, none⟩) L.length pcap), (63, .int .i64 ((L.length : Nat) : Int)), (64, .bool (decide (((i : Nat) : Int) < ((L.length : Nat) : Int)))), (67, .slice (some ⟨bx9, ox9, none⟩) L.length pcap), (68, .int .i64 ((i : Nat) : Int)), (69, .pointer (some ⟨bx9, ox9 + i * 6, none⟩)), (70, .agg #[.int .i64 o.kind, .int .i64 o.key.table, .int .i64 o.key.row, .int .i64 o.v, .int .i64 o.num, .bool o.two]), (76, .bool q76)] ∧ Kp (none_) w6 lw) ?_ ?_
      · refine region_ ?_
        refine wl_valE (v := .pointer (some ⟨b5, 5, none⟩)) rfl (rf_fieldAddr Try.underlying34 rfl ti4 rfl rfl) rfl ?_
        refine wl_valE (v := .bool o.two) rfl (rf_load Try.underlying4 rfl rfl rfl (hb6.cell rfl)) rfl ?_
        refine wl_valE (v := .bool o.two) rfl (rf_move rfl) rfl ?_
        refine wl_split (o.two) (fun u12_2 => ?_) (fun u12_2 => ?_)
        · refine wl_guardT rfl rfl rfl u12_2 ?_
          refine wl_valE (v := .pointer (some ⟨bB, 0, none⟩)) rfl (rf_move rfl) rfl ?_
          refine wl_guardT rfl rfl rfl u12_2 ?_
          refine wl_valE (v := .bool true) rfl (rf_neqPN Try.underlying23 rfl rfl rfl rfl) rfl ?_
          refine wl_valE (v := .bool true) rfl (rf_pickT rfl rfl rfl u12_2) rfl ?_
          refine wl_nil ?_
          refine cxn ⟨_, _, upds_self ⟨rfl, rfl, rfl, rfl, rfl, rfl, rfl, rfl, rfl, rfl, rfl, rfl, rfl, rfl, rfl, rfl, rfl, rfl, trivial⟩, ?_⟩
          exact Kp.refl _
        · refine wl_guardF rfl rfl rfl u12_2 ?_
          refine wl_guardF rfl rfl rfl u12_2 ?_
          refine wl_valE (v := .bool false) rfl (rf_pickF rfl rfl rfl u12_2) rfl ?_
          refine wl_nil ?_
          refine cxn ⟨_, _, upds_self ⟨rfl, rfl, rfl, rfl, rfl, rfl, rfl, rfl, rfl, rfl, rfl, rfl, rfl, rfl, rfl, rfl, rfl, rfl, trivial⟩, ?_⟩
          exact Kp.refl _
      · intro lfcutr12 wcB hIcutr12
        obtain ⟨glcutr12, q76, rfl, hkcB⟩ := hIcutr12
        have hp_wcB := hp_w6.keep hkcB
        have hkw_wcB := hkw_w6.comp hkcB (fun _ _ e => e.elim)
        have hkl0_wcB := hkl0_w6.comp hkcB (fun _ _ e => e.elim)
        have hsB_wcB := hsB_w6.keep hkcB
        have hb5_wcB := hb6.keep hkcB
        have hscB := hkcB.size
        refine thn ?_
        refine cut_ (fun lf lw => ∃ (g : Nat → Value) (TB2 : Nat → Prop), lf = upds g [(0, .int .i64 c1), (2, .slice (some ⟨bx9, ox9, none⟩) L.length pcap), (7, .pointer none), (9, .pointer (some ⟨bB, 0, none⟩)), (11, .pointer none), (13, .pointer (some ⟨rB, 0, none⟩)), (15, .int .i64 ((i : Nat) : Int)), (16, .pointer (some ⟨b5, 0, none⟩)), (17, .bool true), (61, .int .i64 ((i : Nat) : Int)), (62, .slice (some ⟨bx9, ox9, none⟩) L.length pcap), (63, .int .i64 ((L.length : Nat) : Int)), (64, .bool (decide (((i : Nat) : Int) < ((L.length : Nat) : Int)))), (67, .slice (some ⟨bx9, ox9, none⟩) L.length pcap), (68, .int .i64 ((i : Nat) : Int)), (69, .pointer (some ⟨bx9, ox9 + i * 6, none⟩)), (70, .agg #[.int .i64 o.kind, .int .i64 o.key.table, .int .i64 o.key.row, .int .i64 o.v, .int .i64 o.num, .bool o.two]), (76, .bool q76)] ∧ SideR lw bB rB m2 (i + 1) TB2 ∧ (∀ y, TB2 y → TB y ∨ wcB.heap.size ≤ y) ∧ Kp (TB) wcB lw) ?_ ?_
        · refine cond_ (t := q76) rfl rfl (fun c76 => ?_) (fun c76 => ?_)
          · refine region_h (S := fun wq => Kp (TB) wcB wq) mixedP ?_
            intro w7 hk7
            have hp_w7 := hp_wcB.keep hk7
            have hkw_w7 := hkw_wcB.comp hk7 (fun _ _ e => e.elim)
            have hkl0_w7 := hkl0_wcB.comp hk7 (fun _ _ e => e.elim)
            have hsB_w7 := hsB_wcB.keep hk7
            have hb5_w7 := hb5_wcB.keep hk7
            have hs7 := hk7.size
            have hS7 : Kp (TB) wcB w7 := hk7.of_none
            refine wh_take (i := 0) (v := .pointer (some ⟨bB, 0, none⟩)) rfl (by kernel_rfl) (by kernel_rfl) (by kernel_rfl) hS7 rfl (fun wq hq => rf_move rfl) rfl ?_
            refine wh_take (i := 1) (v := .pointer (some ⟨rB, 0, none⟩)) rfl (by kernel_rfl) (by kernel_rfl) (by kernel_rfl) hS7 rfl (fun wq hq => rf_move rfl) rfl ?_
            refine wh_take (i := 2) (v := .agg #[.int .i64 o.kind, .int .i64 o.key.table, .int .i64 o.key.row, .int .i64 o.v, .int .i64 o.num, .bool o.two]) rfl (by kernel_rfl) (by kernel_rfl) (by kernel_rfl) hS7 rfl (fun wq hq => rf_loadBlk Try.underlying34 rfl ti34 rfl rfl (hb5_wcB.kp hq (fun e => by have := hsB0.lt _ e; omega)) (Nat.le_of_ble_eq_true rfl)) rfl ?_
            refine wh_take (i := 3) (v := .pointer (some ⟨b5, 1, none⟩)) rfl (by kernel_rfl) (by kernel_rfl) (by kernel_rfl) hS7 rfl (fun wq hq => rf_fieldAddr Try.underlying34 rfl ti28 rfl rfl) rfl ?_
            refine wh_take (i := 4) (v := .agg #[.int .i64 o.key.table, .int .i64 o.key.row]) rfl (by kernel_rfl) (by kernel_rfl) (by kernel_rfl) hS7 rfl (fun wq hq => rf_loadBlk Try.underlying28 rfl ti28 rfl rfl (hb5_wcB.kp hq (fun e => by have := hsB0.lt _ e; omega)) (Nat.le_of_ble_eq_true rfl)) rfl ?_
            refine wh_one (i := 5) (by kernel_rfl) rfl ?_
            refine wl_ret rfl (rough_ret o.key w7) (rf_call Try.call6 rfl rfl) ?_
            rintro _ w8 ⟨rfl, hk8⟩
            have hp_w8 := hp_w7.keep hk8
            have hkw_w8 := hkw_w7.comp hk8 (fun _ _ e => e.elim)
            have hkl0_w8 := hkl0_w7.comp hk8 (fun _ _ e => e.elim)
            have hsB_w8 := hsB_w7.keep hk8
            have hb5_w8 := hb5_w7.keep hk8
            have hS_w8 := hS7.comp hk8 (fun _ _ e => e.elim)
            have hs8 := hk8.size
            refine wl_nil ?_
            refine wh_back hS_w8 ?_
            refine wh_one (i := 6) (by kernel_rfl) rfl ?_
            refine wl_ret rfl (sideR_played hsB_w8 (by omega) o) (rf_call Try.call8 rfl rfl) ?_
            rintro vq w9 ⟨rfl, TB3, hsB3, htB3, hk9⟩
            have hp_w9 := hp_w8.kp hk9 (fun y hy e => by have := hFp y hy; have := htB y e; omega)
            have hkw_w9 := hkw_w8.comp hk9 (fun y hy e => by have := htB y e; omega)
            have hkl0_w9 := hkl0_w8.comp hk9 (fun y hy e => htB y e)
            have hb5_w9 := hb5_w8.kp hk9 (fun e => by have := hsB0.lt _ e; omega)
            have hS_w9 := hS_w8.comp hk9 (fun y hy e => e)
            have hs9 := hk9.size
            refine wl_nil ?_
            refine wh_back hS_w9 ?_
            refine wh_take (i := 7) (v := .bool true) rfl (by kernel_rfl) (by kernel_rfl) (by kernel_rfl) hS_w9 rfl (fun wq hq => rf_assign rfl) rfl ?_
            refine wh_done (by kernel_rfl) ?_
            refine cxn ⟨_, TB3, upds_self ⟨rfl, rfl, rfl, rfl, rfl, rfl, rfl, rfl, rfl, rfl, rfl, rfl, rfl, rfl, rfl, rfl, rfl, rfl, trivial⟩, ?_⟩
            exact ⟨hsB3, fun y hy => (htB3 y hy).imp id (fun h => by omega), hS_w9⟩
          · refine skip_ ?_
            refine cxn ⟨_, TB, upds_self ⟨rfl, rfl, rfl, rfl, rfl, rfl, rfl, rfl, rfl, rfl, rfl, rfl, rfl, rfl, rfl, rfl, rfl, rfl, trivial⟩, ?_⟩
            exact ⟨hsB_wcB.step, fun y hy => .inl hy, Kp.refl _⟩
        · intro lfcutc76 wdB hIcutc76
          obtain ⟨glcutc76, TB2, rfl, hsB2, htB2, hkdB⟩ := hIcutc76
          have hp_wdB := hp_wcB.kp hkdB (fun y hy e => by have := hFp y hy; first | omega | (have := htB y e; omega) | (have := htA y e; omega))
          have hkw_wdB := hkw_wcB.comp hkdB (fun y hy e => by first | omega | (have := htB y e; omega) | (have := htA y e; omega))
          have hkl0_wdB := hkl0_wcB.comp hkdB (fun y hy e => by first | exact htB y e | exact htA y e)
          have hb5_wdB := hb5_wcB.kp hkdB (fun e => by first | (have := hsB0.lt _ e; omega) | (have := hsA0.lt _ e; omega))
          have hsdB := hkdB.size
          refine thn ?_
          refine seq_ ?_
          refine seq_ ?_
          refine cut_ (fun lf lw => ∃ (g : Nat → Value) (q90 : Bool), lf = upds g [(0, .int .i64 c1), (2, .slice (some ⟨bx9, ox9, none⟩) L.length pcap), (7, .pointer none), (9, .pointer (some ⟨bB, 0, none⟩)), (11, .pointer none), (13, .pointer (some ⟨rB, 0, none⟩)), (15, .int .i64 ((i : Nat) : Int)), (16, .pointer (some ⟨b5, 0, none⟩)), (17, .bool true), (61, .int .i64 ((i : Nat) : Int)), (62, .slice (some ⟨bx9, ox9, none⟩) L.length pcap), (63, .int .i64 ((L.length : Nat) : Int)), (64, .bool (decide (((i : Nat) : Int) < ((L.length : Nat) : Int)))), (67, .slice (some ⟨bx9, ox9, none⟩) L.length pcap), (68, .int .i64 ((i : Nat) : Int)), (69, .pointer (some ⟨bx9, ox9 + i * 6, none⟩)), (70, .agg #[.int .i64 o.kind, .int .i64 o.key.table, .int .i64 o.key.row, .int .i64 o.v, .int .i64 o.num, .bool o.two]), (76, .bool q76), (90, .bool q90)] ∧ q90 = false ∧ Kp (none_) wdB lw) ?_ ?_
          · refine region_ ?_
            refine wl_valE (v := .pointer (some ⟨b5, 5, none⟩)) rfl (rf_fieldAddr Try.underlying34 rfl ti4 rfl rfl) rfl ?_
            refine wl_valE (v := .bool o.two) rfl (rf_load Try.underlying4 rfl rfl rfl (hb5_wdB.cell rfl)) rfl ?_
            refine wl_valE (v := .bool (!o.two)) rfl (rf_not rfl rfl) rfl ?_
            refine wl_valE (v := .bool (!o.two)) rfl (rf_move rfl) rfl ?_
            refine wl_split (!o.two) (fun u14_3 => ?_) (fun u14_3 => ?_)
            · refine wl_guardT rfl rfl rfl u14_3 ?_
              refine wl_valE (v := .pointer none) rfl (rf_move rfl) rfl ?_
              refine wl_guardT rfl rfl rfl u14_3 ?_
              refine wl_valE (v := .bool false) rfl (rf_neqPN Try.underlying23 rfl rfl rfl rfl) rfl ?_
              refine wl_valE (v := .bool false) rfl (rf_pickT rfl rfl rfl u14_3) rfl ?_
              refine wl_nil ?_
              refine cxn ⟨_, _, upds_self ⟨rfl, rfl, rfl, rfl, rfl, rfl, rfl, rfl, rfl, rfl, rfl, rfl, rfl, rfl, rfl, rfl, rfl, rfl, rfl, trivial⟩, ?_⟩
              exact ⟨rfl, Kp.refl _⟩
            · refine wl_guardF rfl rfl rfl u14_3 ?_
              refine wl_guardF rfl rfl rfl u14_3 ?_
              refine wl_valE (v := .bool false) rfl (rf_pickF rfl rfl rfl u14_3) rfl ?_
              refine wl_nil ?_
              refine cxn ⟨_, _, upds_self ⟨rfl, rfl, rfl, rfl, rfl, rfl, rfl, rfl, rfl, rfl, rfl, rfl, rfl, rfl, rfl, rfl, rfl, rfl, rfl, trivial⟩, ?_⟩
              exact ⟨rfl, Kp.refl _⟩
          · intro lfcutr14 wcA hIcutr14
            obtain ⟨glcutr14, q90, rfl, hfA, hkcA⟩ := hIcutr14
            have hp_wcA := hp_wdB.keep hkcA
            have hkw_wcA := hkw_wdB.comp hkcA (fun _ _ e => e.elim)
            have hkl0_wcA := hkl0_wdB.comp hkcA (fun _ _ e => e.elim)
            have hb5_wcA := hb5_wdB.keep hkcA
            have hsB2_wcA := hsB2.keep hkcA
            have hscA := hkcA.size
            refine thn ?_
            refine cond_ (t := q90) rfl rfl (fun c90 => ?_) (fun c90 => ?_)
            · simp [hfA] at c90
            · refine skip_ ?_
              refine thn ?_
              refine seq_ ?_
              refine region_ ?_
              refine wl_valE (v := .bool true) rfl (rf_move rfl) rfl ?_
              refine wl_valE (v := .bool false) rfl (rf_not rfl rfl) rfl ?_
              refine wl_nil ?_
              refine thn ?_
              refine condF rfl rfl ?_
              refine skip_ ?_
              refine bln ?_
              refine thn ?_
              refine region_ ?_
              refine wl_valE (v := .int .i64 ((i : Nat) : Int)) rfl (rf_move rfl) rfl ?_
              refine wl_valE (v := .int .i64 ((i + 1 : Nat) : Int)) rfl (rf_add rfl rfl rfl rfl (IntWalk.i64_in _ (by omega))) rfl ?_
              refine wl_valE (v := .int .i64 ((i + 1 : Nat) : Int)) rfl (rf_assign rfl) rfl ?_
              refine wl_nil ?_
              refine thn ?_
              refine ⟨lk0 - 1, _, rfl, (by omega), _, i + 1, TB2, upds_self ⟨rfl, rfl, rfl, rfl, rfl, rfl, rfl, trivial⟩, ?_⟩
              refine ⟨by omega, hsB2_wcA, fun y ht => (htB2 y ht).elim (fun h => htB y h) (fun h => by omega), hkl0_wcA⟩
    · have c64p := of_decide_eq_false c64
      refine exit_ ?_
      refine thx (thx (blx ?_))
      refine thn ?_
      refine seq_ ?_
      refine seq_ ?_
      refine region_ ?_
      refine wl_valE (v := .pointer none) rfl (rf_move rfl) rfl ?_
      refine wl_valE (v := .bool false) rfl (rf_neqPN Try.underlying23 rfl rfl rfl rfl) rfl ?_
      refine wl_nil ?_
      refine thn ?_
      refine condF rfl rfl ?_
      refine skip_ ?_
      refine thn ?_
      refine seq_ ?_
      refine region_ ?_
      refine wl_valE (v := .bool true) rfl (rf_assign rfl) rfl ?_
      refine wl_nil ?_
      refine thn ?_
      refine ret_ ?_
      refine fin1 (v := .bool true) Try.results3 rfl rfl ?_
      exact ⟨rfl, hkw_wl⟩
set_option maxRecDepth 100000 in
theorem lawPlays00_ret (c1 : Int) (h1 : ¬ (1 ≤ c1 ∧ c1 ≤ 256)) (c2 : Int) (h2 : ¬ (1 ≤ c2 ∧ c2 ≤ 256)) (vp : Value) (Fp : Nat → Prop) (L : List OpR) (w : World) (hL : L.length ≤ 2932031007390) (hp : Rd encOp 6 w Fp vp L) (hFp : ∀ b, Fp b → b < w.heap.size) : Ret Try.prog 3 [.int .i64 c1, .int .i64 c2, vp] w fun v w' => v = .bool true ∧ Kp none_ w w' := by
  obtain ⟨pa, pcap, rfl, hpcap⟩ := hp.form
  have hkw : Kp none_ w w := Kp.refl w
  refine enterR Try.func3 rfl Try.ntmps3 rfl ?_
  intro g0
  refine seq_ ?_
  refine region_ ?_
  refine wl_valE (v := .bool false) rfl (rf_assign rfl) rfl ?_
  refine wl_nil ?_
  refine thn ?_
  refine seq_ ?_
  refine region_ ?_
  refine wl_valE (v := .int .i64 c1) rfl (rf_move rfl) rfl ?_
  refine wl_ret rfl (newDM_ret c1 w) (rf_call Try.call4 rfl rfl) ?_
  rintro vq w1 ⟨hv1, hv2⟩
  obtain ⟨rfl, hknA⟩ := hv1 h1
  have hp_w1 := hp.keep hknA
  have hkw_w1 := hkw.comp hknA (fun _ _ e => e.elim)
  have hs1 := hknA.size
  refine wl_valE (v := .tuple #[.pointer none, .int .i64 21]) rfl (rf_move rfl) rfl ?_
  refine wl_valE (v := .pointer none) rfl (rf_extract rfl rfl rfl) rfl ?_
  refine wl_valE (v := .int .i64 21) rfl (rf_extract rfl rfl rfl) rfl ?_
  refine wl_valE (v := .pointer none) rfl (rf_assign rfl) rfl ?_
  refine wl_valE (v := .int .i64 21) rfl (rf_assign rfl) rfl ?_
  refine wl_nil ?_
  refine thn ?_
  refine seq_ ?_
  refine region_ ?_
  refine wl_valE (v := .int .i64 c2) rfl (rf_move rfl) rfl ?_
  refine wl_ret rfl (newDR_ret c2 w1) (rf_call Try.call4 rfl rfl) ?_
  rintro vq w2 ⟨hv1, hv2⟩
  obtain ⟨rfl, hknB⟩ := hv1 h2
  have hp_w2 := hp_w1.keep hknB
  have hkw_w2 := hkw_w1.comp hknB (fun _ _ e => e.elim)
  have hs2 := hknB.size
  refine wl_valE (v := .tuple #[.pointer none, .int .i64 21]) rfl (rf_move rfl) rfl ?_
  refine wl_valE (v := .pointer none) rfl (rf_extract rfl rfl rfl) rfl ?_
  refine wl_valE (v := .int .i64 21) rfl (rf_extract rfl rfl rfl) rfl ?_
  refine wl_valE (v := .pointer none) rfl (rf_assign rfl) rfl ?_
  refine wl_valE (v := .int .i64 21) rfl (rf_assign rfl) rfl ?_
  refine wl_nil ?_
  refine thn ?_
  refine seq_ ?_
  refine region_ ?_
  refine wl_valE (v := .int .i64 c1) rfl (rf_move rfl) rfl ?_
  refine wl_ret rfl (refNew_ret c1 w2) (rf_call Try.call7 rfl rfl) ?_
  rintro vq w3 ⟨hv1, hv2⟩
  obtain ⟨rfl, hkrA⟩ := hv1 h1
  have hp_w3 := hp_w2.keep hkrA
  have hkw_w3 := hkw_w2.comp hkrA (fun _ _ e => e.elim)
  have hs3 := hkrA.size
  refine wl_valE (v := .tuple #[.pointer none, .int .i64 21]) rfl (rf_move rfl) rfl ?_
  refine wl_valE (v := .pointer none) rfl (rf_extract rfl rfl rfl) rfl ?_
  refine wl_valE (v := .int .i64 21) rfl (rf_extract rfl rfl rfl) rfl ?_
  refine wl_valE (v := .pointer none) rfl (rf_assign rfl) rfl ?_
  refine wl_valE (v := .int .i64 21) rfl (rf_assign rfl) rfl ?_
  refine wl_nil ?_
  refine thn ?_
  refine seq_ ?_
  refine region_ ?_
  refine wl_valE (v := .int .i64 c2) rfl (rf_move rfl) rfl ?_
  refine wl_ret rfl (refNew_ret c2 w3) (rf_call Try.call7 rfl rfl) ?_
  rintro vq w4 ⟨hv1, hv2⟩
  obtain ⟨rfl, hkrB⟩ := hv1 h2
  have hp_w4 := hp_w3.keep hkrB
  have hkw_w4 := hkw_w3.comp hkrB (fun _ _ e => e.elim)
  have hs4 := hkrB.size
  refine wl_valE (v := .tuple #[.pointer none, .int .i64 21]) rfl (rf_move rfl) rfl ?_
  refine wl_valE (v := .pointer none) rfl (rf_extract rfl rfl rfl) rfl ?_
  refine wl_valE (v := .int .i64 21) rfl (rf_extract rfl rfl rfl) rfl ?_
  refine wl_valE (v := .pointer none) rfl (rf_assign rfl) rfl ?_
  refine wl_valE (v := .int .i64 21) rfl (rf_assign rfl) rfl ?_
  refine wl_nil ?_
  refine thn ?_
  refine seq_ ?_
  refine seq_ ?_
  refine region_ ?_
  refine wl_valE (v := .int .i64 21) rfl (rf_move rfl) rfl ?_
  refine wl_valE (v := .int .i64 21) rfl (rf_move rfl) rfl ?_
  refine wl_valE (v := .bool false) rfl (rf_neq rfl rfl rfl rfl) (congrArg Value.bool (by decide)) ?_
  refine wl_valE (v := .bool false) rfl (rf_move rfl) rfl ?_
  refine wl_guardT rfl rfl rfl rfl ?_
  refine wl_valE (v := .int .i64 21) rfl (rf_move rfl) rfl ?_
  refine wl_guardT rfl rfl rfl rfl ?_
  refine wl_valE (v := .int .i64 21) rfl (rf_move rfl) rfl ?_
  refine wl_guardT rfl rfl rfl rfl ?_
  refine wl_valE (v := .bool false) rfl (rf_neq rfl rfl rfl rfl) (congrArg Value.bool (by decide)) ?_
  refine wl_valE (v := .bool false) rfl (rf_pickF rfl rfl rfl rfl) rfl ?_
  refine wl_valE (v := .bool false) rfl (rf_move rfl) rfl ?_
  refine wl_guardT rfl rfl rfl rfl ?_
  refine wl_valE (v := .pointer none) rfl (rf_move rfl) rfl ?_
  refine wl_guardT rfl rfl rfl rfl ?_
  refine wl_valE (v := .bool true) rfl (rf_eqlPN Try.underlying23 rfl rfl rfl rfl) rfl ?_
  refine wl_guardT rfl rfl rfl rfl ?_
  refine wl_valE (v := .pointer none) rfl (rf_move rfl) rfl ?_
  refine wl_guardT rfl rfl rfl rfl ?_
  refine wl_valE (v := .bool true) rfl (rf_eqlPN Try.underlying30 rfl rfl rfl rfl) rfl ?_
  refine wl_guardT rfl rfl rfl rfl ?_
  refine wl_valE (v := .bool false) rfl (rf_neqB Try.underlying4 rfl rfl rfl rfl) rfl ?_
  refine wl_valE (v := .bool false) rfl (rf_pickF rfl rfl rfl rfl) rfl ?_
  refine wl_valE (v := .bool false) rfl (rf_move rfl) rfl ?_
  refine wl_guardT rfl rfl rfl rfl ?_
  refine wl_valE (v := .pointer none) rfl (rf_move rfl) rfl ?_
  refine wl_guardT rfl rfl rfl rfl ?_
  refine wl_valE (v := .bool true) rfl (rf_eqlPN Try.underlying23 rfl rfl rfl rfl) rfl ?_
  refine wl_guardT rfl rfl rfl rfl ?_
  refine wl_valE (v := .pointer none) rfl (rf_move rfl) rfl ?_
  refine wl_guardT rfl rfl rfl rfl ?_
  refine wl_valE (v := .bool true) rfl (rf_eqlPN Try.underlying30 rfl rfl rfl rfl) rfl ?_
  refine wl_guardT rfl rfl rfl rfl ?_
  refine wl_valE (v := .bool false) rfl (rf_neqB Try.underlying4 rfl rfl rfl rfl) rfl ?_
  refine wl_valE (v := .bool false) rfl (rf_pickF rfl rfl rfl rfl) rfl ?_
  refine wl_nil ?_
  refine thn ?_
  refine condF rfl rfl ?_
  refine skip_ ?_
  refine thn ?_
  refine seq_ ?_
  refine seq_ ?_
  refine region_ ?_
  refine wl_valE (v := .int .i64 ((0 : Nat) : Int)) rfl (rf_assign rfl) rfl ?_
  refine wl_nil ?_
  refine thn ?_
  refine block_ ?_
  refine loop_ (fun lk lf lw => ∃ (g : Nat → Value) (i : Nat) , lf = upds g [(0, .int .i64 c1), (2, .slice pa L.length pcap), (7, .pointer none), (9, .pointer none), (11, .pointer none), (13, .pointer none), (15, .int .i64 ((i : Nat) : Int))] ∧ i + lk = L.length ∧ Kp (fun y => w.heap.size ≤ y) w4 lw) (L.length) ?_ ?_
  · refine ⟨_, 0, upds_self ⟨rfl, rfl, rfl, rfl, rfl, rfl, rfl, trivial⟩, ?_⟩
    refine ⟨by omega, Kp.refl _⟩
  · intro lk0 lf0 wl hI0
    obtain ⟨gl0, i, rfl, hik, hkl0⟩ := hI0
    have hp_wl := hp_w4.kp hkl0 (fun y hy e => by have := hFp y hy; first | omega | (have := htB y e; omega) | (have := htA y e; omega))
    have hkw_wl := hkw_w4.comp hkl0 (fun y hy e => by first | omega | (have := htB y e; omega) | (have := htA y e; omega))
    have hsl := hkl0.size
    refine seq_ ?_
    refine seq_ ?_
    refine region_ ?_
    refine wl_valE (v := .int .i64 ((i : Nat) : Int)) rfl (rf_move rfl) rfl ?_
    refine wl_valE (v := .slice pa L.length pcap) rfl (rf_move rfl) rfl ?_
    refine wl_valE (v := .int .i64 ((L.length : Nat) : Int)) rfl (rf_len_slice Try.underlying22 rfl rfl) rfl ?_
    refine wl_valE (v := .bool (decide (((i : Nat) : Int) < ((L.length : Nat) : Int)))) rfl (rf_lss rfl rfl rfl rfl) rfl ?_
    refine wl_nil ?_
    refine thn ?_
    refine cond_ (t := decide (((i : Nat) : Int) < ((L.length : Nat) : Int))) rfl rfl (fun c64 => ?_) (fun c64 => ?_)
    · have c64p := of_decide_eq_true c64
      obtain ⟨o, ho⟩ : ∃ o, L[i]? = some o := ⟨_, List.getElem?_eq_getElem (by omega)⟩
      obtain ⟨bx9, ox9, capx9, ex9, hcapx9, hFx9, hltx9, hcellx9⟩ := hp_wl.get (by omega)
      cases ex9
      refine skip_ ?_
      refine thn ?_
      refine seq_ ?_
      refine block_ ?_
      refine seq_ ?_
      refine region_ ?_
      refine wl_valE (v := .slice (some ⟨bx9, ox9, none⟩) L.length pcap) rfl (rf_move rfl) rfl ?_
      refine wl_valE (v := .int .i64 ((i : Nat) : Int)) rfl (rf_move rfl) rfl ?_
      refine wl_valE (v := .pointer (some ⟨bx9, ox9 + i * 6, none⟩)) rfl (rf_indexAddr Try.underlying22 ti34 rfl rfl rfl rfl (by omega) (by omega)) rfl ?_
      refine wl_valE (v := .agg #[.int .i64 o.kind, .int .i64 o.key.table, .int .i64 o.key.row, .int .i64 o.v, .int .i64 o.num, .bool o.two]) rfl (rf_loadAgg Try.underlying34 rfl ti34 rfl rfl (el_cells (hcellx9 i o ho)) rfl) rfl ?_
      refine wl_alloc ti34 ?_
      intro b5 w5 hg5 hk5 hb5
      have hp_w5 := hp_wl.keep hk5
      have hkw_w5 := hkw_wl.comp hk5 (fun _ _ e => e.elim)
      have hkl0_w5 := hkl0.comp hk5 (fun _ _ e => e.elim)
      have hs5 := hk5.size
      refine wl_storeAgg (b := b5) (o := 0) (cs := [.int .i64 o.kind, .int .i64 o.key.table, .int .i64 o.key.row, .int .i64 o.v, .int .i64 o.num, .bool o.two]) ti34 rfl rfl rfl rfl rfl (by simp [Value.oneCell']) hb5 (Nat.le_of_ble_eq_true rfl) ?_
      intro w6 hk6 hb6
      have hp_w6 := hp_w5.kp hk6 (fun y hy e => by have := hFp y hy; omega)
      have hkw_w6 := hkw_w5.comp hk6 (fun y hy e => by omega)
      have hkl0_w6 := hkl0_w5.comp hk6 (fun y hy e => by omega)
      have hs6 := hk6.size
      replace hb6 : Blk w6 b5 (.cells #[.int .i64 o.kind, .int .i64 o.key.table, .int .i64 o.key.row, .int .i64 o.v, .int .i64 o.num, .bool o.two] _ (0, 0)) := hb6
      refine wl_nil ?_
      refine thn ?_
      refine seq_ ?_
      refine region_ ?_
      refine wl_valE (v := .bool true) rfl (rf_assign rfl) rfl ?_
      refine wl_nil ?_
      refine thn ?_
      refine seq_ ?_
      refine seq_ ?_
      refine cut_ (fun lf lw => ∃ (g : Nat → Value) (q76 : Bool), lf = upds g [(0, .int .i64 c1), (2, .slice (some ⟨bx9, ox9, none⟩) L.length pcap), (7, .pointer none), (9, .pointer none), (11, .pointer none), (13, .pointer none), (15, .int .i64 ((i : Nat) : Int)), (16, .pointer (some ⟨b5, 0, none⟩)), (17, .bool true), (61, .int .i64 ((i : Nat) : Int)), (62, .slice (some ⟨bx9, ox9, none⟩) L.length pcap), (63, .int .i64 ((L.length : Nat) : Int)), (64, .bool (decide (((i : Nat) : Int) < ((L.length : Nat) : Int)))), (67, .slice (some ⟨bx9, ox9, none⟩) L.length pcap), (68, .int .i64 ((i : Nat) : Int)), (69, .pointer (some ⟨bx9, ox9 + i * 6, none⟩)), (70, .agg #[.int .i64 o.kind, .int .i64 o.key.table, .int .i64 o.key.row, .int .i64 o.v, .int .i64 o.num, .bool o.two]), (76, .bool q76)] ∧ q76 = false ∧ Kp (none_) w6 lw) ?_ ?_
      · refine region_ ?_
        refine wl_valE (v := .pointer (some ⟨b5, 5, none⟩)) rfl (rf_fieldAddr Try.underlying34 rfl ti4 rfl rfl) rfl ?_
        refine wl_valE (v := .bool o.two) rfl (rf_load Try.underlying4 rfl rfl rfl (hb6.cell rfl)) rfl ?_
        refine wl_valE (v := .bool o.two) rfl (rf_move rfl) rfl ?_
        refine wl_split (o.two) (fun u12_2 => ?_) (fun u12_2 => ?_)
        · refine wl_guardT rfl rfl rfl u12_2 ?_
          refine wl_valE (v := .pointer none) rfl (rf_move rfl) rfl ?_
          refine wl_guardT rfl rfl rfl u12_2 ?_
          refine wl_valE (v := .bool false) rfl (rf_neqPN Try.underlying23 rfl rfl rfl rfl) rfl ?_
          refine wl_valE (v := .bool false) rfl (rf_pickT rfl rfl rfl u12_2) rfl ?_
          refine wl_nil ?_
          refine cxn ⟨_, _, upds_self ⟨rfl, rfl, rfl, rfl, rfl, rfl, rfl, rfl, rfl, rfl, rfl, rfl, rfl, rfl, rfl, rfl, rfl, rfl, trivial⟩, ?_⟩
          exact ⟨rfl, Kp.refl _⟩
        · refine wl_guardF rfl rfl rfl u12_2 ?_
          refine wl_guardF rfl rfl rfl u12_2 ?_
          refine wl_valE (v := .bool false) rfl (rf_pickF rfl rfl rfl u12_2) rfl ?_
          refine wl_nil ?_
          refine cxn ⟨_, _, upds_self ⟨rfl, rfl, rfl, rfl, rfl, rfl, rfl, rfl, rfl, rfl, rfl, rfl, rfl, rfl, rfl, rfl, rfl, rfl, trivial⟩, ?_⟩
          exact ⟨rfl, Kp.refl _⟩
      · intro lfcutr12 wcB hIcutr12
        obtain ⟨glcutr12, q76, rfl, hfB, hkcB⟩ := hIcutr12
        have hp_wcB := hp_w6.keep hkcB
        have hkw_wcB := hkw_w6.comp hkcB (fun _ _ e => e.elim)
        have hkl0_wcB := hkl0_w6.comp hkcB (fun _ _ e => e.elim)
        have hb5_wcB := hb6.keep hkcB
        have hscB := hkcB.size
        refine thn ?_
        refine cond_ (t := q76) rfl rfl (fun c76 => ?_) (fun c76 => ?_)
        · simp [hfB] at c76
        · refine skip_ ?_
          refine thn ?_
          refine seq_ ?_
          refine seq_ ?_
          refine cut_ (fun lf lw => ∃ (g : Nat → Value) (q90 : Bool), lf = upds g [(0, .int .i64 c1), (2, .slice (some ⟨bx9, ox9, none⟩) L.length pcap), (7, .pointer none), (9, .pointer none), (11, .pointer none), (13, .pointer none), (15, .int .i64 ((i : Nat) : Int)), (16, .pointer (some ⟨b5, 0, none⟩)), (17, .bool true), (61, .int .i64 ((i : Nat) : Int)), (62, .slice (some ⟨bx9, ox9, none⟩) L.length pcap), (63, .int .i64 ((L.length : Nat) : Int)), (64, .bool (decide (((i : Nat) : Int) < ((L.length : Nat) : Int)))), (67, .slice (some ⟨bx9, ox9, none⟩) L.length pcap), (68, .int .i64 ((i : Nat) : Int)), (69, .pointer (some ⟨bx9, ox9 + i * 6, none⟩)), (70, .agg #[.int .i64 o.kind, .int .i64 o.key.table, .int .i64 o.key.row, .int .i64 o.v, .int .i64 o.num, .bool o.two]), (76, .bool q76), (90, .bool q90)] ∧ q90 = false ∧ Kp (none_) wcB lw) ?_ ?_
          · refine region_ ?_
            refine wl_valE (v := .pointer (some ⟨b5, 5, none⟩)) rfl (rf_fieldAddr Try.underlying34 rfl ti4 rfl rfl) rfl ?_
            refine wl_valE (v := .bool o.two) rfl (rf_load Try.underlying4 rfl rfl rfl (hb5_wcB.cell rfl)) rfl ?_
            refine wl_valE (v := .bool (!o.two)) rfl (rf_not rfl rfl) rfl ?_
            refine wl_valE (v := .bool (!o.two)) rfl (rf_move rfl) rfl ?_
            refine wl_split (!o.two) (fun u14_3 => ?_) (fun u14_3 => ?_)
            · refine wl_guardT rfl rfl rfl u14_3 ?_
              refine wl_valE (v := .pointer none) rfl (rf_move rfl) rfl ?_
              refine wl_guardT rfl rfl rfl u14_3 ?_
              refine wl_valE (v := .bool false) rfl (rf_neqPN Try.underlying23 rfl rfl rfl rfl) rfl ?_
              refine wl_valE (v := .bool false) rfl (rf_pickT rfl rfl rfl u14_3) rfl ?_
              refine wl_nil ?_
              refine cxn ⟨_, _, upds_self ⟨rfl, rfl, rfl, rfl, rfl, rfl, rfl, rfl, rfl, rfl, rfl, rfl, rfl, rfl, rfl, rfl, rfl, rfl, rfl, trivial⟩, ?_⟩
              exact ⟨rfl, Kp.refl _⟩
            · refine wl_guardF rfl rfl rfl u14_3 ?_
              refine wl_guardF rfl rfl rfl u14_3 ?_
              refine wl_valE (v := .bool false) rfl (rf_pickF rfl rfl rfl u14_3) rfl ?_
              refine wl_nil ?_
              refine cxn ⟨_, _, upds_self ⟨rfl, rfl, rfl, rfl, rfl, rfl, rfl, rfl, rfl, rfl, rfl, rfl, rfl, rfl, rfl, rfl, rfl, rfl, rfl, trivial⟩, ?_⟩
              exact ⟨rfl, Kp.refl _⟩
          · intro lfcutr14 wcA hIcutr14
            obtain ⟨glcutr14, q90, rfl, hfA, hkcA⟩ := hIcutr14
            have hp_wcA := hp_wcB.keep hkcA
            have hkw_wcA := hkw_wcB.comp hkcA (fun _ _ e => e.elim)
            have hkl0_wcA := hkl0_wcB.comp hkcA (fun _ _ e => e.elim)
            have hb5_wcA := hb5_wcB.keep hkcA
            have hscA := hkcA.size
            refine thn ?_
            refine cond_ (t := q90) rfl rfl (fun c90 => ?_) (fun c90 => ?_)
            · simp [hfA] at c90
            · refine skip_ ?_
              refine thn ?_
              refine seq_ ?_
              refine region_ ?_
              refine wl_valE (v := .bool true) rfl (rf_move rfl) rfl ?_
              refine wl_valE (v := .bool false) rfl (rf_not rfl rfl) rfl ?_
              refine wl_nil ?_
              refine thn ?_
              refine condF rfl rfl ?_
              refine skip_ ?_
              refine bln ?_
              refine thn ?_
              refine region_ ?_
              refine wl_valE (v := .int .i64 ((i : Nat) : Int)) rfl (rf_move rfl) rfl ?_
              refine wl_valE (v := .int .i64 ((i + 1 : Nat) : Int)) rfl (rf_add rfl rfl rfl rfl (IntWalk.i64_in _ (by omega))) rfl ?_
              refine wl_valE (v := .int .i64 ((i + 1 : Nat) : Int)) rfl (rf_assign rfl) rfl ?_
              refine wl_nil ?_
              refine thn ?_
              refine ⟨lk0 - 1, _, rfl, (by omega), _, i + 1, upds_self ⟨rfl, rfl, rfl, rfl, rfl, rfl, rfl, trivial⟩, ?_⟩
              refine ⟨by omega, hkl0_wcA⟩
    · have c64p := of_decide_eq_false c64
      refine exit_ ?_
      refine thx (thx (blx ?_))
      refine thn ?_
      refine seq_ ?_
      refine seq_ ?_
      refine region_ ?_
      refine wl_valE (v := .pointer none) rfl (rf_move rfl) rfl ?_
      refine wl_valE (v := .bool false) rfl (rf_neqPN Try.underlying23 rfl rfl rfl rfl) rfl ?_
      refine wl_nil ?_
      refine thn ?_
      refine condF rfl rfl ?_
      refine skip_ ?_
      refine thn ?_
      refine seq_ ?_
      refine region_ ?_
      refine wl_valE (v := .bool true) rfl (rf_assign rfl) rfl ?_
      refine wl_nil ?_
      refine thn ?_
      refine ret_ ?_
      refine fin1 (v := .bool true) Try.results3 rfl rfl ?_
      exact ⟨rfl, hkw_wl⟩
theorem lawPlays_ret (c1 c2 : Int) (vp : Value) (Fp : Nat → Prop) (L : List OpR) (w : World) (hL : L.length ≤ 2932031007390) (hp : Rd encOp 6 w Fp vp L) (hFp : ∀ b, Fp b → b < w.heap.size) : Ret Try.prog 3 [.int .i64 c1, .int .i64 c2, vp] w fun v w' => v = .bool true ∧ Kp none_ w w' := by
  by_cases h1 : 1 ≤ c1 ∧ c1 ≤ 256
  · obtain ⟨m1, rfl⟩ : ∃ m : Nat, c1 = (m : Int) := ⟨c1.toNat, by omega⟩
    by_cases h2 : 1 ≤ c2 ∧ c2 ≤ 256
    · obtain ⟨m2, rfl⟩ : ∃ m : Nat, c2 = (m : Int) := ⟨c2.toNat, by omega⟩
      exact lawPlays11_ret m1 (by omega) m2 (by omega) vp Fp L w hL hp hFp
    · exact lawPlays10_ret m1 (by omega) c2 h2 vp Fp L w hL hp hFp
  · by_cases h2 : 1 ≤ c2 ∧ c2 ≤ 256
    · obtain ⟨m2, rfl⟩ : ∃ m : Nat, c2 = (m : Int) := ⟨c2.toNat, by omega⟩
      exact lawPlays01_ret c1 h1 m2 (by omega) vp Fp L w hL hp hFp
    · exact lawPlays00_ret c1 h1 c2 h2 vp Fp L w hL hp hFp
end Go.Proofs.Ytenhbogebfdjjaa.W
