import Derived.Test.YtenhbogebfdjjaaL1M
import Derived.KernelRfl
namespace Go.Proofs.Ytenhbogebfdjjaa.W
open Go Go.Wk
set_option linter.unusedVariables false
theorem eachM_eq (S : List SlotM) (m : Nat) (p : Int) : (S.map (prM m)).filter (fun q => decide (q.part = p)) = (S.filter (inPM m p)).map (prM m) := by
  rw [List.filter_map]; rfl
theorem toldM_el {S : List SlotM} {m : Nat} {p : Int} {R : List SlotM} (hR : R = S.filter (inPM m p)) {j : Nat} {s : SlotM} (hs : R[j]? = some s) : (⟨s.key, s.val, p⟩ : PairR) = prM m s ∧ s ∈ S := by
  have h1 := List.mem_of_getElem? hs
  rw [hR, List.mem_filter] at h1
  have h2 : ((mixF s.key % m : Nat) : Int) = p := by simpa [inPM] using h1.2
  exact ⟨by unfold prM; rw [h2], h1.1⟩
theorem fndM_mem {S : List SlotM} (hn : (S.map (·.key)).Nodup) {s : SlotM} (hs : s ∈ S) : fndM S s.key = some s := by
  unfold fndM
  cases hf : S.find? (fun q => decide (q.key = s.key)) with
  | none => rw [List.find?_eq_none] at hf; simpa using hf s hs
  | some q => rw [nodup_keyM hn (List.mem_of_find?_eq_some hf) hs (by simpa using List.find?_some hf)]
theorem toldM_ret (b bp : Nat) (rs : List Nat) (ls : List (List (Key × SlotM))) (S : List SlotM) (came n : Int) (w : World) (hd : DictM w b bp rs ls came n) (hI : DIM ls S came n) (hc : came ≤ 4611686018427387903) (hS : S.length ≤ 2932031007400) (p : Int) : Ret Try.prog 10 [.pointer (some ⟨b, 0, none⟩), .int .i64 p] w fun v w' => Sl encPair 4 57 w' (fun y => w.heap.size ≤ y ∧ y < w'.heap.size) v ((S.filter (inPM ls.length p)).map (prM ls.length)) ∧ Kp none_ w w' := by
  have hkw : Kp none_ w w := Kp.refl w
  have hdd := hd
  obtain ⟨R, hR⟩ : ∃ R, R = S.filter (inPM ls.length p) := ⟨_, rfl⟩
  have hRl : R.length ≤ 2932031007400 := by rw [hR]; exact Nat.le_trans (List.length_filter_le _ _) hS
  have hcm := hI.cameOk hc
  have hln : ∀ l ∈ ls, l.length ≤ 2932031007401 := fun l hl => Nat.le_trans (hI.lens l hl) (by omega)
  refine enterR Try.func10 rfl Try.ntmps10 rfl ?_
  intro g0
  refine seq_ ?_
  refine region_ ?_
  refine wl_valE (v := .slice none 0 0) rfl (rf_assign rfl) rfl ?_
  refine wl_nil ?_
  refine thn ?_
  refine seq_ ?_
  refine region_ ?_
  refine wl_valE (v := .slice none 0 0) rfl (rf_assign rfl) rfl ?_
  refine wl_nil ?_
  refine thn ?_
  refine seq_ ?_
  refine region_ ?_
  refine wl_valE (v := .pointer (some ⟨b, 0, none⟩)) rfl (rf_move rfl) rfl ?_
  refine wl_valE (v := .int .i64 p) rfl (rf_move rfl) rfl ?_
  refine wl_ret rfl (keysM_ret b bp rs ls came n w hdd p hcm hln) (rf_call Try.call24 rfl rfl) ?_
  rintro vq w1 ⟨R1, hR1, hka, hk1⟩
  obtain rfl : R1 = R := (hI.row hR1).trans hR.symm
  obtain ⟨Aa, Ac, hAv, hAc⟩ := hka.form
  rw [List.length_map] at hAv hAc
  subst hAv
  obtain ⟨W1, hW1⟩ : ∃ n, n = w1.heap.size := ⟨_, rfl⟩
  rw [← hW1] at hka
  have hdd_w1 := hdd.keep hk1
  have hkw_w1 := hkw.comp hk1 (fun _ _ e => e.elim)
  have hs1 := hk1.size
  refine wl_valE (v := .slice Aa R1.length Ac) rfl (rf_assign rfl) rfl ?_
  refine wl_nil ?_
  refine thn ?_
  refine seq_ ?_
  refine region_ ?_
  refine wl_valE (v := .pointer (some ⟨b, 0, none⟩)) rfl (rf_move rfl) rfl ?_
  refine wl_valE (v := .int .i64 p) rfl (rf_move rfl) rfl ?_
  refine wl_ret rfl (keysM_ret b bp rs ls came n w1 hdd_w1 p hcm hln) (rf_call Try.call24 rfl rfl) ?_
  rintro vq w2 ⟨R2, hR2, hkb, hk2⟩
  obtain rfl : R2 = R1 := (hI.row hR2).trans hR.symm
  obtain ⟨Ba, Bc, hBv, hBc⟩ := hkb.form
  rw [List.length_map] at hBv hBc
  subst hBv
  obtain ⟨W2, hW2⟩ : ∃ n, n = w2.heap.size := ⟨_, rfl⟩
  rw [← hW2] at hkb
  have hW1w : W1 ≤ w1.heap.size := by omega
  have hdd_w2 := hdd_w1.keep hk2
  have hkw_w2 := hkw_w1.comp hk2 (fun _ _ e => e.elim)
  have hka_w2 := hka.keep hk2
  have hs2 := hk2.size
  refine wl_valE (v := .slice Ba R2.length Bc) rfl (rf_assign rfl) rfl ?_
  refine wl_nil ?_
  refine thn ?_
  refine seq_ ?_
  refine seq_ ?_
  refine region_ ?_
  refine wl_valE (v := .int .i64 ((0 : Nat) : Int)) rfl (rf_assign rfl) rfl ?_
  refine wl_nil ?_
  refine thn ?_
  refine block_ ?_
  refine loop_ (fun lk lf lw => ∃ (g : Nat → Value) (j : Nat) (la : List Key), lf = upds g [(0, .pointer (some ⟨b, 0, none⟩)), (1, .int .i64 p), (4, .slice none 0 0), (5, .slice none 0 0), (6, .slice Aa R2.length Ac), (7, .slice Ba R2.length Bc), (8, .int .i64 ((j : Nat) : Int))] ∧ j + lk = R2.length ∧ la.length = R2.length ∧ Sl encKey 2 28 lw (fun y => w.heap.size ≤ y ∧ y < W1) (.slice Aa R2.length Ac) la ∧ Kp (fun y => w.heap.size ≤ y ∧ y < W1) w2 lw) (R2.length) ?_ ?_
  · refine ⟨_, 0, (R2.map (·.key)), upds_self ⟨rfl, rfl, rfl, rfl, rfl, rfl, rfl, trivial⟩, ?_⟩
    exact ⟨by omega, by rw [List.length_map], hka_w2, Kp.refl _⟩
  · intro lk0 lf0 wl hI0
    obtain ⟨gl0, j, la, rfl, hjk, hlal, hka, hkl0⟩ := hI0
    have hdd_wl := hdd_w2.kp hkl0 (fun y hy e => by have := hd.lt y hy; omega)
    have hkw_wl := hkw_w2.comp hkl0 (fun y hy e => by omega)
    have hkb_wl := hkb.kp hkl0 (fun y hy e => by have := hy.1; omega)
    have hsl := hkl0.size
    refine seq_ ?_
    refine seq_ ?_
    refine region_ ?_
    refine wl_valE (v := .int .i64 ((j : Nat) : Int)) rfl (rf_move rfl) rfl ?_
    refine wl_valE (v := .slice Aa R2.length Ac) rfl (rf_move rfl) rfl ?_
    refine wl_valE (v := .int .i64 ((R2.length : Nat) : Int)) rfl (rf_len_slice Try.underlying58 rfl rfl) rfl ?_
    refine wl_valE (v := .bool (decide (((j : Nat) : Int) < ((R2.length : Nat) : Int)))) rfl (rf_lss rfl rfl rfl rfl) rfl ?_
    refine wl_nil ?_
    refine thn ?_
    refine cond_ (t := decide (((j : Nat) : Int) < ((R2.length : Nat) : Int))) rfl rfl (fun c21 => ?_) (fun c21 => ?_)
    · have c21p := of_decide_eq_true c21
      obtain ⟨k0, hk0⟩ : ∃ k, la[j]? = some k := ⟨_, List.getElem?_eq_getElem (by omega)⟩
      obtain ⟨Ab, Ao, Ac2, et, hAF, hAt⟩ := hka.at (by omega)
      simp only [Value.slice.injEq] at et
      obtain ⟨rfl, _, rfl⟩ := et
      refine skip_ ?_
      refine thn ?_
      refine seq_ ?_
      refine block_ ?_
      refine region_ ?_
      refine wl_valE (v := .slice (some ⟨Ab, Ao, none⟩) R2.length Ac) rfl (rf_move rfl) rfl ?_
      refine wl_valE (v := .int .i64 ((j : Nat) : Int)) rfl (rf_move rfl) rfl ?_
      refine wl_valE (v := .int .i64 ((j : Nat) : Int)) rfl (rf_move rfl) rfl ?_
      refine wl_valE (v := .int .i64 ((-1 : Int) - ((j : Nat) : Int))) rfl (rf_sub rfl rfl rfl rfl (IntWalk.i64_in _ (by omega))) rfl ?_
      refine wl_valE (v := .pointer (some ⟨Ab, Ao + j * 2, none⟩)) rfl (rf_indexAddr Try.underlying58 ti28 rfl rfl rfl rfl (by omega) (by omega)) rfl ?_
      refine wl_valE (v := .pointer (some ⟨Ab, Ao + j * 2, none⟩)) rfl (rf_fieldAddr Try.underlying28 rfl ti3 rfl rfl) rfl ?_
      refine wl_storeEl (i := j) (j := 0) (q := (⟨-1 - ((j : Nat) : Int), k0.row⟩ : Key)) (u := .int .i64 ((-1 : Int) - ((j : Nat) : Int))) (c := [.int .i64 ((-1 : Int) - ((j : Nat) : Int))]) encKey_len ti3 rfl rfl rfl (by simp) rfl rfl rfl (by simp [Value.oneCell']) hAt hk0 (Nat.le_of_ble_eq_true rfl) rfl ?_
      intro w3 hk3 ha3
      have hdd_w3 := hdd_wl.kp hk3 (fun y hy e => by have := hd.lt y hy; omega)
      have hkw_w3 := hkw_wl.comp hk3 (fun y hy e => by omega)
      have hkb_w3 := hkb_wl.kp hk3 (fun y hy e => by have := hy.1; omega)
      have hkl0_w3 := hkl0.comp hk3 (fun y hy e => by omega)
      have hs3 := hk3.size
      refine wl_nil ?_
      refine bln ?_
      refine thn ?_
      refine region_ ?_
      refine wl_valE (v := .int .i64 ((j : Nat) : Int)) rfl (rf_move rfl) rfl ?_
      refine wl_valE (v := .int .i64 ((j + 1 : Nat) : Int)) rfl (rf_add rfl rfl rfl rfl (IntWalk.i64_in _ (by omega))) rfl ?_
      refine wl_valE (v := .int .i64 ((j + 1 : Nat) : Int)) rfl (rf_assign rfl) rfl ?_
      refine wl_nil ?_
      refine thn ?_
      refine ⟨lk0 - 1, _, rfl, (by omega), _, j + 1, (la.set j ⟨-1 - ((j : Nat) : Int), k0.row⟩), upds_self ⟨rfl, rfl, rfl, rfl, rfl, rfl, rfl, trivial⟩, ?_⟩
      have h9 := ha3.sl (F := fun y => w.heap.size ≤ y ∧ y < W1) hAF
      rw [List.length_set, hlal] at h9
      exact ⟨by omega, by rw [List.length_set]; exact hlal, h9, hkl0_w3⟩
    · have c21p := of_decide_eq_false c21
      refine exit_ ?_
      refine thx (thx (blx ?_))
      refine thn ?_
      refine seq_ ?_
      refine region_ ?_
      refine wl_valE (v := .slice Aa R2.length Ac) rfl (rf_move rfl) rfl ?_
      refine wl_valE (v := .agg #[.int .i64 (-99 : Int), .int .i64 ((0 : Nat) : Int)]) rfl (rf_build (offs := [(0, [.int .i64 (-99 : Int)])]) (places := #[(0, 1), (1, 1)]) Try.underlying28 ti28 (fun w => by kernel_rfl) (.cons rfl rfl rfl rfl rfl rfl .nil)) rfl ?_
      refine wl_valE (v := .agg #[.int .i64 (-98 : Int), .int .i64 ((0 : Nat) : Int)]) rfl (rf_build (offs := [(0, [.int .i64 (-98 : Int)])]) (places := #[(0, 1), (1, 1)]) Try.underlying28 ti28 (fun w => by kernel_rfl) (.cons rfl rfl rfl rfl rfl rfl .nil)) rfl ?_
      refine wl_buildSlice (css := [[.int .i64 (-99 : Int), .int .i64 ((0 : Nat) : Int)], [.int .i64 (-98 : Int), .int .i64 ((0 : Nat) : Int)]]) Try.underlying58 ti28 rfl rfl rfl (.cons rfl rfl rfl rfl rfl rfl (.cons rfl rfl rfl rfl rfl rfl .nil)) (by simp) ?_
      intro b4 w4 hg4 hk4 hb4
      have hdd_w4 := hdd_wl.keep hk4
      have hkw_w4 := hkw_wl.comp hk4 (fun _ _ e => e.elim)
      have hkb_w4 := hkb_wl.keep hk4
      have hkl0_w4 := hkl0.comp hk4 (fun _ _ e => e.elim)
      have hka_w4 := hka.keep hk4
      have hs4 := hk4.size
      refine wl_append encKey_len encKey_one Try.underlying58 ti28 rfl rfl rfl rfl rfl (hka_w4) ((SlAt.of_blk (l := [(⟨-99, 0⟩ : Key), ⟨-98, 0⟩]) encKey_len (by simp) hb4).rd (F := fun b => b = b4) rfl) (by simp; omega) (by simp; omega) ?_
      intro v5 w5 hk5 ha5
      have hdd_w5 := hdd_w4.kp hk5 (fun y hy e => by have := hd.lt y hy; have := e.1; omega)
      have hkw_w5 := hkw_w4.comp hk5 (fun y hy e => by have := e.1; omega)
      have hkb_w5 := hkb_w4.kp hk5 (fun y hy e => by have := hy.1; omega)
      have hkl0_w5 := hkl0_w4.comp hk5 (fun y hy e => e)
      have hs5 := hk5.size
      obtain ⟨Aa3, Ac3, hA3, _⟩ := ha5.form
      subst hA3
      refine wl_valE (v := .slice Aa3 ((la ++ [(⟨-99, 0⟩ : Key), ⟨-98, 0⟩]).length) Ac3) rfl (rf_assign rfl) rfl ?_
      refine wl_nil ?_
      refine thn ?_
      refine seq_ ?_
      refine seq_ ?_
      refine region_ ?_
      refine wl_valE (v := .int .i64 ((0 : Nat) : Int)) rfl (rf_assign rfl) rfl ?_
      refine wl_nil ?_
      refine thn ?_
      refine block_ ?_
      refine loop_ (fun lk lf lw => ∃ (g : Nat → Value) (j : Nat) (sv : Value) (G : Nat → Prop), lf = upds g [(0, .pointer (some ⟨b, 0, none⟩)), (1, .int .i64 p), (4, .slice none 0 0), (5, sv), (6, .slice Aa3 ((la ++ [(⟨-99, 0⟩ : Key), ⟨-98, 0⟩]).length) Ac3), (7, .slice Ba R2.length Bc), (9, .int .i64 ((j : Nat) : Int))] ∧ j + lk = R2.length ∧ Sl encPair 4 57 lw G sv ((R2.take j).map (prM ls.length)) ∧ (∀ y, G y → W2 ≤ y ∧ y < lw.heap.size) ∧ Kp (fun y => W2 ≤ y) w5 lw) (R2.length) ?_ ?_
      · refine ⟨_, 0, (.slice none 0 0), (fun _ => False), upds_self ⟨rfl, rfl, rfl, rfl, rfl, rfl, rfl, trivial⟩, ?_⟩
        exact ⟨by omega, Sl.nil _ _, fun y h => h.elim, Kp.refl _⟩
      · intro lk1 lf1 wm hI1
        obtain ⟨gl1, j, sv, G, rfl, hjk, hsl, hG, hkl1⟩ := hI1
        have hdd_wm := hdd_w5.kp hkl1 (fun y hy e => by have := hd.lt y hy; omega)
        have hkw_wm := hkw_w5.comp hkl1 (fun y hy e => by omega)
        have hkb_wm := hkb_w5.kp hkl1 (fun y hy e => by have := hy.1; omega)
        have hsm := hkl1.size
        refine seq_ ?_
        refine seq_ ?_
        refine region_ ?_
        refine wl_valE (v := .int .i64 ((j : Nat) : Int)) rfl (rf_move rfl) rfl ?_
        refine wl_valE (v := .slice Ba R2.length Bc) rfl (rf_move rfl) rfl ?_
        refine wl_valE (v := .int .i64 ((R2.length : Nat) : Int)) rfl (rf_len_slice Try.underlying58 rfl rfl) rfl ?_
        refine wl_valE (v := .bool (decide (((j : Nat) : Int) < ((R2.length : Nat) : Int)))) rfl (rf_lss rfl rfl rfl rfl) rfl ?_
        refine wl_nil ?_
        refine thn ?_
        refine cond_ (t := decide (((j : Nat) : Int) < ((R2.length : Nat) : Int))) rfl rfl (fun c38 => ?_) (fun c38 => ?_)
        · have c38p := of_decide_eq_true c38
          obtain ⟨s, hs⟩ : ∃ s, R2[j]? = some s := ⟨_, List.getElem?_eq_getElem (by omega)⟩
          obtain ⟨he, hsS⟩ := toldM_el hR hs
          have hkj : (R2.map (·.key))[j]? = some s.key := by rw [List.getElem?_map, hs]; rfl
          obtain ⟨Bb, Bo, Bc2, et, hBF, hBt⟩ := hkb_wm.at (by rw [List.length_map]; omega)
          simp only [Value.slice.injEq] at et
          obtain ⟨rfl, _, rfl⟩ := et
          have hBF1 := hBF.1
          have hBF2 := hBF.2
          refine skip_ ?_
          refine thn ?_
          refine seq_ ?_
          refine block_ ?_
          refine seq_ ?_
          refine region_ ?_
          refine wl_valE (v := .pointer (some ⟨b, 0, none⟩)) rfl (rf_move rfl) rfl ?_
          refine wl_valE (v := .slice (some ⟨Bb, Bo, none⟩) R2.length Bc) rfl (rf_move rfl) rfl ?_
          refine wl_valE (v := .int .i64 ((j : Nat) : Int)) rfl (rf_move rfl) rfl ?_
          refine wl_valE (v := .pointer (some ⟨Bb, Bo + j * 2, none⟩)) rfl (rf_indexAddr Try.underlying58 ti28 rfl rfl rfl rfl (by omega) (by omega)) rfl ?_
          refine wl_valE (v := .agg #[.int .i64 s.key.table, .int .i64 s.key.row]) rfl (rf_loadAgg Try.underlying28 rfl ti28 rfl rfl (el_cells (hBt.cell hkj)) rfl) rfl ?_
          refine wl_ret rfl (dGetM s.key b bp rs ls S came n wm hdd_wm hI) (rf_call Try.call15 rfl rfl) ?_
          rintro vq w6 ⟨hv, hk6⟩
          unfold resM at hv
          rw [fndM_mem hI.keys hsS] at hv
          subst hv
          have hdd_w6 := hdd_wm.keep hk6
          have hkw_w6 := hkw_wm.comp hk6 (fun _ _ e => e.elim)
          have hkb_w6 := hkb_wm.keep hk6
          have hkl1_w6 := hkl1.comp hk6 (fun _ _ e => e.elim)
          have hsl_w6 := hsl.keep hk6
          have hBt_w6 := hBt.keep hk6
          have hs6 := hk6.size
          refine wl_valE (v := .tuple #[.int .i64 s.val, .bool true]) rfl (rf_move rfl) rfl ?_
          refine wl_valE (v := .int .i64 s.val) rfl (rf_extract rfl rfl rfl) rfl ?_
          refine wl_valE (v := .bool true) rfl (rf_extract rfl rfl rfl) rfl ?_
          refine wl_valE (v := .int .i64 s.val) rfl (rf_assign rfl) rfl ?_
          refine wl_valE (v := .bool true) rfl (rf_assign rfl) rfl ?_
          refine wl_nil ?_
          refine thn ?_
          refine seq_ ?_
          refine region_ ?_
          refine wl_valE (v := .bool true) rfl (rf_move rfl) rfl ?_
          refine wl_valE (v := .bool true) rfl (rf_move rfl) rfl ?_
          refine wl_guardT rfl rfl rfl rfl ?_
          refine wl_valE (v := .slice Aa3 ((la ++ [(⟨-99, 0⟩ : Key), ⟨-98, 0⟩]).length) Ac3) rfl (rf_move rfl) rfl ?_
          refine wl_guardT rfl rfl rfl rfl ?_
          refine wl_valE (v := .int .i64 (((la ++ [(⟨-99, 0⟩ : Key), ⟨-98, 0⟩]).length : Nat) : Int)) rfl (rf_len_slice Try.underlying58 rfl rfl) rfl ?_
          refine wl_guardT rfl rfl rfl rfl ?_
          refine wl_valE (v := .slice (some ⟨Bb, Bo, none⟩) R2.length Bc) rfl (rf_move rfl) rfl ?_
          refine wl_guardT rfl rfl rfl rfl ?_
          refine wl_valE (v := .int .i64 ((R2.length : Nat) : Int)) rfl (rf_len_slice Try.underlying58 rfl rfl) rfl ?_
          refine wl_guardT rfl rfl rfl rfl ?_
          refine wl_valE (v := .int .i64 ((R2.length + 2 : Nat) : Int)) rfl (rf_add rfl rfl rfl rfl (IntWalk.i64_in _ (by omega))) rfl ?_
          refine wl_guardT rfl rfl rfl rfl ?_
          refine wl_valE (v := .bool true) rfl (rf_eql rfl rfl rfl rfl) (congrArg Value.bool (decide_eq_true (by simp; omega))) ?_
          refine wl_valE (v := .bool true) rfl (rf_pickT rfl rfl rfl rfl) rfl ?_
          refine wl_nil ?_
          refine thn ?_
          refine condT rfl rfl ?_
          refine region_ ?_
          refine wl_valE (v := sv) rfl (rf_move rfl) rfl ?_
          refine wl_valE (v := .slice (some ⟨Bb, Bo, none⟩) R2.length Bc) rfl (rf_move rfl) rfl ?_
          refine wl_valE (v := .int .i64 ((j : Nat) : Int)) rfl (rf_move rfl) rfl ?_
          refine wl_valE (v := .pointer (some ⟨Bb, Bo + j * 2, none⟩)) rfl (rf_indexAddr Try.underlying58 ti28 rfl rfl rfl rfl (by omega) (by omega)) rfl ?_
          refine wl_valE (v := .agg #[.int .i64 s.key.table, .int .i64 s.key.row]) rfl (rf_loadAgg Try.underlying28 rfl ti28 rfl rfl (el_cells (hBt_w6.cell hkj)) rfl) rfl ?_
          refine wl_valE (v := .int .i64 s.val) rfl (rf_move rfl) rfl ?_
          refine wl_valE (v := .int .i64 p) rfl (rf_move rfl) rfl ?_
          refine wl_valE (v := .agg #[.int .i64 s.key.table, .int .i64 s.key.row, .int .i64 s.val, .int .i64 p]) rfl (rf_build (offs := [(0, [.int .i64 s.key.table, .int .i64 s.key.row]), (2, [.int .i64 s.val]), (3, [.int .i64 p])]) (places := #[(0, 2), (2, 1), (3, 1)]) Try.underlying57 ti57 (fun w => by kernel_rfl) (.cons rfl rfl rfl rfl rfl rfl (.cons rfl rfl rfl rfl rfl rfl (.cons rfl rfl rfl rfl rfl rfl .nil)))) rfl ?_
          refine wl_buildSlice (css := [[.int .i64 s.key.table, .int .i64 s.key.row, .int .i64 s.val, .int .i64 p]]) Try.underlying38 ti57 rfl rfl rfl (.cons rfl rfl rfl rfl rfl rfl .nil) (by simp) ?_
          intro b7 w7 hg7 hk7 hb7
          have ne7_Bb : Bb ≠ b7 := Nat.ne_of_lt (Nat.lt_of_lt_of_le hBt_w6.lt hg7)
          have hdd_w7 := hdd_w6.keep hk7
          have hkw_w7 := hkw_w6.comp hk7 (fun _ _ e => e.elim)
          have hkb_w7 := hkb_w6.keep hk7
          have hkl1_w7 := hkl1_w6.comp hk7 (fun _ _ e => e.elim)
          have hsl_w7 := hsl_w6.keep hk7
          have hBt_w7 := hBt_w6.keep hk7
          have hs7 := hk7.size
          refine wl_append encPair_len encPair_one Try.underlying38 ti57 rfl rfl rfl rfl rfl (hsl_w7) ((SlAt.of_blk (l := [(⟨s.key, s.val, p⟩ : PairR)]) encPair_len (by simp) hb7).rd (F := fun b => b = b7) rfl) (by simp; omega) (by simp; omega) ?_
          intro v8 w8 hk8 ha8
          have hdd_w8 := hdd_w7.kp hk8 (fun y hy e => by have := hd.lt y hy; have := hG y e; omega)
          have hkw_w8 := hkw_w7.comp hk8 (fun y hy e => by have := hG y e; omega)
          have hkb_w8 := hkb_w7.kp hk8 (fun y hy e => by have := hG y e; have := hy.2; omega)
          have hkl1_w8 := hkl1_w7.comp hk8 (fun y hy e => (hG y e).1)
          have hBt_w8 := hBt_w7.kp hk8 (fun e => by have := hG _ e; omega)
          have hs8 := hk8.size
          refine wl_valE (v := v8) rfl (rf_assign rfl) rfl ?_
          refine wl_nil ?_
          refine bln ?_
          refine thn ?_
          refine region_ ?_
          refine wl_valE (v := .int .i64 ((j : Nat) : Int)) rfl (rf_move rfl) rfl ?_
          refine wl_valE (v := .int .i64 ((j + 1 : Nat) : Int)) rfl (rf_add rfl rfl rfl rfl (IntWalk.i64_in _ (by omega))) rfl ?_
          refine wl_valE (v := .int .i64 ((j + 1 : Nat) : Int)) rfl (rf_assign rfl) rfl ?_
          refine wl_nil ?_
          refine thn ?_
          refine ⟨lk1 - 1, _, rfl, (by omega), _, j + 1, (v8), (fun y => (G y ∨ W2 ≤ y) ∧ y < w8.heap.size), upds_self ⟨rfl, rfl, rfl, rfl, rfl, rfl, rfl, trivial⟩, ?_⟩
          have h9 := ha8.tight
          exact ⟨by omega, by rw [List.take_add_one, hs, Option.toList_some, List.map_append, List.map_singleton, ← he]; exact h9.mono (fun y hy => ⟨hy.1.elim .inl (fun e => .inr (by omega)), hy.2⟩), fun y hy => ⟨hy.1.elim (fun e => (hG y e).1) id, hy.2⟩, hkl1_w8⟩
        · have c38p := of_decide_eq_false c38
          refine exit_ ?_
          refine thx (thx (blx ?_))
          refine thn ?_
          refine seq_ ?_
          refine region_ ?_
          refine wl_valE (v := sv) rfl (rf_move rfl) rfl ?_
          refine wl_valE (v := sv) rfl (rf_assign rfl) rfl ?_
          refine wl_nil ?_
          refine thn ?_
          refine ret_ ?_
          refine fin1 (v := sv) Try.results10 rfl rfl ?_
          have hj : j = R2.length := by omega
          have h9 := hsl
          rw [List.take_of_length_le (by omega), hR] at h9
          exact ⟨h9.mono (fun y hy => ⟨by have := (hG y hy).1; omega, by have := (hG y hy).2; omega⟩), hkw_wm⟩
end Go.Proofs.Ytenhbogebfdjjaa.W
